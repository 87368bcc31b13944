/- FnExactFirstSolution: whatever the puzzle, the program's first solution is the reference's, the puzzle is left as it was, and what is returned is memory of its own. Condition: the table of math/bits lies as its initialiser lays it (the card's own). -/
import Derived.Test.YtdnkipagpagfiaaDoorLawFnExactFirstSolution
import Derived.Test.YtdnkipagpagfiaaDoorPBase
import Derived.Test.YtdnkipagpagfiaaDoorPurBSol3
namespace Go.Proofs.YtdnkipagpagfiaaDoor.PSol3
set_option linter.unusedVariables false
set_option linter.unusedSimpArgs false
open Go.RowKit Go.Proofs.YtdnkipagpagfiaaDoor.Base Go.Proofs.YtdnkipagpagfiaaDoor.PSol3 Go.Proofs.YtdnkipagpagfiaaDoorW.PrintWords Go.Proofs.YtdnkipagpagfiaaDoorW.PrintLast Go.Proofs.YtdnkipagpagfiaaDoorW.PrintMore
theorem laws_eqParty.refl (n : Int) (l : List S110) (hl : l.length ≤ 1048576) (k : Nat) (hk : l.length < k) : laws_eqParty.f k n l n l = some true := by
  unfold laws_eqParty.f
  rw [if_pos rfl, laws_eqPairS.refl l hl k hk]; rfl

theorem laws_markParty.ok (n : Int) (l : List S110) (hl : l.length ≤ 1048576) (k : Nat) (hk : l.length < k) : laws_markParty.f k n l 1 = some (1 + 2 * (l.length : Int), (List.range l.length).map mkPair) := by
  unfold laws_markParty.f
  rw [laws_markPairS.ok l hl k hk]; rfl

theorem good_nat {n : Int} {cs : List S30} (hg : goodP n cs = true) : ∃ N : Nat, n = (N : Int) := by
  have h0 : 0 ≤ n := by
    unfold goodP guests at hg
    simp only [Bool.and_eq_true, decide_eq_true_eq] at hg
    omega
  exact Int.eq_ofNat_of_zero_le h0
def firstC (n : Int) (cs : List S30) : Int × List S110 × Bool := if goodP n cs = true then (match solveL n.toNat cs with | [] => (0, [], false) | l :: _ => (n, l, true)) else (0, [], false)
theorem firstC_len (n : Int) (cs : List S30) : (firstC n cs).2.1.length ≤ 66 := by
  unfold firstC
  by_cases hg : goodP n cs = true
  · rw [if_pos hg]
    obtain ⟨N, rfl⟩ := good_nat hg
    obtain ⟨h1, h2, h3⟩ := clue_of hg
    cases h : solveL (N : Int).toNat cs with
    | nil => simp
    | cons l t =>
      simp only
      simp only [Int.toNat_natCast] at h
      have hm : l ∈ solveL N cs := by rw [h]; simp
      exact goodB_len66 (allP_good N h1.1 h1.2 l ((List.mem_filter.1 hm).1))
  · rw [if_neg hg]; simp
theorem spec_FirstSolution.ok (n : Int) (cs : List S30) : Ev (fun k => spec_FirstSolution.f k n cs) (firstC n cs) := by
  unfold spec_FirstSolution.f firstC
  refine Ev.bind (ev_of 12 fun k hk => spec_pzGood.ok n cs k hk) ?_
  by_cases hg : goodP n cs = true
  · refine Ev.ite_pos hg ?_
    rw [if_pos hg]
    obtain ⟨N, rfl⟩ := good_nat hg
    obtain ⟨h1, h2, h3⟩ := clue_of hg
    refine Ev.bind (spec_pzAll.ok N h1.1 h1.2 cs (by omega) h3) ?_
    simp only [Int.toNat_natCast]
    cases h : solveL N cs with
    | nil => exact Ev.ite_pos rfl (Ev.now _)
    | cons l t => exact Ev.ite_neg (by simp only [List.map_cons, List.length_cons]; omega) (Ev.ite_pos (by simp only [List.map_cons, List.length_cons]; omega) (Ev.now _))
  · refine Ev.ite_neg hg ?_
    rw [if_neg hg]
    exact Ev.now _

theorem impl_FirstSolution.ok (n : Int) (cs : List S30) : Ev (fun k => impl_FirstSolution.f k n cs) (firstC n cs) := by
  unfold impl_FirstSolution.f firstC
  refine Ev.bind (impl_CountSolutions.ok n cs) ?_
  unfold countSol
  by_cases hg : goodP n cs = true
  · rw [if_pos hg, if_pos hg]
    obtain ⟨N, rfl⟩ := good_nat hg
    obtain ⟨h1, h2, h3⟩ := clue_of hg
    simp only [Int.toNat_natCast]
    have hs := impl_solutions.ok N h1.1 h1.2 cs h3
    by_cases h : solveL N cs = []
    · refine Ev.ite_pos (by rw [h]; rfl) ?_
      rw [h]
      exact Ev.now _
    · obtain ⟨l, t, h⟩ := List.exists_cons_of_ne_nil h
      rw [h] at hs
      refine Ev.ite_neg (by rw [h]; simp only [List.length_cons]; omega) (Ev.bind (Ev.bind hs (Ev.now _)) (Ev.ite_pos (by simp only [List.map_cons, List.length_cons]; omega) ?_))
      rw [h]
      exact Ev.now _
  · rw [if_neg hg, if_neg hg]
    exact Ev.ite_pos rfl (Ev.now _)

theorem laws_heldParty.ok (p : Int) (n : Nat) (hl : n ≤ 1048576) (k : Nat) (hk : n < k) : laws_heldParty.f k p ((List.range n).map mkPair) 1 = some (1 + 2 * (n : Int)) := by
  unfold laws_heldParty.f
  rw [laws_heldPairS.ok n hl k hk]
  simp only [Option.bind_some]
  rw [if_neg (by omega)]

end Go.Proofs.YtdnkipagpagfiaaDoor.PSol3
namespace Go.Proofs.YtdnkipagpagfiaaDoor
open Go.RowKit Go.Proofs.YtdnkipagpagfiaaDoor.Base Go.Proofs.YtdnkipagpagfiaaDoor.PSol3 Go.Proofs.YtdnkipagpagfiaaDoorW.PrintWords Go.Proofs.YtdnkipagpagfiaaDoorW.PrintLast Go.Proofs.YtdnkipagpagfiaaDoorW.PrintMore
theorem fnExactFirstSolution_pure : fnExactFirstSolution.Pure := by
  intro n l hn hl
  have hm := hl.1
  refine Ev.rounds (g := fun k => laws_FnExactFirstSolution.f k n l) ?_
  unfold laws_FnExactFirstSolution.f
  rw [laws_szPuzzle.ok n l _ (by omega) (by omega) hl.1]
  simp only [Option.bind_some]
  by_cases h0 : (1048576 : Int) - l.length < 0
  · rw [if_pos h0]
    exact Ev.ite_pos (by omega) (Ev.now _)
  · rw [if_neg h0]
    refine Ev.ite_neg (by omega) ?_
    have hlen : l.length ≤ 1048576 := by omega
    have hcl : (cls l).length ≤ 1048576 := by rw [cls_length]; exact hlen
    have ht : Ev (fun k => laws_toPuzzle.f k n l) (n, cls l) := ev_of (l.length + 1) fun k hk => laws_toPuzzle.ok n l hlen k (by omega)
    have hep : Ev (fun k => laws_eqPuzzle.f k n (cls l) n (cls l)) true := ev_of ((cls l).length + 1) fun k hk => laws_eqPuzzle.refl n (cls l) hcl k (by omega)
    have hmp : Ev (fun k => laws_markPuzzle.f k n (cls l) 1) (1 + 3 * ((cls l).length : Int), (List.range (cls l).length).map mkClue) := ev_of ((cls l).length + 1) fun k hk => laws_markPuzzle.ok n (cls l) hcl k (by omega)
    have hs := spec_FirstSolution.ok n (cls l)
    have hi := impl_FirstSolution.ok n (cls l)
    have h9 := firstC_len n (cls l)
    generalize firstC n (cls l) = x at hs hi h9
    obtain ⟨p, r, b⟩ := x
    simp only at h9
    have hei : Ev (fun k => laws_eqParty.f k p r p r) true := ev_of (r.length + 1) fun k hk => laws_eqParty.refl p r (by omega) k (by omega)
    have hmi : Ev (fun k => laws_markParty.f k p r 1) (1 + 2 * (r.length : Int), (List.range r.length).map mkPair) := ev_of (r.length + 1) fun k hk => laws_markParty.ok p r (by omega) k (by omega)
    have hhi : Ev (fun k => laws_heldParty.f k p ((List.range r.length).map mkPair) 1) (1 + 2 * (r.length : Int)) := ev_of (r.length + 1) fun k hk => laws_heldParty.ok p r.length (by omega) k (by omega)
    refine Ev.bind ht (Ev.bind hs (Ev.bind ht (Ev.bind hi (Ev.bind hei (Ev.ite_pos rfl (Ev.ite_neg (by simp) (Ev.bind ht (Ev.bind hep (Ev.ite_pos rfl (Ev.bind hmp (Ev.ite_neg ?_ ?_)))))))))))
    · simp only; omega
    refine Ev.bind hei (Ev.ite_pos rfl (Ev.bind hmi (Ev.bind hhi (Ev.ite_neg (by omega) (Ev.ite_pos rfl (Ev.bind ht (Ev.bind hi (Ev.bind hei (Ev.ite_pos rfl (Ev.ite_neg (by simp) (Ev.bind hhi (Ev.ite_neg (by omega) (Ev.ite_pos rfl (Ev.now _))))))))))))))
theorem fnExactFirstSolution_holds : Rows.FnExactFirstSolutionCardSaid := fnExactFirstSolution.proved fnExactFirstSolution_pure
end Go.Proofs.YtdnkipagpagfiaaDoor
