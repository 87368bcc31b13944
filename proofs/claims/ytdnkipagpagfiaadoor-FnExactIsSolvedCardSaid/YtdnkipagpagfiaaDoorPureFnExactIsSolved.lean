/- FnExactIsSolved: whatever the puzzle, the program says whether it is solved as the reference does, and leaves the puzzle as it was. Condition: the table of math/bits lies as its initialiser lays it (the card's own). -/
import Derived.Test.YtdnkipagpagfiaaDoorLawFnExactIsSolved
import Derived.Test.YtdnkipagpagfiaaDoorPBase
import Derived.Test.YtdnkipagpagfiaaDoorPurBSol
namespace Go.Proofs.YtdnkipagpagfiaaDoor.PSol
set_option linter.unusedVariables false
set_option linter.unusedSimpArgs false
open Go.RowKit Go.Proofs.YtdnkipagpagfiaaDoor.Base Go.Proofs.YtdnkipagpagfiaaDoor.PSol Go.Proofs.YtdnkipagpagfiaaDoorW.PrintWords Go.Proofs.YtdnkipagpagfiaaDoorW.PrintLast Go.Proofs.YtdnkipagpagfiaaDoorW.PrintMore
def isSol (n : Int) (cs : List S30) : Bool × Bool := if goodP n cs = true then (((solveL n.toNat cs).length : Int) == 1, true) else (false, false)
theorem spec_pzSolved.ok (n : Nat) (h0 : 1 ≤ n) (hn : n ≤ 5) (cs : List S30) (hcl : cs.length ≤ 100) (hcs : ∀ c ∈ cs, clueI n c.f0 c.f1 c.f2 = true) : Ev (fun k => spec_pzSolved.f k (n : Int) cs) (((solveL n cs).length : Int) == 1) := by
  refine Ev.bind (spec_pzAll.ok n h0 hn cs hcl hcs) ?_
  rw [List.length_map]
  exact Ev.now _
theorem spec_IsSolved.ok (n : Int) (cs : List S30) : Ev (fun k => spec_IsSolved.f k n cs) (isSol n cs) := by
  unfold spec_IsSolved.f isSol
  refine Ev.bind (ev_of 12 fun k hk => spec_pzGood.ok n cs k hk) ?_
  by_cases hg : goodP n cs = true
  · refine Ev.ite_pos hg ?_
    rw [if_pos hg]
    have h0 : 0 ≤ n := by
      unfold goodP guests at hg
      simp only [Bool.and_eq_true, decide_eq_true_eq] at hg
      omega
    obtain ⟨N, rfl⟩ := Int.eq_ofNat_of_zero_le h0
    obtain ⟨h1, h2, h3⟩ := clue_of hg
    exact Ev.bind (spec_pzSolved.ok N h1.1 h1.2 cs (by omega) h3) (Ev.now _)
  · refine Ev.ite_neg hg ?_
    rw [if_neg hg]
    exact Ev.now _

theorem impl_IsSolved.ok (n : Int) (cs : List S30) : Ev (fun k => impl_IsSolved.f k n cs) (isSol n cs) := by
  refine Ev.bind (impl_CountSolutions.ok n cs) ?_
  unfold countSol isSol
  split <;> exact Ev.now _

end Go.Proofs.YtdnkipagpagfiaaDoor.PSol
namespace Go.Proofs.YtdnkipagpagfiaaDoor
open Go.RowKit Go.Proofs.YtdnkipagpagfiaaDoor.Base Go.Proofs.YtdnkipagpagfiaaDoor.PSol Go.Proofs.YtdnkipagpagfiaaDoorW.PrintWords Go.Proofs.YtdnkipagpagfiaaDoorW.PrintLast Go.Proofs.YtdnkipagpagfiaaDoorW.PrintMore
theorem fnExactIsSolved_pure : fnExactIsSolved.Pure := by
  intro n l hn hl
  have hm := hl.1
  refine Ev.rounds (g := fun k => laws_FnExactIsSolved.f k n l) ?_
  unfold laws_FnExactIsSolved.f
  rw [laws_szPuzzle.ok n l _ (by omega) (by omega) hl.1]
  simp only [Option.bind_some]
  by_cases h0 : (1048576 : Int) - l.length < 0
  · rw [if_pos h0]
    exact Ev.ite_pos (by omega) (Ev.now _)
  · rw [if_neg h0]
    refine Ev.ite_neg (by omega) ?_
    have hlen : l.length ≤ 1048576 := by omega
    have hcl : (cls l).length ≤ 1048576 := by rw [cls_length]; exact hlen
    have ht : Ev (fun k => laws_toPuzzle.f k n l) (n, cls l) := ev_of (l.length + 1) fun k hk => laws_toPuzzle.ok n l hlen k (by omega)
    refine Ev.bind ht (Ev.bind (spec_IsSolved.ok n (cls l)) (Ev.bind ht (Ev.bind (impl_IsSolved.ok n (cls l)) ?_)))
    refine Ev.ite_neg (by simp) (Ev.ite_neg (by simp) (Ev.bind ht ?_))
    refine Ev.bind (ev_of ((cls l).length + 1) fun k hk => laws_eqPuzzle.refl n (cls l) hcl k (by omega)) ?_
    exact Ev.ite_pos rfl (Ev.now _)
theorem fnExactIsSolved_holds : Rows.FnExactIsSolvedCardSaid := fnExactIsSolved.proved fnExactIsSolved_pure
end Go.Proofs.YtdnkipagpagfiaaDoor
