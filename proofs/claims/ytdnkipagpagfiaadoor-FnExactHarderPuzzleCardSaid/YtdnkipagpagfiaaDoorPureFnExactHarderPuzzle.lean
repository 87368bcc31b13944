/- FnExactHarderPuzzle: whatever the puzzle, the program takes clues out as the reference does, leaves the puzzle as it was, and returns memory of its own. Condition: the table of math/bits lies as its initialiser lays it (the card's own). -/
import Derived.Test.YtdnkipagpagfiaaDoorLawFnExactHarderPuzzle
import Derived.Test.YtdnkipagpagfiaaDoorPBase
import Derived.Test.YtdnkipagpagfiaaDoorPurBSol2
namespace Go.Proofs.YtdnkipagpagfiaaDoor.PSol2
set_option linter.unusedVariables false
set_option linter.unusedSimpArgs false
open Go.RowKit Go.Proofs.YtdnkipagpagfiaaDoor.Base Go.Proofs.YtdnkipagpagfiaaDoor.PSol2 Go.Proofs.YtdnkipagpagfiaaDoorW.PrintWords Go.Proofs.YtdnkipagpagfiaaDoorW.PrintLast Go.Proofs.YtdnkipagpagfiaaDoorW.PrintMore
theorem laws_heldClueS.ok (n : Nat) (hl : n ≤ 1048576) (k : Nat) (hk : n < k) : laws_heldClueS.f k ((List.range n).map mkClue) 1 = some (1 + 3 * (n : Int)) := by
  unfold laws_heldClueS.f
  refine held_loop (fun k m i => laws_heldClueS.l0 k ((List.range n).map mkClue) m i) 3 n ?_ ?_ k hk
  · intro k i h
    have e1 : wrap64 (1 + ((3 : Nat) : Int) * i + 1) = 2 + 3 * i := by rw [wrap_id (by omega) (by omega)]; omega
    have e2 : wrap64 (2 + 3 * (i : Int) + 1) = 3 + 3 * i := by rw [wrap_id (by omega) (by omega)]; omega
    have e3 : wrap64 (3 + 3 * (i : Int) + 1) = 1 + ((3 : Nat) : Int) * ((i + 1 : Nat) : Int) := by rw [wrap_id (by omega) (by omega)]; omega
    have e4 : wrap64 ((i : Int) + 1) = ((i + 1 : Nat) : Int) := by rw [wrap_id (by omega) (by omega)]; omega
    simp only [laws_heldClueS.l0, e1, e2, e3, e4]
    rw [if_pos (by simp; omega), if_pos (by omega), rd_T30_nat _ i (by simp; omega)]
    simp [mkClue]
  · intro k m
    simp only [laws_heldClueS.l0]
    rw [if_neg (by simp)]

theorem laws_heldPuzzle.ok (p : Int) (n : Nat) (hl : n ≤ 1048576) (k : Nat) (hk : n < k) : laws_heldPuzzle.f k p ((List.range n).map mkClue) 1 = some (1 + 3 * (n : Int)) := by
  unfold laws_heldPuzzle.f
  rw [laws_heldClueS.ok n hl k hk]
  simp only [Option.bind_some]
  rw [if_neg (by omega)]

theorem spec_pzSolved.ok (n : Nat) (h0 : 1 ≤ n) (hn : n ≤ 5) (cs : List S30) (hcl : cs.length ≤ 100) (hcs : ∀ c ∈ cs, clueI n c.f0 c.f1 c.f2 = true) : Ev (fun k => spec_pzSolved.f k (n : Int) cs) (((solveL n cs).length : Int) == 1) := by
  refine Ev.bind (spec_pzAll.ok n h0 hn cs hcl hcs) ?_
  rw [List.length_map]
  exact Ev.now _

/-- What is left of some clues, taken out from one on as long as there is just one solution. -/
def hardL (n : Nat) : Nat → List S30 → Nat → List S30
  | 0, L, _ => L
  | f + 1, L, k => if k < L.length then (if (solveL n (L.eraseIdx k)).length = 1 then hardL n f (L.eraseIdx k) k else hardL n f L (k + 1)) else L
theorem hardL_len (n : Nat) : ∀ f L k, (hardL n f L k).length ≤ L.length
  | 0, _, _ => Nat.le_refl _
  | f + 1, L, k => by
    simp only [hardL]
    split
    · split
      · exact Nat.le_trans (hardL_len n f _ _) (List.length_eraseIdx_le L k)
      · exact hardL_len n f _ _
    · exact Nat.le_refl _
def hardC (n : Int) (cs : List S30) : Int × List S30 × Bool := if goodP n cs = true ∧ (solveL n.toNat cs).length = 1 then (n, hardL n.toNat 8 cs 0, true) else (0, [], false)
theorem hardC_len (n : Int) (cs : List S30) : (hardC n cs).2.1.length ≤ 9 := by
  unfold hardC
  split
  · rename_i h
    have := hardL_len n.toNat 8 cs 0
    have h8 := h.1
    unfold goodP at h8
    simp only [Bool.and_eq_true, decide_eq_true_eq] at h8
    simp only
    omega
  · simp
theorem spec_hard_loop (N : Nat) (h1 : 1 ≤ N) (h2 : N ≤ 5) (cs : List S30) : ∀ f (L : List S30) (i : Nat), L.length - i ≤ f → L.length ≤ 8 → i ≤ 8 → (∀ c ∈ L, clueI N c.f0 c.f1 c.f2 = true) → Ev (fun k => spec_HarderPuzzle.l0 k L (i : Int) (N : Int) cs) ((N : Int), hardL N f L i, true) := by
  have hend : ∀ (L : List S30) (i : Nat), L.length ≤ i → Ev (fun k => spec_HarderPuzzle.l0 k L (i : Int) (N : Int) cs) ((N : Int), L, true) := by
    intro L i hi
    refine Ev.step (f := fun _ => some ((N : Int), L, true)) (fun k => ?_) (Ev.now _)
    rw [spec_HarderPuzzle.l0, if_neg (by omega)]
  intro f
  induction f with
  | zero => intro L i hf h8 hi hc; exact hend L i (by omega)
  | succ f ih =>
    intro L i hf h8 hi hc
    simp only [hardL]
    by_cases hlt : i < L.length
    · rw [if_pos hlt]
      have hle := List.length_eraseIdx_of_lt hlt
      have hc2 : ∀ c ∈ L.eraseIdx i, clueI N c.f0 c.f1 c.f2 = true := fun c h => hc c ((List.eraseIdx_sublist L i).subset h)
      have hs := spec_pzSolved.ok N h1 h2 (L.eraseIdx i) (by omega) hc2
      refine Ev.step (f := fun k => (spec_pzSolved.f k (N : Int) (L.eraseIdx i)).bind fun t => if t = true then spec_HarderPuzzle.l0 k (L.eraseIdx i) (i : Int) (N : Int) cs else spec_HarderPuzzle.l0 k L ((i + 1 : Nat) : Int) (N : Int) cs) (fun k => ?_) (Ev.bind hs ?_)
      · rw [spec_HarderPuzzle.l0, if_pos (by omega), spec_pzWithout.ok L i h8 (by omega) (by omega), nat_succ i (by omega)]
        rfl
      · by_cases hp : (solveL N (L.eraseIdx i)).length = 1
        · rw [if_pos hp]
          exact Ev.ite_pos (by simp; omega) (ih _ _ (by omega) (by omega) (by omega) hc2)
        · rw [if_neg hp]
          exact Ev.ite_neg (by simp; omega) (ih _ _ (by omega) (by omega) (by omega) hc)
    · rw [if_neg hlt]
      exact hend L i (by omega)
theorem spec_HarderPuzzle.ok (n : Int) (cs : List S30) : Ev (fun k => spec_HarderPuzzle.f k n cs) (hardC n cs) := by
  unfold spec_HarderPuzzle.f hardC
  refine Ev.bind (ev_of 12 fun k hk => spec_pzGood.ok n cs k hk) ?_
  have hno : Ev (fun k => spec_HarderPuzzle.j0 k true n cs) (0, [], false) := Ev.step (f := fun _ => some (0, [], false)) (fun k => by rw [spec_HarderPuzzle.j0, if_pos rfl]) (Ev.now _)
  by_cases hg : goodP n cs = true
  · refine Ev.ite_pos hg ?_
    have h0 : 0 ≤ n := by
      unfold goodP guests at hg
      simp only [Bool.and_eq_true, decide_eq_true_eq] at hg
      omega
    obtain ⟨N, rfl⟩ := Int.eq_ofNat_of_zero_le h0
    obtain ⟨h1, h2, h3⟩ := clue_of hg
    simp only [Int.toNat_natCast]
    refine Ev.bind (spec_pzSolved.ok N h1.1 h1.2 cs (by omega) h3) ?_
    by_cases hs : (solveL N cs).length = 1
    · rw [if_pos ⟨hg, hs⟩, show (((solveL N cs).length : Int) == 1) = true from by simp; omega]
      refine Ev.step (fun k => ?_) (spec_hard_loop N h1.1 h1.2 cs 8 cs 0 (by omega) h2 (by omega) h3)
      rw [spec_HarderPuzzle.j0, if_neg (by simp)]
      simp only [Option.bind_some, List.nil_append, List.length_nil]
      rw [if_pos (by omega)]
      rfl
    · rw [if_neg (fun h => hs h.2), show (((solveL N cs).length : Int) == 1) = false from by simp; omega]
      exact hno
  · rw [if_neg (fun h => hg h.1)]
    exact Ev.ite_neg hg hno

def isSol (n : Int) (cs : List S30) : Bool × Bool := if goodP n cs = true then (((solveL n.toNat cs).length : Int) == 1, true) else (false, false)
theorem impl_IsSolved.ok (n : Int) (cs : List S30) : Ev (fun k => impl_IsSolved.f k n cs) (isSol n cs) := by
  refine Ev.bind (impl_CountSolutions.ok n cs) ?_
  unfold countSol isSol
  split <;> exact Ev.now _

theorem impl_hard_loop (N : Nat) (h1 : 1 ≤ N) (h2 : N ≤ 5) (cs : List S30) : ∀ f (L : List S30) (i : Nat), L.length - i ≤ f → L.length ≤ 8 → i ≤ 8 → (∀ c ∈ L, clueI N c.f0 c.f1 c.f2 = true) → Ev (fun k => impl_HarderPuzzle.l0 k L (i : Int) (N : Int) cs) ((N : Int), hardL N f L i, true) := by
  have hend : ∀ (L : List S30) (i : Nat), L.length ≤ i → Ev (fun k => impl_HarderPuzzle.l0 k L (i : Int) (N : Int) cs) ((N : Int), L, true) := by
    intro L i hi
    refine Ev.step (f := fun _ => some ((N : Int), L, true)) (fun k => ?_) (Ev.now _)
    rw [impl_HarderPuzzle.l0, if_neg (by omega)]
  intro f
  induction f with
  | zero => intro L i hf h8 hi hc; exact hend L i (by omega)
  | succ f ih =>
    intro L i hf h8 hi hc
    simp only [hardL]
    by_cases hlt : i < L.length
    · rw [if_pos hlt]
      have hle := List.length_eraseIdx_of_lt hlt
      have hc2 : ∀ c ∈ L.eraseIdx i, clueI N c.f0 c.f1 c.f2 = true := fun c h => hc c ((List.eraseIdx_sublist L i).subset h)
      have hs := impl_solutions.ok N h1 h2 (L.eraseIdx i) hc2
      refine Ev.step (f := fun k => (impl_solutions.f k (N : Int) (L.eraseIdx i)).bind fun t => if (t.length : Int) = 1 then impl_HarderPuzzle.l0 k (L.eraseIdx i) (i : Int) (N : Int) cs else impl_HarderPuzzle.l0 k L ((i + 1 : Nat) : Int) (N : Int) cs) (fun k => ?_) (Ev.bind hs ?_)
      · rw [impl_HarderPuzzle.l0, if_pos (by omega), show impl_dropped.f L (i : Int) = some (L.eraseIdx i) from by unfold impl_dropped.f; rw [if_pos ⟨by omega, by omega, by omega⟩, Int.toNat_natCast], nat_succ i (by omega)]
        rfl
      · rw [List.length_map]
        by_cases hp : (solveL N (L.eraseIdx i)).length = 1
        · rw [if_pos hp]
          exact Ev.ite_pos (by omega) (ih _ _ (by omega) (by omega) (by omega) hc2)
        · rw [if_neg hp]
          exact Ev.ite_neg (by omega) (ih _ _ (by omega) (by omega) (by omega) hc)
    · rw [if_neg hlt]
      exact hend L i (by omega)
theorem impl_HarderPuzzle.ok (n : Int) (cs : List S30) : Ev (fun k => impl_HarderPuzzle.f k n cs) (hardC n cs) := by
  unfold impl_HarderPuzzle.f hardC
  refine Ev.bind (impl_IsSolved.ok n cs) ?_
  unfold isSol
  by_cases hg : goodP n cs = true
  · rw [if_pos hg]
    have h0 : 0 ≤ n := by
      unfold goodP guests at hg
      simp only [Bool.and_eq_true, decide_eq_true_eq] at hg
      omega
    obtain ⟨N, rfl⟩ := Int.eq_ofNat_of_zero_le h0
    obtain ⟨h1, h2, h3⟩ := clue_of hg
    simp only [Int.toNat_natCast]
    by_cases hs : (solveL N cs).length = 1
    · rw [if_pos ⟨hg, hs⟩]
      refine Ev.ite_pos (by simp; omega) ?_
      simp only [impl_Clue_92.f]
      rw [if_pos (by omega)]
      exact impl_hard_loop N h1.1 h1.2 cs 8 cs 0 (by omega) h2 (by omega) h3
    · rw [if_neg (fun h => hs h.2)]
      exact Ev.ite_neg (by simp; omega) (Ev.now _)
  · rw [if_neg hg, if_neg (fun h => hg h.1)]
    exact Ev.ite_neg (by simp) (Ev.now _)

end Go.Proofs.YtdnkipagpagfiaaDoor.PSol2
namespace Go.Proofs.YtdnkipagpagfiaaDoor
open Go.RowKit Go.Proofs.YtdnkipagpagfiaaDoor.Base Go.Proofs.YtdnkipagpagfiaaDoor.PSol2 Go.Proofs.YtdnkipagpagfiaaDoorW.PrintWords Go.Proofs.YtdnkipagpagfiaaDoorW.PrintLast Go.Proofs.YtdnkipagpagfiaaDoorW.PrintMore
theorem fnExactHarderPuzzle_pure : fnExactHarderPuzzle.Pure := by
  intro n l hn hl
  have hm := hl.1
  refine Ev.rounds (g := fun k => laws_FnExactHarderPuzzle.f k n l) ?_
  unfold laws_FnExactHarderPuzzle.f
  rw [laws_szPuzzle.ok n l _ (by omega) (by omega) hl.1]
  simp only [Option.bind_some]
  by_cases h0 : (1048576 : Int) - l.length < 0
  · rw [if_pos h0]
    exact Ev.ite_pos (by omega) (Ev.now _)
  · rw [if_neg h0]
    refine Ev.ite_neg (by omega) ?_
    have hlen : l.length ≤ 1048576 := by omega
    have hcl : (cls l).length ≤ 1048576 := by rw [cls_length]; exact hlen
    have ht : Ev (fun k => laws_toPuzzle.f k n l) (n, cls l) := ev_of (l.length + 1) fun k hk => laws_toPuzzle.ok n l hlen k (by omega)
    have hep : Ev (fun k => laws_eqPuzzle.f k n (cls l) n (cls l)) true := ev_of ((cls l).length + 1) fun k hk => laws_eqPuzzle.refl n (cls l) hcl k (by omega)
    have hmp : Ev (fun k => laws_markPuzzle.f k n (cls l) 1) (1 + 3 * ((cls l).length : Int), (List.range (cls l).length).map mkClue) := ev_of ((cls l).length + 1) fun k hk => laws_markPuzzle.ok n (cls l) hcl k (by omega)
    have hs := spec_HarderPuzzle.ok n (cls l)
    have hi := impl_HarderPuzzle.ok n (cls l)
    have h9 := hardC_len n (cls l)
    generalize hardC n (cls l) = x at hs hi h9
    obtain ⟨p, r, b⟩ := x
    simp only at h9
    have hei : Ev (fun k => laws_eqPuzzle.f k p r p r) true := ev_of (r.length + 1) fun k hk => laws_eqPuzzle.refl p r (by omega) k (by omega)
    have hmi : Ev (fun k => laws_markPuzzle.f k p r 1) (1 + 3 * (r.length : Int), (List.range r.length).map mkClue) := ev_of (r.length + 1) fun k hk => laws_markPuzzle.ok p r (by omega) k (by omega)
    have hhi : Ev (fun k => laws_heldPuzzle.f k p ((List.range r.length).map mkClue) 1) (1 + 3 * (r.length : Int)) := ev_of (r.length + 1) fun k hk => laws_heldPuzzle.ok p r.length (by omega) k (by omega)
    refine Ev.bind ht (Ev.bind hs (Ev.bind ht (Ev.bind hi (Ev.bind hei (Ev.ite_pos rfl (Ev.ite_neg (by simp) (Ev.bind ht (Ev.bind hep (Ev.ite_pos rfl (Ev.bind hmp (Ev.ite_neg ?_ ?_)))))))))))
    · simp only; omega
    refine Ev.bind hei (Ev.ite_pos rfl (Ev.bind hmi (Ev.bind hhi (Ev.ite_neg (by omega) (Ev.ite_pos rfl (Ev.bind ht (Ev.bind hi (Ev.bind hei (Ev.ite_pos rfl (Ev.ite_neg (by simp) (Ev.bind hhi (Ev.ite_neg (by omega) (Ev.ite_pos rfl (Ev.now _))))))))))))))
theorem fnExactHarderPuzzle_holds : Rows.FnExactHarderPuzzleCardSaid := fnExactHarderPuzzle.proved fnExactHarderPuzzle_pure
end Go.Proofs.YtdnkipagpagfiaaDoor
