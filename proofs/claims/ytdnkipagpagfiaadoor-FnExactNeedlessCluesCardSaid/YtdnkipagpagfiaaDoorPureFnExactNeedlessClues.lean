/- FnExactNeedlessClues: whatever the puzzle, the program tells the clues that are needless as the reference does, leaves the puzzle as it was, and returns memory of its own. Condition: the table of math/bits lies as its initialiser lays it (the card's own). -/
import Derived.Test.YtdnkipagpagfiaaDoorLawFnExactNeedlessClues
import Derived.Test.YtdnkipagpagfiaaDoorPBase
import Derived.Test.YtdnkipagpagfiaaDoorPurBSol2
namespace Go.Proofs.YtdnkipagpagfiaaDoor.PSol2
set_option linter.unusedVariables false
set_option linter.unusedSimpArgs false
open Go.RowKit Go.Proofs.YtdnkipagpagfiaaDoor.Base Go.Proofs.YtdnkipagpagfiaaDoor.PSol2 Go.Proofs.YtdnkipagpagfiaaDoorW.PrintWords Go.Proofs.YtdnkipagpagfiaaDoorW.PrintLast Go.Proofs.YtdnkipagpagfiaaDoorW.PrintMore
theorem rd_nat (l : List Int) (i : Nat) (h : i < l.length) : rd l (i : Int) = l[i] := by simp [rd, List.getD, h]
theorem laws_eqIntS.refl (l : List Int) (hl : l.length ≤ 1048576) (k : Nat) (hk : l.length < k) : laws_eqIntS.f k l l = some true := by
  unfold laws_eqIntS.f
  rw [if_pos rfl]
  rw [all_loop (fun k i => laws_eqIntS.l0 k l l i) l.length (fun _ => true) (by omega) 0 ?_ ?_ k hk]
  · simp
  · intro k i h _
    simp only [laws_eqIntS.l0]
    rw [if_pos (by omega), if_pos (by omega), if_pos (by omega)]
    first | done | simp
  · intro k
    simp only [laws_eqIntS.l0]
    rw [if_neg (by omega)]

def mkInt (i : Nat) : Int := 1 + ((1 : Nat) : Int) * i
theorem laws_markIntS.ok (l : List Int) (hl : l.length ≤ 1048576) (k : Nat) (hk : l.length < k) : laws_markIntS.f k l 1 = some (1 + ((1 : Nat) : Int) * (l.length : Int), (List.range l.length).map mkInt) := by
  unfold laws_markIntS.f
  refine mark_loop (fun k acc m i => laws_markIntS.l0 k acc m i) mkInt 1 l.length ?_ ?_ k l rfl hk
  · intro k acc i h ha
    have e1 : wrap64 (1 + ((1 : Nat) : Int) * i + 1) = 1 + ((1 : Nat) : Int) * ((i + 1 : Nat) : Int) := by rw [wrap_id (by omega) (by omega)]; omega
    have e4 : wrap64 ((i : Int) + 1) = ((i + 1 : Nat) : Int) := by rw [wrap_id (by omega) (by omega)]; omega
    simp only [laws_markIntS.l0, e1, e4, Int.toNat_natCast]
    rw [if_pos (by omega), if_pos (by omega)]
    rfl
  · intro k acc m ha
    simp only [laws_markIntS.l0]
    rw [if_neg (by omega)]

theorem laws_heldIntS.ok (n : Nat) (hl : n ≤ 1048576) (k : Nat) (hk : n < k) : laws_heldIntS.f k ((List.range n).map mkInt) 1 = some (1 + ((1 : Nat) : Int) * (n : Int)) := by
  unfold laws_heldIntS.f
  refine held_loop (fun k m i => laws_heldIntS.l0 k ((List.range n).map mkInt) m i) 1 n ?_ ?_ k hk
  · intro k i h
    have e1 : wrap64 (1 + ((1 : Nat) : Int) * i + 1) = 1 + ((1 : Nat) : Int) * ((i + 1 : Nat) : Int) := by rw [wrap_id (by omega) (by omega)]; omega
    have e4 : wrap64 ((i : Int) + 1) = ((i + 1 : Nat) : Int) := by rw [wrap_id (by omega) (by omega)]; omega
    simp only [laws_heldIntS.l0, e1, e4]
    rw [if_pos (by simp; omega), if_pos (by omega), rd_nat _ i (by simp; omega)]
    simp [mkInt]
  · intro k m
    simp only [laws_heldIntS.l0]
    rw [if_neg (by simp)]

def needP (n : Nat) (cs : List S30) (k : Nat) : Bool := (solveL n (cs.eraseIdx k)).length == (solveL n cs).length
def needC (n : Int) (cs : List S30) : List Int × Bool := if goodP n cs = true then (((List.range cs.length).filter (needP n.toNat cs)).map (fun (k : Nat) => (k : Int)), true) else ([], false)
theorem needC_len (n : Int) (cs : List S30) : (needC n cs).1.length ≤ 9 := by
  unfold needC
  split
  · rename_i h
    unfold goodP at h
    simp only [Bool.and_eq_true, decide_eq_true_eq] at h
    have := List.length_filter_le (needP n.toNat cs) (List.range cs.length)
    simp only [List.length_map, List.length_range] at this ⊢
    omega
  · simp
theorem need_step (n : Nat) (cs : List S30) (i : Nat) : ((List.range (i + 1)).filter (needP n cs)).map (fun (k : Nat) => (k : Int)) = ((List.range i).filter (needP n cs)).map (fun (k : Nat) => (k : Int)) ++ if needP n cs i = true then [(i : Int)] else [] := by
  rw [List.range_succ, List.filter_append, List.map_append]
  congr 1
  by_cases h : needP n cs i = true <;> simp [h]
theorem need_iff (n : Nat) (cs : List S30) (i : Nat) : (((solveL n (cs.eraseIdx i)).length : Int) = ((solveL n cs).length : Int)) ↔ needP n cs i = true := by
  unfold needP
  simp only [beq_iff_eq]
  omega
theorem need_len (n : Nat) (cs : List S30) (i : Nat) : (((List.range i).filter (needP n cs)).map (fun (k : Nat) => (k : Int))).length ≤ i := by
  have := List.length_filter_le (needP n cs) (List.range i)
  simp only [List.length_map, List.length_range] at this ⊢
  omega
theorem spec_NeedlessClues.ok (n : Int) (cs : List S30) : Ev (fun k => spec_NeedlessClues.f k n cs) (needC n cs) := by
  unfold spec_NeedlessClues.f needC
  refine Ev.bind (ev_of 12 fun k hk => spec_pzGood.ok n cs k hk) ?_
  by_cases hg : goodP n cs = true
  · refine Ev.ite_pos hg ?_
    rw [if_pos hg]
    have h0 : 0 ≤ n := by
      unfold goodP guests at hg
      simp only [Bool.and_eq_true, decide_eq_true_eq] at hg
      omega
    obtain ⟨N, rfl⟩ := Int.eq_ofNat_of_zero_le h0
    obtain ⟨h1, h2, h3⟩ := clue_of hg
    simp only [Int.toNat_natCast]
    refine Ev.bind (spec_pzAll.ok N h1.1 h1.2 cs (by omega) h3) ?_
    rw [List.length_map]
    have key := up_loop (P := fun i => Ev (fun k => spec_NeedlessClues.l0 k (((List.range i).filter (needP N cs)).map (fun (k : Nat) => (k : Int))) ((solveL N cs).length : Int) (cs.length : Int) (i : Int) (N : Int) cs) (((List.range cs.length).filter (needP N cs)).map (fun (k : Nat) => (k : Int)), true)) (n := cs.length) (by
        refine Ev.step (f := fun _ => some (((List.range cs.length).filter (needP N cs)).map (fun (k : Nat) => (k : Int)), true)) (fun k => ?_) (Ev.now _)
        rw [spec_NeedlessClues.l0, if_neg (by omega)]) (by
        intro i hi ih
        have hl := need_len N cs i
        have ha := spec_pzAll.ok N h1.1 h1.2 (cs.eraseIdx i) (by have := List.length_eraseIdx_le cs i; omega) (fun c hc => h3 c ((List.eraseIdx_sublist cs i).subset hc))
        refine Ev.step (f := fun k => (spec_pzAll.f k (N : Int) (cs.eraseIdx i)).bind fun t => if (t.length : Int) = ((solveL N cs).length : Int) then spec_NeedlessClues.l0 k (((List.range i).filter (needP N cs)).map (fun (k : Nat) => (k : Int)) ++ [(i : Int)]) ((solveL N cs).length : Int) (cs.length : Int) ((i + 1 : Nat) : Int) (N : Int) cs else spec_NeedlessClues.l0 k (((List.range i).filter (needP N cs)).map (fun (k : Nat) => (k : Int))) ((solveL N cs).length : Int) (cs.length : Int) ((i + 1 : Nat) : Int) (N : Int) cs) (fun k => ?_) (Ev.bind ha ?_)
        · rw [spec_NeedlessClues.l0, if_pos (by omega), spec_pzWithout.ok cs i (by omega) (by omega) (by omega), nat_succ i (by omega)]
          have hL : (((List.range i).filter (needP N cs)).map (fun (k : Nat) => (k : Int))).length < 17592186044416 := by omega
          simp only [Option.bind_some, if_pos hL, Int.toNat_natCast]
        · rw [List.length_map]
          rw [need_step] at ih
          by_cases hp : needP N cs i = true
          · rw [if_pos hp] at ih
            exact Ev.ite_pos ((need_iff N cs i).2 hp) ih
          · rw [if_neg hp, List.append_nil] at ih
            exact Ev.ite_neg (fun h => hp ((need_iff N cs i).1 h)) ih) 0 (Nat.zero_le _)
    exact key
  · refine Ev.ite_neg hg ?_
    rw [if_neg hg]
    exact Ev.now _

theorem impl_NeedlessClues.ok (n : Int) (cs : List S30) : Ev (fun k => impl_NeedlessClues.f k n cs) (needC n cs) := by
  unfold impl_NeedlessClues.f needC
  refine Ev.bind (impl_CountSolutions.ok n cs) ?_
  unfold countSol
  by_cases hg : goodP n cs = true
  · rw [if_pos hg, if_pos hg]
    refine Ev.ite_pos rfl ?_
    have h0 : 0 ≤ n := by
      unfold goodP guests at hg
      simp only [Bool.and_eq_true, decide_eq_true_eq] at hg
      omega
    obtain ⟨N, rfl⟩ := Int.eq_ofNat_of_zero_le h0
    obtain ⟨h1, h2, h3⟩ := clue_of hg
    simp only [Int.toNat_natCast]
    have key := up_loop (P := fun i => Ev (fun k => impl_NeedlessClues.l0 k ((solveL N cs).length : Int) (((List.range i).filter (needP N cs)).map (fun (k : Nat) => (k : Int))) (cs.length : Int) (i : Int) (N : Int) cs) (((List.range cs.length).filter (needP N cs)).map (fun (k : Nat) => (k : Int)), true)) (n := cs.length) (by
        refine Ev.step (f := fun _ => some (((List.range cs.length).filter (needP N cs)).map (fun (k : Nat) => (k : Int)), true)) (fun k => ?_) (Ev.now _)
        rw [impl_NeedlessClues.l0, if_neg (by omega)]) (by
        intro i hi ih
        have hl := need_len N cs i
        have ha := impl_solutions.ok N h1.1 h1.2 (cs.eraseIdx i) (fun c hc => h3 c ((List.eraseIdx_sublist cs i).subset hc))
        refine Ev.step (f := fun k => (impl_solutions.f k (N : Int) (cs.eraseIdx i)).bind fun t => if (t.length : Int) = ((solveL N cs).length : Int) then impl_NeedlessClues.l0 k ((solveL N cs).length : Int) (((List.range i).filter (needP N cs)).map (fun (k : Nat) => (k : Int)) ++ [(i : Int)]) (cs.length : Int) ((i + 1 : Nat) : Int) (N : Int) cs else impl_NeedlessClues.l0 k ((solveL N cs).length : Int) (((List.range i).filter (needP N cs)).map (fun (k : Nat) => (k : Int))) (cs.length : Int) ((i + 1 : Nat) : Int) (N : Int) cs) (fun k => ?_) (Ev.bind ha ?_)
        · rw [impl_NeedlessClues.l0, if_pos (by omega), show impl_dropped.f cs (i : Int) = some (cs.eraseIdx i) from by unfold impl_dropped.f; rw [if_pos ⟨by omega, by omega, by omega⟩, Int.toNat_natCast], nat_succ i (by omega)]
          have hL : (((List.range i).filter (needP N cs)).map (fun (k : Nat) => (k : Int))).length < 17592186044416 := by omega
          simp only [Option.bind_some, if_pos hL]
        · rw [List.length_map]
          rw [need_step] at ih
          by_cases hp : needP N cs i = true
          · rw [if_pos hp] at ih
            exact Ev.ite_pos ((need_iff N cs i).2 hp) ih
          · rw [if_neg hp, List.append_nil] at ih
            exact Ev.ite_neg (fun h => hp ((need_iff N cs i).1 h)) ih) 0 (Nat.zero_le _)
    exact key
  · rw [if_neg hg, if_neg hg]
    exact Ev.ite_neg (by simp) (Ev.now _)

end Go.Proofs.YtdnkipagpagfiaaDoor.PSol2
namespace Go.Proofs.YtdnkipagpagfiaaDoor
open Go.RowKit Go.Proofs.YtdnkipagpagfiaaDoor.Base Go.Proofs.YtdnkipagpagfiaaDoor.PSol2 Go.Proofs.YtdnkipagpagfiaaDoorW.PrintWords Go.Proofs.YtdnkipagpagfiaaDoorW.PrintLast Go.Proofs.YtdnkipagpagfiaaDoorW.PrintMore
theorem fnExactNeedlessClues_pure : fnExactNeedlessClues.Pure := by
  intro n l hn hl
  have hm := hl.1
  refine Ev.rounds (g := fun k => laws_FnExactNeedlessClues.f k n l) ?_
  unfold laws_FnExactNeedlessClues.f
  rw [laws_szPuzzle.ok n l _ (by omega) (by omega) hl.1]
  simp only [Option.bind_some]
  by_cases h0 : (1048576 : Int) - l.length < 0
  · rw [if_pos h0]
    exact Ev.ite_pos (by omega) (Ev.now _)
  · rw [if_neg h0]
    refine Ev.ite_neg (by omega) ?_
    have hlen : l.length ≤ 1048576 := by omega
    have hcl : (cls l).length ≤ 1048576 := by rw [cls_length]; exact hlen
    have ht : Ev (fun k => laws_toPuzzle.f k n l) (n, cls l) := ev_of (l.length + 1) fun k hk => laws_toPuzzle.ok n l hlen k (by omega)
    have hep : Ev (fun k => laws_eqPuzzle.f k n (cls l) n (cls l)) true := ev_of ((cls l).length + 1) fun k hk => laws_eqPuzzle.refl n (cls l) hcl k (by omega)
    have hmp : Ev (fun k => laws_markPuzzle.f k n (cls l) 1) (1 + 3 * ((cls l).length : Int), (List.range (cls l).length).map mkClue) := ev_of ((cls l).length + 1) fun k hk => laws_markPuzzle.ok n (cls l) hcl k (by omega)
    have hs := spec_NeedlessClues.ok n (cls l)
    have hi := impl_NeedlessClues.ok n (cls l)
    have h9 := needC_len n (cls l)
    generalize needC n (cls l) = x at hs hi h9
    obtain ⟨r, b⟩ := x
    simp only at h9
    have hei : Ev (fun k => laws_eqIntS.f k r r) true := ev_of (r.length + 1) fun k hk => laws_eqIntS.refl r (by omega) k (by omega)
    have hmi : Ev (fun k => laws_markIntS.f k r 1) (1 + ((1 : Nat) : Int) * (r.length : Int), (List.range r.length).map mkInt) := ev_of (r.length + 1) fun k hk => laws_markIntS.ok r (by omega) k (by omega)
    have hhi : Ev (fun k => laws_heldIntS.f k ((List.range r.length).map mkInt) 1) (1 + ((1 : Nat) : Int) * (r.length : Int)) := ev_of (r.length + 1) fun k hk => laws_heldIntS.ok r.length (by omega) k (by omega)
    refine Ev.bind ht (Ev.bind hs (Ev.bind ht (Ev.bind hi (Ev.bind hei (Ev.ite_pos rfl (Ev.ite_neg (by simp) (Ev.bind ht (Ev.bind hep (Ev.ite_pos rfl (Ev.bind hmp (Ev.ite_neg ?_ ?_)))))))))))
    · simp only; omega
    refine Ev.bind hei (Ev.ite_pos rfl (Ev.bind hmi (Ev.bind hhi (Ev.ite_neg (by omega) (Ev.ite_pos rfl (Ev.bind ht (Ev.bind hi (Ev.bind hei (Ev.ite_pos rfl (Ev.ite_neg (by simp) (Ev.bind hhi (Ev.ite_neg (by omega) (Ev.ite_pos rfl (Ev.now _))))))))))))))
theorem fnExactNeedlessClues_holds : Rows.FnExactNeedlessCluesCardSaid := fnExactNeedlessClues.proved fnExactNeedlessClues_pure
end Go.Proofs.YtdnkipagpagfiaaDoor
