/- FnExactLeftByClues: whatever the puzzle, the program counts how many parties fit the first clues as the reference does, leaves the puzzle as it was, and returns memory of its own. Condition: the table of math/bits lies as its initialiser lays it (the card's own). -/
import Derived.Test.YtdnkipagpagfiaaDoorLawFnExactLeftByClues
import Derived.Test.YtdnkipagpagfiaaDoorPBase
import Derived.Test.YtdnkipagpagfiaaDoorPurBSol2
namespace Go.Proofs.YtdnkipagpagfiaaDoor.PSol2
set_option linter.unusedVariables false
set_option linter.unusedSimpArgs false
open Go.RowKit Go.Proofs.YtdnkipagpagfiaaDoor.Base Go.Proofs.YtdnkipagpagfiaaDoor.PSol2 Go.Proofs.YtdnkipagpagfiaaDoorW.PrintWords Go.Proofs.YtdnkipagpagfiaaDoorW.PrintLast Go.Proofs.YtdnkipagpagfiaaDoorW.PrintMore
def leftC (n : Int) (cs : List S30) : List Int × Bool := if goodP n cs = true then ((List.range (cs.length + 1)).map (fun k => ((solveL n.toNat (cs.take k)).length : Int)), true) else ([], false)
theorem leftC_len (n : Int) (cs : List S30) : (leftC n cs).1.length ≤ 9 := by
  unfold leftC
  split
  · rename_i h
    unfold goodP at h
    simp only [Bool.and_eq_true, decide_eq_true_eq] at h
    simp only [List.length_map, List.length_range]
    omega
  · simp
theorem spec_LeftByClues.ok (n : Int) (cs : List S30) : Ev (fun k => spec_LeftByClues.f k n cs) (leftC n cs) := by
  unfold spec_LeftByClues.f leftC
  refine Ev.bind (ev_of 12 fun k hk => spec_pzGood.ok n cs k hk) ?_
  by_cases hg : goodP n cs = true
  · refine Ev.ite_pos hg ?_
    rw [if_pos hg]
    have h0 : 0 ≤ n := by
      unfold goodP guests at hg
      simp only [Bool.and_eq_true, decide_eq_true_eq] at hg
      omega
    obtain ⟨N, rfl⟩ := Int.eq_ofNat_of_zero_le h0
    obtain ⟨h1, h2, h3⟩ := clue_of hg
    simp only [Int.toNat_natCast]
    have key := up_loop (P := fun i => Ev (fun k => spec_LeftByClues.l0 k ((List.range i).map (fun k => ((solveL N (cs.take k)).length : Int))) (i : Int) (N : Int) cs) ((List.range (cs.length + 1)).map (fun k => ((solveL N (cs.take k)).length : Int)), true)) (n := cs.length + 1) (by
        refine Ev.step (f := fun _ => some ((List.range (cs.length + 1)).map (fun k => ((solveL N (cs.take k)).length : Int)), true)) (fun k => ?_) (Ev.now _)
        rw [spec_LeftByClues.l0, if_neg (by omega)]) (by
        intro i hi ih
        have ha := spec_pzAll.ok N h1.1 h1.2 (cs.take i) (by rw [List.length_take]; omega) (fun c hc => h3 c (List.mem_of_mem_take hc))
        refine Ev.step (fun k => ?_) (Ev.bind ha (f := fun k t => spec_LeftByClues.l0 k ((List.range i).map (fun k => ((solveL N (cs.take k)).length : Int)) ++ [(t.length : Int)]) ((i + 1 : Nat) : Int) (N : Int) cs) ?_)
        · rw [spec_LeftByClues.l0, if_pos (by omega), if_pos (by omega), Int.toNat_natCast, nat_succ i (by omega)]
          have hL : ((List.range i).map (fun k => ((solveL N (cs.take k)).length : Int))).length < 17592186044416 := by simp only [List.length_map, List.length_range]; omega
          simp only [if_pos hL]
        · rw [List.length_map]
          rw [List.range_succ, List.map_append] at ih
          exact ih) 0 (Nat.zero_le _)
    exact key
  · refine Ev.ite_neg hg ?_
    rw [if_neg hg]
    exact Ev.now _

theorem impl_LeftByClues.ok (n : Int) (cs : List S30) : Ev (fun k => impl_LeftByClues.f k n cs) (leftC n cs) := by
  unfold impl_LeftByClues.f leftC
  rw [show impl_IsPuzzle.f n cs = some (goodP n cs) from rfl]
  simp only [Option.bind_some]
  by_cases hg : goodP n cs = true
  · refine Ev.ite_pos hg ?_
    rw [if_pos hg]
    have h0 : 0 ≤ n := by
      unfold goodP guests at hg
      simp only [Bool.and_eq_true, decide_eq_true_eq] at hg
      omega
    obtain ⟨N, rfl⟩ := Int.eq_ofNat_of_zero_le h0
    obtain ⟨h1, h2, h3⟩ := clue_of hg
    simp only [Int.toNat_natCast]
    rw [nat_succ cs.length (by omega)]
    have key := up_loop (P := fun i => Ev (fun k => impl_LeftByClues.l0 k ((List.range i).map (fun k => ((solveL N (cs.take k)).length : Int))) ((cs.length + 1 : Nat) : Int) (i : Int) (N : Int) cs) ((List.range (cs.length + 1)).map (fun k => ((solveL N (cs.take k)).length : Int)), true)) (n := cs.length + 1) (by
        refine Ev.step (f := fun _ => some ((List.range (cs.length + 1)).map (fun k => ((solveL N (cs.take k)).length : Int)), true)) (fun k => ?_) (Ev.now _)
        rw [impl_LeftByClues.l0, if_neg (by omega)]) (by
        intro i hi ih
        have ha := impl_solutions.ok N h1.1 h1.2 (cs.take i) (fun c hc => h3 c (List.mem_of_mem_take hc))
        refine Ev.step (fun k => ?_) (Ev.bind ha (f := fun k t => impl_LeftByClues.l0 k ((List.range i).map (fun k => ((solveL N (cs.take k)).length : Int)) ++ [(t.length : Int)]) ((cs.length + 1 : Nat) : Int) ((i + 1 : Nat) : Int) (N : Int) cs) ?_)
        · rw [impl_LeftByClues.l0, if_pos (by omega), if_pos (by omega), if_pos (by omega), Int.toNat_natCast, nat_succ i (by omega)]
          have hL : ((List.range i).map (fun k => ((solveL N (cs.take k)).length : Int))).length < 17592186044416 := by simp only [List.length_map, List.length_range]; omega
          simp only [if_pos hL]
        · rw [List.length_map]
          rw [List.range_succ, List.map_append] at ih
          exact ih) 0 (Nat.zero_le _)
    exact key
  · refine Ev.ite_neg hg ?_
    rw [if_neg hg]
    exact Ev.now _

theorem rd_nat (l : List Int) (i : Nat) (h : i < l.length) : rd l (i : Int) = l[i] := by simp [rd, List.getD, h]
theorem laws_eqIntS.refl (l : List Int) (hl : l.length ≤ 1048576) (k : Nat) (hk : l.length < k) : laws_eqIntS.f k l l = some true := by
  unfold laws_eqIntS.f
  rw [if_pos rfl]
  rw [all_loop (fun k i => laws_eqIntS.l0 k l l i) l.length (fun _ => true) (by omega) 0 ?_ ?_ k hk]
  · simp
  · intro k i h _
    simp only [laws_eqIntS.l0]
    rw [if_pos (by omega), if_pos (by omega), if_pos (by omega)]
    first | done | simp
  · intro k
    simp only [laws_eqIntS.l0]
    rw [if_neg (by omega)]

def mkInt (i : Nat) : Int := 1 + ((1 : Nat) : Int) * i
theorem laws_markIntS.ok (l : List Int) (hl : l.length ≤ 1048576) (k : Nat) (hk : l.length < k) : laws_markIntS.f k l 1 = some (1 + ((1 : Nat) : Int) * (l.length : Int), (List.range l.length).map mkInt) := by
  unfold laws_markIntS.f
  refine mark_loop (fun k acc m i => laws_markIntS.l0 k acc m i) mkInt 1 l.length ?_ ?_ k l rfl hk
  · intro k acc i h ha
    have e1 : wrap64 (1 + ((1 : Nat) : Int) * i + 1) = 1 + ((1 : Nat) : Int) * ((i + 1 : Nat) : Int) := by rw [wrap_id (by omega) (by omega)]; omega
    have e4 : wrap64 ((i : Int) + 1) = ((i + 1 : Nat) : Int) := by rw [wrap_id (by omega) (by omega)]; omega
    simp only [laws_markIntS.l0, e1, e4, Int.toNat_natCast]
    rw [if_pos (by omega), if_pos (by omega)]
    rfl
  · intro k acc m ha
    simp only [laws_markIntS.l0]
    rw [if_neg (by omega)]

theorem laws_heldIntS.ok (n : Nat) (hl : n ≤ 1048576) (k : Nat) (hk : n < k) : laws_heldIntS.f k ((List.range n).map mkInt) 1 = some (1 + ((1 : Nat) : Int) * (n : Int)) := by
  unfold laws_heldIntS.f
  refine held_loop (fun k m i => laws_heldIntS.l0 k ((List.range n).map mkInt) m i) 1 n ?_ ?_ k hk
  · intro k i h
    have e1 : wrap64 (1 + ((1 : Nat) : Int) * i + 1) = 1 + ((1 : Nat) : Int) * ((i + 1 : Nat) : Int) := by rw [wrap_id (by omega) (by omega)]; omega
    have e4 : wrap64 ((i : Int) + 1) = ((i + 1 : Nat) : Int) := by rw [wrap_id (by omega) (by omega)]; omega
    simp only [laws_heldIntS.l0, e1, e4]
    rw [if_pos (by simp; omega), if_pos (by omega), rd_nat _ i (by simp; omega)]
    simp [mkInt]
  · intro k m
    simp only [laws_heldIntS.l0]
    rw [if_neg (by simp)]

end Go.Proofs.YtdnkipagpagfiaaDoor.PSol2
namespace Go.Proofs.YtdnkipagpagfiaaDoor
open Go.RowKit Go.Proofs.YtdnkipagpagfiaaDoor.Base Go.Proofs.YtdnkipagpagfiaaDoor.PSol2 Go.Proofs.YtdnkipagpagfiaaDoorW.PrintWords Go.Proofs.YtdnkipagpagfiaaDoorW.PrintLast Go.Proofs.YtdnkipagpagfiaaDoorW.PrintMore
theorem fnExactLeftByClues_pure : fnExactLeftByClues.Pure := by
  intro n l hn hl
  have hm := hl.1
  refine Ev.rounds (g := fun k => laws_FnExactLeftByClues.f k n l) ?_
  unfold laws_FnExactLeftByClues.f
  rw [laws_szPuzzle.ok n l _ (by omega) (by omega) hl.1]
  simp only [Option.bind_some]
  by_cases h0 : (1048576 : Int) - l.length < 0
  · rw [if_pos h0]
    exact Ev.ite_pos (by omega) (Ev.now _)
  · rw [if_neg h0]
    refine Ev.ite_neg (by omega) ?_
    have hlen : l.length ≤ 1048576 := by omega
    have hcl : (cls l).length ≤ 1048576 := by rw [cls_length]; exact hlen
    have ht : Ev (fun k => laws_toPuzzle.f k n l) (n, cls l) := ev_of (l.length + 1) fun k hk => laws_toPuzzle.ok n l hlen k (by omega)
    have hep : Ev (fun k => laws_eqPuzzle.f k n (cls l) n (cls l)) true := ev_of ((cls l).length + 1) fun k hk => laws_eqPuzzle.refl n (cls l) hcl k (by omega)
    have hmp : Ev (fun k => laws_markPuzzle.f k n (cls l) 1) (1 + 3 * ((cls l).length : Int), (List.range (cls l).length).map mkClue) := ev_of ((cls l).length + 1) fun k hk => laws_markPuzzle.ok n (cls l) hcl k (by omega)
    have hs := spec_LeftByClues.ok n (cls l)
    have hi := impl_LeftByClues.ok n (cls l)
    have h9 := leftC_len n (cls l)
    generalize leftC n (cls l) = x at hs hi h9
    obtain ⟨r, b⟩ := x
    simp only at h9
    have hei : Ev (fun k => laws_eqIntS.f k r r) true := ev_of (r.length + 1) fun k hk => laws_eqIntS.refl r (by omega) k (by omega)
    have hmi : Ev (fun k => laws_markIntS.f k r 1) (1 + ((1 : Nat) : Int) * (r.length : Int), (List.range r.length).map mkInt) := ev_of (r.length + 1) fun k hk => laws_markIntS.ok r (by omega) k (by omega)
    have hhi : Ev (fun k => laws_heldIntS.f k ((List.range r.length).map mkInt) 1) (1 + ((1 : Nat) : Int) * (r.length : Int)) := ev_of (r.length + 1) fun k hk => laws_heldIntS.ok r.length (by omega) k (by omega)
    refine Ev.bind ht (Ev.bind hs (Ev.bind ht (Ev.bind hi (Ev.bind hei (Ev.ite_pos rfl (Ev.ite_neg (by simp) (Ev.bind ht (Ev.bind hep (Ev.ite_pos rfl (Ev.bind hmp (Ev.ite_neg ?_ ?_)))))))))))
    · simp only; omega
    refine Ev.bind hei (Ev.ite_pos rfl (Ev.bind hmi (Ev.bind hhi (Ev.ite_neg (by omega) (Ev.ite_pos rfl (Ev.bind ht (Ev.bind hi (Ev.bind hei (Ev.ite_pos rfl (Ev.ite_neg (by simp) (Ev.bind hhi (Ev.ite_neg (by omega) (Ev.ite_pos rfl (Ev.now _))))))))))))))
theorem fnExactLeftByClues_holds : Rows.FnExactLeftByCluesCardSaid := fnExactLeftByClues.proved fnExactLeftByClues_pure
end Go.Proofs.YtdnkipagpagfiaaDoor
