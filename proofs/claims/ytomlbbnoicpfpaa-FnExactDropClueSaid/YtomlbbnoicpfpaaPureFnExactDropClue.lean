/- FnExactDropClue: whatever the puzzle and the index, the program drops the clue as the reference does, leaves its arguments, and returns memory of its own. No condition. -/
import Derived.Test.YtomlbbnoicpfpaaLawFnExactDropClue
import Derived.Test.YtomlbbnoicpfpaaPBase
set_option linter.unusedVariables false
set_option linter.unusedSimpArgs false
namespace Go.Proofs.Ytomlbbnoicpfpaa.PFnExactDropClue
open Go.RowKit Go.Proofs.Ytomlbbnoicpfpaa.Base Go.Proofs.Ytomlbbnoicpfpaa.PFnExactDropClue Go.Proofs.YtomlbbnoicpfpaaW.PrintWords Go.Proofs.YtomlbbnoicpfpaaW.PrintLast Go.Proofs.YtomlbbnoicpfpaaW.PrintMore
theorem laws_szClueS.ok (l : List S47) (n : Int) (h0 : 0 ≤ n) (h1 : n ≤ 1048576) (hl : l.length ≤ maxLen) : laws_szClueS.f l n = some (if n - l.length < 0 then -1 else n - l.length) := by
  unfold maxLen at hl
  unfold laws_szClueS.f
  rw [wrap_id (by omega) (by omega)]
  split <;> rfl

theorem laws_szPuzzle.ok (p : Int) (l : List S47) (n : Int) (h0 : 0 ≤ n) (h1 : n ≤ 1048576) (hl : l.length ≤ maxLen) : laws_szPuzzle.f p l n = some (if n - l.length < 0 then -1 else n - l.length) := by
  unfold laws_szPuzzle.f
  rw [laws_szClueS.ok l n h0 h1 hl]
  simp only [Option.bind_some]
  by_cases h : n - (l.length : Int) < 0
  · simp [h]
  · simp [h]

theorem spec_l1In.ok (n lo hi : Int) : spec_l1In.f n lo hi = some (decide (lo ≤ n ∧ n ≤ hi)) := by
  unfold spec_l1In.f
  by_cases h : lo ≤ n <;> simp [h]

theorem spec_pzPeople.ok (n : Int) : spec_pzPeople.f n = some (guests n) := by unfold spec_pzPeople.f guests; simp [spec_l1In.ok]

theorem spec_pzClue.ok (k : Nat) (n kd a b : Int) (h1 : 1 ≤ n) (h2 : n ≤ 5) : spec_pzClue.f (k + 1) n kd a b = some (clueI n kd a b) := by
  have e1 : wrap64 (n - 1) = n - 1 := wrap_id (by omega) (by omega)
  have e2 : wrap64 (Int.tdiv (wrap64 (n * (wrap64 (n - 1)))) 2) = n * (n - 1) / 2 := by
    obtain rfl | rfl | rfl | rfl | rfl : n = 1 ∨ n = 2 ∨ n = 3 ∨ n = 4 ∨ n = 5 := by omega
    all_goals (unfold wrap64; decide)
  rw [e1] at e2
  have e3 : 0 ≤ a → a ≤ n - 1 → wrap64 (a + 1) = a + 1 := fun h h' => wrap_id (by omega) (by omega)
  have e4 : n * (n - 1) / 2 ≤ 10 := by
    obtain rfl | rfl | rfl | rfl | rfl : n = 1 ∨ n = 2 ∨ n = 3 ∨ n = 4 ∨ n = 5 := by omega
    all_goals decide
  unfold spec_pzClue.f clueI
  simp only [spec_pzClue.j0, spec_l1In.ok, e1, e2, Option.bind_some]
  generalize n * (n - 1) / 2 = m at *
  clear e1 e2
  have key : ∀ x : Bool, (if x = true then (some (decide (wrap64 (a + 1) ≤ b ∧ b ≤ n - 1)) : Option Bool) else some false) = some (x && decide (wrap64 (a + 1) ≤ b ∧ b ≤ n - 1)) := fun x => by cases x <;> rfl
  by_cases k0 : kd = 0
  · simp only [k0, if_true, beq_self_eq_true, true_or, key]
    rw [Option.some_inj, Bool.eq_iff_iff]
    simp only [Bool.and_eq_true, decide_eq_true_eq]
    by_cases ha : 0 ≤ a ∧ a ≤ n - 1
    · rw [e3 ha.1 ha.2]; omega
    · omega
  · by_cases k1 : kd = 1
    · subst k1
      simp only [show ((1 : Int) = 0) = False from by simp, if_true, if_false, beq_self_eq_true, or_true, key]
      rw [Option.some_inj, Bool.eq_iff_iff]
      simp only [Bool.and_eq_true, decide_eq_true_eq]
      by_cases ha : 0 ≤ a ∧ a ≤ n - 1
      · rw [e3 ha.1 ha.2]; omega
      · omega
    · simp only [k0, k1, if_false, or_self, beq_iff_eq]
      repeat' split
      all_goals (rw [Option.some_inj, Bool.eq_iff_iff]; first | done | (simp_all; done) | (simp_all; omega))

theorem rd_T44_nat (l : List S44) (i : Nat) (h : i < l.length) : rd_T44 l (i : Int) = l[i] := by simp [rd_T44, List.getD, h]
theorem spec_pzGood.ok (n : Int) (l : List S44) (k : Nat) (hk : 12 ≤ k) : spec_pzGood.f k n l = some (guests n && decide (l.length ≤ 8) && l.all (puzzleC n)) := by
  obtain ⟨k, rfl⟩ : ∃ m, k = m + 1 := ⟨k - 1, by omega⟩
  unfold spec_pzGood.f
  rw [spec_pzPeople.ok]
  simp only [Option.bind_some]
  by_cases hn : guests n = true
  · have hg : 1 ≤ n ∧ n ≤ 5 := by simpa [guests] using hn
    rw [if_pos hn, hn]
    simp only [spec_pzGood.j0]
    by_cases h8 : l.length ≤ 8
    · rw [if_neg (by simp; omega), decide_eq_true h8]
      simp only [Bool.true_and]
      rw [all_loop (fun k i => spec_pzGood.l0 k l (l.length : Int) i n l) l.length (fun i => puzzleC n (l.getD i z44)) (by omega) 1 ?_ ?_ k (by omega), range_all]
      · intro k i h hk1
        obtain ⟨k, rfl⟩ : ∃ m, k = m + 1 := ⟨k - 1, by omega⟩
        simp only [spec_pzGood.l0]
        rw [if_pos (by omega), if_pos (by omega), if_pos (by omega), rd_T44_nat l i h, spec_pzClue.ok _ _ _ _ _ hg.1 hg.2]
        simp only [Option.bind_some, puzzleC, hn, Bool.true_and, List.getD, List.getElem?_eq_getElem h, Option.getD_some]
      · intro k
        simp only [spec_pzGood.l0]
        rw [if_neg (by omega)]
    · rw [if_pos (by simp; omega), decide_eq_false h8]; simp
  · have hn : guests n = false := by simpa using hn
    rw [hn, if_neg (by simp)]; simp [spec_pzGood.j0]
def goodP (n : Int) (L : List S44) : Bool := guests n && decide (L.length ≤ 8) && L.all (puzzleC n)

theorem spec_pzWithout.ok (L : List S44) (a : Int) (h8 : L.length ≤ 8) (h0 : 0 ≤ a) (h1 : a < L.length) : spec_pzWithout.f L a = some (L.eraseIdx a.toNat) := by
  have e1 : wrap64 (a + 1) = a + 1 := wrap_id (by omega) (by omega)
  have e2 : (a + 1).toNat = a.toNat + 1 := by omega
  unfold spec_pzWithout.f
  simp only [Option.bind_some, e1, e2, List.nil_append]
  rw [if_pos h0, if_pos (by omega), if_pos (by simp; omega), if_pos (by omega), if_pos (by omega), if_pos (by simp; omega), List.eraseIdx_eq_take_drop_succ]

def dropC (n : Int) (L : List S44) (a : Int) : Int × List S44 × Bool := if goodP n L = true ∧ 0 ≤ a ∧ a < L.length then (n, L.eraseIdx a.toNat, true) else (0, [], false)
theorem goodP_len {n : Int} {L : List S44} (h : goodP n L = true) : L.length ≤ 8 := by
  simp only [goodP, Bool.and_eq_true, decide_eq_true_eq] at h
  exact h.1.2
theorem dropC_len (n : Int) (L : List S44) (a : Int) : (dropC n L a).2.1.length ≤ 9 := by
  unfold dropC
  split
  · rename_i h
    have h := goodP_len h.1
    have := List.length_eraseIdx_le L a.toNat
    simp only
    omega
  · simp
theorem spec_DropClue.ok (n : Int) (L : List S44) (a : Int) (k : Nat) (hk : 12 ≤ k) : spec_DropClue.f k n L a = some (dropC n L a) := by
  unfold spec_DropClue.f dropC
  rw [spec_pzGood.ok _ _ _ hk, ← goodP]
  simp only [Option.bind_some]
  by_cases hg : goodP n L = true
  · have h8 := goodP_len hg
    have e1 : wrap64 ((L.length : Int) - 1) = (L.length : Int) - 1 := wrap_id (by omega) (by omega)
    rw [if_pos hg, spec_l1In.ok, e1]
    simp only [Option.bind_some]
    by_cases ha : 0 ≤ a ∧ a ≤ (L.length : Int) - 1
    · rw [if_pos (by simpa using ha), spec_pzWithout.ok L a h8 ha.1 (by omega), if_pos ⟨hg, ha.1, by omega⟩]; rfl
    · rw [if_neg (by simpa using ha), if_neg (fun h => ha ⟨h.2.1, by omega⟩)]
  · rw [if_neg hg, if_neg (fun h => hg h.1)]

theorem rd_T47_nat (l : List S47) (i : Nat) (h : i < l.length) : rd_T47 l (i : Int) = l[i] := by simp [rd_T47, List.getD, h]
theorem laws_toClueS.ok (l : List S47) (hl : l.length ≤ 1048576) (k : Nat) (hk : l.length < k) : laws_toClueS.f k l = some (l.map fun x => ⟨x.f0, x.f1, x.f2⟩) := by
  unfold laws_toClueS.f
  rw [if_pos (by omega), if_pos (by omega)]
  refine fill_loop (fun k acc i => laws_toClueS.l0 k l acc i) _ l _ (by omega) 0 ?_ ?_ k hk
  · intro k acc i h _ ha
    simp only [laws_toClueS.l0, laws_toClue.f, Option.bind_some]
    rw [if_pos (by omega), if_pos (by omega), if_pos (by omega), rd_T47_nat l i h]
    rfl
  · intro k acc ha
    simp only [laws_toClueS.l0]
    rw [if_neg (by omega)]

def cls (l : List S47) : List S44 := l.map fun x => ⟨x.f0, x.f1, x.f2⟩
theorem cls_length (l : List S47) : (cls l).length = l.length := by simp [cls]
theorem laws_toPuzzle.ok (n : Int) (l : List S47) (hl : l.length ≤ 1048576) (k : Nat) (hk : l.length < k) : laws_toPuzzle.f k n l = some (n, cls l) := by
  unfold laws_toPuzzle.f
  rw [laws_toClueS.ok l hl k hk]; rfl

theorem impl_DropClue.ok (n : Int) (L : List S44) (a : Int) : impl_DropClue.f n L a = some (dropC n L a) := by
  unfold impl_DropClue.f dropC impl_IsPuzzle.f
  rw [← goodP]
  simp only [Option.bind_some]
  by_cases hg : goodP n L = true
  · have h8 := goodP_len hg
    have e1 : wrap64 ((L.length : Int) - 1) = (L.length : Int) - 1 := wrap_id (by omega) (by omega)
    rw [if_pos hg, impl_within.ok, e1]
    simp only [Option.bind_some]
    by_cases ha : 0 ≤ a ∧ a ≤ (L.length : Int) - 1
    · rw [if_pos (by simpa using ha), if_pos ⟨hg, ha.1, by omega⟩]
      unfold impl_dropped.f
      rw [if_pos ⟨by omega, ha.1, by omega⟩]; rfl
    · rw [if_neg (by simpa using ha), if_neg (fun h => ha ⟨h.2.1, by omega⟩)]
  · rw [if_neg hg, if_neg (fun h => hg h.1)]

theorem laws_eqClueS.refl (l : List S44) (hl : l.length ≤ 1048576) (k : Nat) (hk : l.length < k) : laws_eqClueS.f k l l = some true := by
  unfold laws_eqClueS.f
  rw [if_pos rfl]
  rw [all_loop (fun k i => laws_eqClueS.l0 k l l i) l.length (fun _ => true) (by omega) 0 ?_ ?_ k hk]
  · simp
  · intro k i h _
    simp only [laws_eqClueS.l0, laws_eqClue.f]
    rw [if_pos (by omega), if_pos (by omega), if_pos (by omega)]
    simp
  · intro k
    simp only [laws_eqClueS.l0]
    rw [if_neg (by omega)]

theorem laws_eqPuzzle.refl (n : Int) (l : List S44) (hl : l.length ≤ 1048576) (k : Nat) (hk : l.length < k) : laws_eqPuzzle.f k n l n l = some true := by
  unfold laws_eqPuzzle.f
  rw [if_pos rfl, laws_eqClueS.refl l hl k hk]; rfl

def mkClue (i : Nat) : S44 := ⟨1 + 3 * i, 2 + 3 * i, 3 + 3 * i⟩
theorem laws_markClueS.ok (l : List S44) (hl : l.length ≤ 1048576) (k : Nat) (hk : l.length < k) : laws_markClueS.f k l 1 = some (1 + 3 * (l.length : Int), (List.range l.length).map mkClue) := by
  unfold laws_markClueS.f
  refine mark_loop (fun k acc m i => laws_markClueS.l0 k acc m i) mkClue 3 l.length ?_ ?_ k l rfl hk
  · intro k acc i h ha
    have e1 : wrap64 (1 + ((3 : Nat) : Int) * i + 1) = 2 + 3 * i := by rw [wrap_id (by omega) (by omega)]; omega
    have e2 : wrap64 (2 + 3 * (i : Int) + 1) = 3 + 3 * i := by rw [wrap_id (by omega) (by omega)]; omega
    have e3 : wrap64 (3 + 3 * (i : Int) + 1) = 1 + ((3 : Nat) : Int) * ((i + 1 : Nat) : Int) := by rw [wrap_id (by omega) (by omega)]; omega
    have e4 : wrap64 ((i : Int) + 1) = ((i + 1 : Nat) : Int) := by rw [wrap_id (by omega) (by omega)]; omega
    have hr : ∀ (q : List S44) (x : S44), q.length = l.length → rd_T44 (q.set i x) (i : Int) = x := by
      intro q x hq
      rw [rd_T44_nat _ i (by simp; omega)]; simp
    simp only [laws_markClueS.l0, e1, e2, e3, e4, Int.toNat_natCast, Option.bind_some]
    rw [if_pos (by omega), if_pos (by omega), hr acc _ ha]
    simp only [List.set_set]
    rw [hr acc _ ha]
    simp only [mkClue]
    rfl
  · intro k acc m ha
    simp only [laws_markClueS.l0]
    rw [if_neg (by omega)]

theorem laws_markPuzzle.ok (n : Int) (l : List S44) (hl : l.length ≤ 1048576) (k : Nat) (hk : l.length < k) : laws_markPuzzle.f k n l 1 = some (1 + 3 * (l.length : Int), (List.range l.length).map mkClue) := by
  unfold laws_markPuzzle.f
  rw [laws_markClueS.ok l hl k hk]; rfl

theorem laws_heldClueS.ok (n : Nat) (hl : n ≤ 1048576) (k : Nat) (hk : n < k) : laws_heldClueS.f k ((List.range n).map mkClue) 1 = some (1 + 3 * (n : Int)) := by
  unfold laws_heldClueS.f
  refine held_loop (fun k m i => laws_heldClueS.l0 k ((List.range n).map mkClue) m i) 3 n ?_ ?_ k hk
  · intro k i h
    have e1 : wrap64 (1 + ((3 : Nat) : Int) * i + 1) = 2 + 3 * i := by rw [wrap_id (by omega) (by omega)]; omega
    have e2 : wrap64 (2 + 3 * (i : Int) + 1) = 3 + 3 * i := by rw [wrap_id (by omega) (by omega)]; omega
    have e3 : wrap64 (3 + 3 * (i : Int) + 1) = 1 + ((3 : Nat) : Int) * ((i + 1 : Nat) : Int) := by rw [wrap_id (by omega) (by omega)]; omega
    have e4 : wrap64 ((i : Int) + 1) = ((i + 1 : Nat) : Int) := by rw [wrap_id (by omega) (by omega)]; omega
    simp only [laws_heldClueS.l0, e1, e2, e3, e4]
    rw [if_pos (by simp; omega), if_pos (by omega), rd_T44_nat _ i (by simp; omega)]
    simp [mkClue]
  · intro k m
    simp only [laws_heldClueS.l0]
    rw [if_neg (by simp)]

theorem laws_heldPuzzle.ok (p : Int) (n : Nat) (hl : n ≤ 1048576) (k : Nat) (hk : n < k) : laws_heldPuzzle.f k p ((List.range n).map mkClue) 1 = some (1 + 3 * (n : Int)) := by
  unfold laws_heldPuzzle.f
  rw [laws_heldClueS.ok n hl k hk]
  simp only [Option.bind_some]
  rw [if_neg (by omega)]
end Go.Proofs.Ytomlbbnoicpfpaa.PFnExactDropClue
namespace Go.Proofs.Ytomlbbnoicpfpaa
open Go.RowKit Go.Proofs.Ytomlbbnoicpfpaa.Base Go.Proofs.Ytomlbbnoicpfpaa.PFnExactDropClue Go.Proofs.YtomlbbnoicpfpaaW.PrintWords Go.Proofs.YtomlbbnoicpfpaaW.PrintLast Go.Proofs.YtomlbbnoicpfpaaW.PrintMore
theorem fnExactDropClue_pure : fnExactDropClue.Pure := by
  intro n l a hn hl ha
  have hm := hl.1
  refine ⟨1048590, ?_⟩
  unfold laws_FnExactDropClue.f
  rw [laws_szPuzzle.ok n l _ (by omega) (by omega) hl.1]
  simp only [Option.bind_some]
  by_cases hs : (1048576 : Int) - l.length < 0
  · rw [if_pos hs]; simp
  · rw [if_neg hs, if_neg hs]
    have hlen : l.length ≤ 1048576 := by omega
    have hcl : (cls l).length ≤ 1048576 := by rw [cls_length]; exact hlen
    have h9 := dropC_len n (cls l) a
    rw [laws_toPuzzle.ok n l hlen _ (by omega)]
    simp only [Option.bind_some]
    rw [spec_DropClue.ok _ _ _ _ (by omega), impl_DropClue.ok]
    simp only [Option.bind_some]
    generalize dropC n (cls l) a = r at *
    obtain ⟨r1, r2, r3⟩ := r
    simp only at h9 ⊢
    rw [laws_eqPuzzle.refl _ _ (by omega) _ (by omega), laws_eqPuzzle.refl _ _ hcl _ (by omega), laws_markPuzzle.ok _ _ hcl _ (by omega), laws_markPuzzle.ok _ _ (by omega) _ (by omega)]
    simp only [Option.bind_some, if_true, bne_self_eq_false, Bool.false_eq_true, if_false]
    rw [if_neg (by omega), laws_heldPuzzle.ok _ _ (by omega) _ (by omega)]
    simp only [Option.bind_some]
    rw [if_neg (by omega)]
    simp
    omega
theorem fnExactDropClue_holds : Rows.FnExactDropClueSaid := fnExactDropClue.proved fnExactDropClue_pure
end Go.Proofs.Ytomlbbnoicpfpaa
