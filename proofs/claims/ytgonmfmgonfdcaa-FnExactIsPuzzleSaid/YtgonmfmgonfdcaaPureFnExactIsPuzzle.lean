/- FnExactIsPuzzle: whatever the puzzle, the program says of it what the reference says, and leaves it as it was. No condition. -/
import Derived.Test.YtgonmfmgonfdcaaLawFnExactIsPuzzle
set_option linter.unusedVariables false
set_option linter.unusedSimpArgs false
namespace Go.Proofs.Ytgonmfmgonfdcaa.PFnExactIsPuzzle
open Go.RowKit Go.Proofs.Ytgonmfmgonfdcaa.Base Go.Proofs.Ytgonmfmgonfdcaa.PFnExactIsPuzzle Go.Proofs.YtgonmfmgonfdcaaW.PrintWords Go.Proofs.YtgonmfmgonfdcaaW.PrintLast Go.Proofs.YtgonmfmgonfdcaaW.PrintMore
theorem laws_szClueS.ok (l : List S23) (n : Int) (h0 : 0 ≤ n) (h1 : n ≤ 1048576) (hl : l.length ≤ maxLen) : laws_szClueS.f l n = some (if n - l.length < 0 then -1 else n - l.length) := by
  unfold maxLen at hl
  unfold laws_szClueS.f
  rw [wrap_id (by omega) (by omega)]
  split <;> rfl

theorem spec_l1In.ok (n lo hi : Int) : spec_l1In.f n lo hi = some (decide (lo ≤ n ∧ n ≤ hi)) := by
  unfold spec_l1In.f
  by_cases h : lo ≤ n <;> simp [h]

theorem spec_pzPeople.ok (n : Int) : spec_pzPeople.f n = some (guests n) := by unfold spec_pzPeople.f guests; simp [spec_l1In.ok]

theorem spec_pzClue.ok (k : Nat) (n kd a b : Int) (h1 : 1 ≤ n) (h2 : n ≤ 5) : spec_pzClue.f (k + 1) n kd a b = some (clueI n kd a b) := by
  have e1 : wrap64 (n - 1) = n - 1 := wrap_id (by omega) (by omega)
  have e2 : wrap64 (Int.tdiv (wrap64 (n * (wrap64 (n - 1)))) 2) = n * (n - 1) / 2 := by
    obtain rfl | rfl | rfl | rfl | rfl : n = 1 ∨ n = 2 ∨ n = 3 ∨ n = 4 ∨ n = 5 := by omega
    all_goals (unfold wrap64; decide)
  rw [e1] at e2
  have e3 : 0 ≤ a → a ≤ n - 1 → wrap64 (a + 1) = a + 1 := fun h h' => wrap_id (by omega) (by omega)
  have e4 : n * (n - 1) / 2 ≤ 10 := by
    obtain rfl | rfl | rfl | rfl | rfl : n = 1 ∨ n = 2 ∨ n = 3 ∨ n = 4 ∨ n = 5 := by omega
    all_goals decide
  unfold spec_pzClue.f clueI
  simp only [spec_pzClue.j0, spec_l1In.ok, e1, e2, Option.bind_some]
  generalize n * (n - 1) / 2 = m at *
  clear e1 e2
  have key : ∀ x : Bool, (if x = true then (some (decide (wrap64 (a + 1) ≤ b ∧ b ≤ n - 1)) : Option Bool) else some false) = some (x && decide (wrap64 (a + 1) ≤ b ∧ b ≤ n - 1)) := fun x => by cases x <;> rfl
  by_cases k0 : kd = 0
  · simp only [k0, if_true, beq_self_eq_true, true_or, key]
    rw [Option.some_inj, Bool.eq_iff_iff]
    simp only [Bool.and_eq_true, decide_eq_true_eq]
    by_cases ha : 0 ≤ a ∧ a ≤ n - 1
    · rw [e3 ha.1 ha.2]; omega
    · omega
  · by_cases k1 : kd = 1
    · subst k1
      simp only [show ((1 : Int) = 0) = False from by simp, if_true, if_false, beq_self_eq_true, or_true, key]
      rw [Option.some_inj, Bool.eq_iff_iff]
      simp only [Bool.and_eq_true, decide_eq_true_eq]
      by_cases ha : 0 ≤ a ∧ a ≤ n - 1
      · rw [e3 ha.1 ha.2]; omega
      · omega
    · simp only [k0, k1, if_false, or_self, beq_iff_eq]
      repeat' split
      all_goals (rw [Option.some_inj, Bool.eq_iff_iff]; first | done | (simp_all; done) | (simp_all; omega))

theorem rd_T25_nat (l : List S25) (i : Nat) (h : i < l.length) : rd_T25 l (i : Int) = l[i] := by simp [rd_T25, List.getD, h]
theorem spec_pzGood.ok (n : Int) (l : List S25) (k : Nat) (hk : 12 ≤ k) : spec_pzGood.f k n l = some (guests n && decide (l.length ≤ 8) && l.all (puzzleC n)) := by
  obtain ⟨k, rfl⟩ : ∃ m, k = m + 1 := ⟨k - 1, by omega⟩
  unfold spec_pzGood.f
  rw [spec_pzPeople.ok]
  simp only [Option.bind_some]
  by_cases hn : guests n = true
  · have hg : 1 ≤ n ∧ n ≤ 5 := by simpa [guests] using hn
    rw [if_pos hn, hn]
    simp only [spec_pzGood.j0]
    by_cases h8 : l.length ≤ 8
    · rw [if_neg (by simp; omega), decide_eq_true h8]
      simp only [Bool.true_and]
      rw [all_loop (fun k i => spec_pzGood.l0 k l (l.length : Int) i n l) l.length (fun i => puzzleC n (l.getD i z25)) (by omega) 1 ?_ ?_ k (by omega), range_all]
      · intro k i h hk1
        obtain ⟨k, rfl⟩ : ∃ m, k = m + 1 := ⟨k - 1, by omega⟩
        simp only [spec_pzGood.l0]
        rw [if_pos (by omega), if_pos (by omega), if_pos (by omega), rd_T25_nat l i h, spec_pzClue.ok _ _ _ _ _ hg.1 hg.2]
        simp only [Option.bind_some, puzzleC, hn, Bool.true_and, List.getD, List.getElem?_eq_getElem h, Option.getD_some]
      · intro k
        simp only [spec_pzGood.l0]
        rw [if_neg (by omega)]
    · rw [if_pos (by simp; omega), decide_eq_false h8]; simp
  · have hn : guests n = false := by simpa using hn
    rw [hn, if_neg (by simp)]; simp [spec_pzGood.j0]

theorem rd_T23_nat (l : List S23) (i : Nat) (h : i < l.length) : rd_T23 l (i : Int) = l[i] := by simp [rd_T23, List.getD, h]
theorem laws_toClueS.ok (l : List S23) (hl : l.length ≤ 1048576) (k : Nat) (hk : l.length < k) : laws_toClueS.f k l = some (l.map fun x => ⟨x.f0, x.f1, x.f2⟩) := by
  unfold laws_toClueS.f
  rw [if_pos (by omega), if_pos (by omega)]
  refine fill_loop (fun k acc i => laws_toClueS.l0 k l acc i) _ l _ (by omega) 0 ?_ ?_ k hk
  · intro k acc i h _ ha
    simp only [laws_toClueS.l0, laws_toClue.f, Option.bind_some]
    rw [if_pos (by omega), if_pos (by omega), if_pos (by omega), rd_T23_nat l i h]
    rfl
  · intro k acc ha
    simp only [laws_toClueS.l0]
    rw [if_neg (by omega)]

theorem laws_eqClueS.refl (l : List S25) (hl : l.length ≤ 1048576) (k : Nat) (hk : l.length < k) : laws_eqClueS.f k l l = some true := by
  unfold laws_eqClueS.f
  rw [if_pos rfl]
  rw [all_loop (fun k i => laws_eqClueS.l0 k l l i) l.length (fun _ => true) (by omega) 0 ?_ ?_ k hk]
  · simp
  · intro k i h _
    simp only [laws_eqClueS.l0, laws_eqClue.f]
    rw [if_pos (by omega), if_pos (by omega), if_pos (by omega)]
    simp
  · intro k
    simp only [laws_eqClueS.l0]
    rw [if_neg (by omega)]
end Go.Proofs.Ytgonmfmgonfdcaa.PFnExactIsPuzzle
namespace Go.Proofs.Ytgonmfmgonfdcaa
open Go.RowKit Go.Proofs.Ytgonmfmgonfdcaa.Base Go.Proofs.Ytgonmfmgonfdcaa.PFnExactIsPuzzle Go.Proofs.YtgonmfmgonfdcaaW.PrintWords Go.Proofs.YtgonmfmgonfdcaaW.PrintLast Go.Proofs.YtgonmfmgonfdcaaW.PrintMore
theorem fnExactIsPuzzle_pure : fnExactIsPuzzle.Pure := by
  intro n l hn hl
  have hm := hl.1
  refine ⟨1048590, ?_⟩
  unfold laws_FnExactIsPuzzle.f laws_szPuzzle.f laws_toPuzzle.f
  rw [laws_szClueS.ok l _ (by omega) (by omega) hl.1]
  simp only [Option.bind_some]
  by_cases hs : (1048576 : Int) - l.length < 0
  · rw [if_pos hs]; simp
  · rw [if_neg hs]
    have hlen : l.length ≤ 1048576 := by omega
    rw [if_neg hs]
    simp only [Option.bind_some]
    rw [if_neg hs]
    rw [laws_toClueS.ok l hlen _ (by omega)]
    simp only [Option.bind_some]
    unfold spec_IsPuzzle.f impl_IsPuzzle.f laws_eqPuzzle.f
    rw [spec_pzGood.ok _ _ _ (by omega)]
    simp only [Option.bind_some, bne_self_eq_false, if_true]
    rw [laws_eqClueS.refl _ (by simpa using hlen) _ (by simp; omega)]
    simp
theorem fnExactIsPuzzle_holds : Rows.FnExactIsPuzzleSaid := fnExactIsPuzzle.proved fnExactIsPuzzle_pure
end Go.Proofs.Ytgonmfmgonfdcaa
