/- FnExactIsClue: whatever the numbers, the program says of a clue what the reference says. No condition. -/
import Derived.Test.YtgonmfmgonfdcaaLawFnExactIsClue
set_option linter.unusedVariables false
set_option linter.unusedSimpArgs false
namespace Go.Proofs.Ytgonmfmgonfdcaa.PFnExactIsClue
open Go.RowKit Go.Proofs.Ytgonmfmgonfdcaa.Base Go.Proofs.Ytgonmfmgonfdcaa.PFnExactIsClue Go.Proofs.YtgonmfmgonfdcaaW.PrintWords Go.Proofs.YtgonmfmgonfdcaaW.PrintLast Go.Proofs.YtgonmfmgonfdcaaW.PrintMore
theorem spec_l1In.ok (n lo hi : Int) : spec_l1In.f n lo hi = some (decide (lo ≤ n ∧ n ≤ hi)) := by
  unfold spec_l1In.f
  by_cases h : lo ≤ n <;> simp [h]

theorem spec_pzPeople.ok (n : Int) : spec_pzPeople.f n = some (guests n) := by unfold spec_pzPeople.f guests; simp [spec_l1In.ok]

theorem spec_pzClue.ok (k : Nat) (n kd a b : Int) (h1 : 1 ≤ n) (h2 : n ≤ 5) : spec_pzClue.f (k + 1) n kd a b = some (clueI n kd a b) := by
  have e1 : wrap64 (n - 1) = n - 1 := wrap_id (by omega) (by omega)
  have e2 : wrap64 (Int.tdiv (wrap64 (n * (wrap64 (n - 1)))) 2) = n * (n - 1) / 2 := by
    obtain rfl | rfl | rfl | rfl | rfl : n = 1 ∨ n = 2 ∨ n = 3 ∨ n = 4 ∨ n = 5 := by omega
    all_goals (unfold wrap64; decide)
  rw [e1] at e2
  have e3 : 0 ≤ a → a ≤ n - 1 → wrap64 (a + 1) = a + 1 := fun h h' => wrap_id (by omega) (by omega)
  have e4 : n * (n - 1) / 2 ≤ 10 := by
    obtain rfl | rfl | rfl | rfl | rfl : n = 1 ∨ n = 2 ∨ n = 3 ∨ n = 4 ∨ n = 5 := by omega
    all_goals decide
  unfold spec_pzClue.f clueI
  simp only [spec_pzClue.j0, spec_l1In.ok, e1, e2, Option.bind_some]
  generalize n * (n - 1) / 2 = m at *
  clear e1 e2
  have key : ∀ x : Bool, (if x = true then (some (decide (wrap64 (a + 1) ≤ b ∧ b ≤ n - 1)) : Option Bool) else some false) = some (x && decide (wrap64 (a + 1) ≤ b ∧ b ≤ n - 1)) := fun x => by cases x <;> rfl
  by_cases k0 : kd = 0
  · simp only [k0, if_true, beq_self_eq_true, true_or, key]
    rw [Option.some_inj, Bool.eq_iff_iff]
    simp only [Bool.and_eq_true, decide_eq_true_eq]
    by_cases ha : 0 ≤ a ∧ a ≤ n - 1
    · rw [e3 ha.1 ha.2]; omega
    · omega
  · by_cases k1 : kd = 1
    · subst k1
      simp only [show ((1 : Int) = 0) = False from by simp, if_true, if_false, beq_self_eq_true, or_true, key]
      rw [Option.some_inj, Bool.eq_iff_iff]
      simp only [Bool.and_eq_true, decide_eq_true_eq]
      by_cases ha : 0 ≤ a ∧ a ≤ n - 1
      · rw [e3 ha.1 ha.2]; omega
      · omega
    · simp only [k0, k1, if_false, or_self, beq_iff_eq]
      repeat' split
      all_goals (rw [Option.some_inj, Bool.eq_iff_iff]; first | done | (simp_all; done) | (simp_all; omega))
end Go.Proofs.Ytgonmfmgonfdcaa.PFnExactIsClue
namespace Go.Proofs.Ytgonmfmgonfdcaa
open Go.RowKit Go.Proofs.Ytgonmfmgonfdcaa.Base Go.Proofs.Ytgonmfmgonfdcaa.PFnExactIsClue Go.Proofs.YtgonmfmgonfdcaaW.PrintWords Go.Proofs.YtgonmfmgonfdcaaW.PrintLast Go.Proofs.YtgonmfmgonfdcaaW.PrintMore
theorem fnExactIsClue_pure : fnExactIsClue.Pure := by
  intro n kd a b _ _ _ _
  refine ⟨4, ?_⟩
  unfold laws_FnExactIsClue.f laws_toClue.f spec_IsClue.f
  simp only [Option.bind_some]
  rw [spec_pzPeople.ok, impl_IsClue.ok]
  simp only [Option.bind_some]
  by_cases h : guests n = true
  · have hg : 1 ≤ n ∧ n ≤ 5 := by simpa [guests] using h
    rw [h, if_pos rfl, spec_pzClue.ok _ _ _ _ _ hg.1 hg.2]
    simp
  · have h : guests n = false := by simpa using h
    rw [h, if_neg (by simp)]
    simp
theorem fnExactIsClue_holds : Rows.FnExactIsClueSaid := fnExactIsClue.proved fnExactIsClue_pure
end Go.Proofs.Ytgonmfmgonfdcaa
