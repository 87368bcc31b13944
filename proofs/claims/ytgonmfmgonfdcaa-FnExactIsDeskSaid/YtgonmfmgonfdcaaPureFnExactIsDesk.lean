/- FnExactIsDesk: whatever the desk, the program says of it what the reference says, and leaves it as it was. No condition. -/
import Derived.Test.YtgonmfmgonfdcaaLawFnExactIsDesk
import Derived.Test.YtgonmfmgonfdcaaPBase
set_option linter.unusedVariables false
set_option linter.unusedSimpArgs false
namespace Go.Proofs.Ytgonmfmgonfdcaa.PFnExactIsDesk
open Go.RowKit Go.Proofs.Ytgonmfmgonfdcaa.Base Go.Proofs.Ytgonmfmgonfdcaa.PFnExactIsDesk Go.Proofs.YtgonmfmgonfdcaaW.PrintWords Go.Proofs.YtgonmfmgonfdcaaW.PrintLast Go.Proofs.YtgonmfmgonfdcaaW.PrintMore
theorem laws_szPairS.ok (l : List S82) (n : Int) (h0 : 0 ≤ n) (h1 : n ≤ 1048576) (hl : l.length ≤ maxLen) : laws_szPairS.f l n = some (if n - l.length < 0 then -1 else n - l.length) := by
  unfold maxLen at hl
  unfold laws_szPairS.f
  rw [wrap_id (by omega) (by omega)]
  split <;> rfl

theorem laws_szParty.ok (p : Int) (l : List S82) (n : Int) (h0 : 0 ≤ n) (h1 : n ≤ 1048576) (hl : l.length ≤ maxLen) : laws_szParty.f p l n = some (if n - l.length < 0 then -1 else n - l.length) := by
  unfold laws_szParty.f
  rw [laws_szPairS.ok l n h0 h1 hl]
  simp only [Option.bind_some]
  by_cases h : n - (l.length : Int) < 0
  · simp [h]
  · simp [h]

theorem spec_l1In.ok (n lo hi : Int) : spec_l1In.f n lo hi = some (decide (lo ≤ n ∧ n ≤ hi)) := by
  unfold spec_l1In.f
  by_cases h : lo ≤ n <;> simp [h]

theorem spec_paPeople.ok (n : Int) : spec_paPeople.f n = some (crowd n) := by unfold spec_paPeople.f crowd; simp [spec_l1In.ok]

def lessB (x y : S77) : Bool := decide (x.f0 < y.f0 ∨ x.f0 = y.f0 ∧ x.f1 < y.f1)
theorem spec_paLess.ok (a b c d : Int) : spec_paLess.f a b c d = some (lessB ⟨a, b⟩ ⟨c, d⟩) := by
  unfold spec_paLess.f lessB
  by_cases h : a < c
  · simp [h]
  · by_cases h2 : a = c
    · subst h2; simp
    · simp [h, h2]

theorem rd_T77_nat (l : List S77) (i : Nat) (h : i < l.length) : rd_T77 l (i : Int) = l[i] := by simp [rd_T77, List.getD, h]
/-- What is asked of pair number i of a party of n people. -/
def stepB (n : Int) (l : List S77) (i : Nat) : Bool := decide (0 ≤ (l.getD i z77).f0 ∧ (l.getD i z77).f0 < (l.getD i z77).f1 ∧ (l.getD i z77).f1 < n) && (i == 0 || lessB (l.getD (i - 1) z77) (l.getD i z77))
/-- n and l are a party. -/
def goodB (n : Int) (l : List S77) : Bool := crowd n && (List.range l.length).all (stepB n l)
theorem goodB_people {n : Int} {l : List S77} (h : goodB n l = true) : 0 ≤ n ∧ n ≤ 12 := by
  unfold goodB crowd at h
  simp only [Bool.and_eq_true, decide_eq_true_eq] at h
  exact h.1
theorem goodB_step {n : Int} {l : List S77} (h : goodB n l = true) (i : Nat) (hi : i < l.length) : (0 ≤ l[i].f0 ∧ l[i].f0 < l[i].f1 ∧ l[i].f1 < n) ∧ (∀ h0 : 0 < i, l[i - 1].f0 < l[i].f0 ∨ l[i - 1].f0 = l[i].f0 ∧ l[i - 1].f1 < l[i].f1) := by
  unfold goodB at h
  simp only [Bool.and_eq_true, List.all_eq_true] at h
  have := h.2 i (List.mem_range.2 hi)
  unfold stepB lessB at this
  simp only [List.getD, List.getElem?_eq_getElem hi, List.getElem?_eq_getElem (show i - 1 < l.length by omega), Option.getD_some, Bool.and_eq_true, Bool.or_eq_true, decide_eq_true_eq, beq_iff_eq] at this
  refine ⟨this.1, fun h0 => ?_⟩
  rcases this.2 with h | h
  · omega
  · exact h
theorem goodB_len {n : Int} {l : List S77} (h : goodB n l = true) : 2 * (l.length : Int) ≤ n * (n - 1) := by
  refine pairs_bound n l.length (fun i => (l.getD i z77).f0) (fun i => (l.getD i z77).f1) ?_ ?_ (goodB_people h).1
  · intro i hi
    simp only [List.getD, List.getElem?_eq_getElem hi, Option.getD_some]
    exact (goodB_step h i hi).1
  · intro i hi
    simp only [List.getD, List.getElem?_eq_getElem hi, List.getElem?_eq_getElem (show i < l.length by omega), Option.getD_some]
    exact (goodB_step h (i + 1) hi).2 (by omega)
theorem goodB_len66 {n : Int} {l : List S77} (h : goodB n l = true) : l.length ≤ 66 := by
  have h1 := goodB_len h
  have h2 := goodB_people h
  obtain ⟨m, rfl⟩ := Int.eq_ofNat_of_zero_le h2.1
  obtain rfl | rfl | rfl | rfl | rfl | rfl | rfl | rfl | rfl | rfl | rfl | rfl | rfl : m = 0 ∨ m = 1 ∨ m = 2 ∨ m = 3 ∨ m = 4 ∨ m = 5 ∨ m = 6 ∨ m = 7 ∨ m = 8 ∨ m = 9 ∨ m = 10 ∨ m = 11 ∨ m = 12 := by omega
  all_goals omega
theorem stepB_eq (n : Int) (l : List S77) (i : Nat) (hi : i < l.length) : stepB n l i = (decide (0 ≤ l[i].f0 ∧ l[i].f0 < l[i].f1 ∧ l[i].f1 < n) && (i == 0 || lessB l[i - 1] l[i])) := by
  unfold stepB
  simp only [List.getD, List.getElem?_eq_getElem hi, List.getElem?_eq_getElem (show i - 1 < l.length by omega), Option.getD_some]
theorem half (n : Int) (h0 : 0 ≤ n) (h1 : n ≤ 12) : wrap64 (Int.tdiv (wrap64 (n * (wrap64 (n - 1)))) 2) = n * (n - 1) / 2 := by
  obtain ⟨m, rfl⟩ := Int.eq_ofNat_of_zero_le h0
  have : m ≤ 12 := by omega
  obtain rfl | rfl | rfl | rfl | rfl | rfl | rfl | rfl | rfl | rfl | rfl | rfl | rfl : m = 0 ∨ m = 1 ∨ m = 2 ∨ m = 3 ∨ m = 4 ∨ m = 5 ∨ m = 6 ∨ m = 7 ∨ m = 8 ∨ m = 9 ∨ m = 10 ∨ m = 11 ∨ m = 12 := by omega
  all_goals (unfold wrap64; decide)
theorem spec_paGood.ok (n : Int) (l : List S77) (k : Nat) (hk : 70 ≤ k) : spec_paGood.f k n l = some (goodB n l) := by
  obtain ⟨k, rfl⟩ : ∃ m, k = m + 1 := ⟨k - 1, by omega⟩
  unfold spec_paGood.f
  rw [spec_paPeople.ok]
  simp only [Option.bind_some]
  by_cases hn : crowd n = true
  · have hc : 0 ≤ n ∧ n ≤ 12 := by simpa [crowd] using hn
    rw [if_pos hn, half n hc.1 hc.2]
    simp only [spec_paGood.j0]
    by_cases hl : (l.length : Int) > n * (n - 1) / 2
    · rw [if_pos (by simpa using hl)]
      congr 1
      symm
      rw [Bool.eq_false_iff]
      intro h
      have := goodB_len h
      omega
    · rw [if_neg (by simpa using hl)]
      have h66 : l.length ≤ 66 := by
        obtain ⟨m, rfl⟩ := Int.eq_ofNat_of_zero_le hc.1
        have : m ≤ 12 := by omega
        obtain rfl | rfl | rfl | rfl | rfl | rfl | rfl | rfl | rfl | rfl | rfl | rfl | rfl : m = 0 ∨ m = 1 ∨ m = 2 ∨ m = 3 ∨ m = 4 ∨ m = 5 ∨ m = 6 ∨ m = 7 ∨ m = 8 ∨ m = 9 ∨ m = 10 ∨ m = 11 ∨ m = 12 := by omega
        all_goals omega
      rw [all_loop (fun k i => spec_paGood.l0 k l (l.length : Int) i n l) l.length (stepB n l) (by omega) 0 ?_ ?_ k (by omega)]
      · unfold goodB; rw [hn]; rfl
      · intro k i h _
        have e1 : wrap64 (n - 1) = n - 1 := wrap_id (by omega) (by omega)
        simp only [spec_paGood.l0]
        rw [if_pos (by omega), if_pos (by omega), if_pos (by omega), rd_T77_nat l i h, spec_l1In.ok]
        simp only [Option.bind_some, e1]
        rw [stepB_eq n l i h]
        by_cases hA : 0 ≤ l[i].f0 ∧ l[i].f0 ≤ n - 1
        · have e2 : wrap64 (l[i].f0 + 1) = l[i].f0 + 1 := wrap_id (by omega) (by omega)
          rw [if_pos (by simpa using hA), spec_l1In.ok, e2]
          simp only [Option.bind_some]
          by_cases hB : l[i].f0 + 1 ≤ l[i].f1 ∧ l[i].f1 ≤ n - 1
          · rw [if_pos (by simpa using hB), decide_eq_true (show 0 ≤ l[i].f0 ∧ l[i].f0 < l[i].f1 ∧ l[i].f1 < n from ⟨by omega, by omega, by omega⟩)]
            simp only [Bool.true_and]
            rcases Nat.eq_zero_or_pos i with rfl | hi
            · rw [if_neg (by simp)]; simp
            · have e3 : wrap64 ((i : Int) - 1) = ((i - 1 : Nat) : Int) := by rw [wrap_id (by omega) (by omega)]; omega
              rw [if_pos (by omega), e3, if_pos (by omega), if_pos (by omega), rd_T77_nat l (i - 1) (by omega), spec_paLess.ok]
              simp only [Option.bind_some]
              rw [show (i == 0) = false from by simp; omega, Bool.false_or]
          · rw [if_neg (by simpa using hB), decide_eq_false (show ¬ (0 ≤ l[i].f0 ∧ l[i].f0 < l[i].f1 ∧ l[i].f1 < n) from by omega)]; simp
        · rw [if_neg (by simpa using hA), decide_eq_false (show ¬ (0 ≤ l[i].f0 ∧ l[i].f0 < l[i].f1 ∧ l[i].f1 < n) from by omega)]; simp
      · intro k
        simp only [spec_paGood.l0]
        rw [if_neg (by omega)]
  · have hn : crowd n = false := by simpa using hn
    rw [hn, if_neg (by simp)]
    simp [spec_paGood.j0, goodB, hn]

theorem rd_T82_nat (l : List S82) (i : Nat) (h : i < l.length) : rd_T82 l (i : Int) = l[i] := by simp [rd_T82, List.getD, h]
def prs (l : List S82) : List S77 := l.map fun x => ⟨x.f0, x.f1⟩
theorem prs_length (l : List S82) : (prs l).length = l.length := by simp [prs]
theorem laws_toPairS.ok (l : List S82) (hl : l.length ≤ 1048576) (k : Nat) (hk : l.length < k) : laws_toPairS.f k l = some (prs l) := by
  unfold laws_toPairS.f
  rw [if_pos (by omega), if_pos (by omega)]
  refine fill_loop (fun k acc i => laws_toPairS.l0 k l acc i) _ l _ (by omega) 0 ?_ ?_ k hk
  · intro k acc i h _ ha
    simp only [laws_toPairS.l0, laws_toPair.f, Option.bind_some]
    rw [if_pos (by omega), if_pos (by omega), if_pos (by omega), rd_T82_nat l i h]
    rfl
  · intro k acc ha
    simp only [laws_toPairS.l0]
    rw [if_neg (by omega)]

theorem laws_toParty.ok (n : Int) (l : List S82) (hl : l.length ≤ 1048576) (k : Nat) (hk : l.length < k) : laws_toParty.f k n l = some (n, prs l) := by
  unfold laws_toParty.f
  rw [laws_toPairS.ok l hl k hk]; rfl

theorem cmp_Compare_int.ok (a b : Int) : cmp_Compare_int.f a b = some (if a < b then -1 else if a > b then 1 else 0) := by
  unfold cmp_Compare_int.f cmp_isNaN_int.f
  simp only [Option.bind_some, bne_self_eq_false]
  rw [if_neg (by simp), if_neg (by simp)]
  split <;> (try split) <;> rfl
def cmpI (a b c d : Int) : Int := if a < c then -1 else if a > c then 1 else if b < d then -1 else if b > d then 1 else 0
theorem cmp_Or_int.two (k : Nat) (x y : Int) : cmp_Or_int.f (k + 3) [x, y] = some (if x = 0 then y else x) := by
  unfold cmp_Or_int.f
  simp only [cmp_Or_int.l0, List.length_cons, List.length_nil, rd]
  by_cases hx : x = 0
  · by_cases hy : y = 0
    · simp [hx, hy, wrap_one, wrap_two]
    · simp [hx, hy, wrap_one]
  · simp [hx]
theorem impl_comparePairs.ok (k : Nat) (hk : 3 ≤ k) (a b c d : Int) : impl_comparePairs.f k a b c d = some (cmpI a b c d) := by
  obtain ⟨k, rfl⟩ : ∃ m, k = m + 3 := ⟨k - 3, by omega⟩
  unfold impl_comparePairs.f cmpI
  simp only [cmp_Compare_int.ok, Option.bind_some, cmp_Or_int.two]
  split
  · simp
  · split <;> simp
theorem cmpI_neg (x y : S77) : (cmpI x.f0 x.f1 y.f0 y.f1 ≥ 0) = (lessB x y = false) := by
  unfold cmpI lessB
  rw [eq_iff_iff, decide_eq_false_iff_not]
  split
  · constructor <;> intro h <;> omega
  · split
    · constructor <;> intro h <;> omega
    · split
      · constructor <;> intro h <;> omega
      · split <;> constructor <;> intro h <;> omega

theorem impl_areCrowd.ok (n : Int) : impl_areCrowd.f n = some (crowd n) := by unfold impl_areCrowd.f crowd; simp [impl_within.ok]

theorem impl_IsParty.ok (n : Int) (l : List S77) (hl : l.length ≤ 1048576) (k : Nat) (hk : l.length + 4 < k) : impl_IsParty.f k n l = some (goodB n l) := by
  unfold impl_IsParty.f
  rw [all_loop_fin (fun k i => impl_IsParty.l0 k l (l.length : Int) i n l) l.length (stepB n l) (crowd n) (by omega) 3 ?_ ?_ k (by omega)]
  · unfold goodB; rw [Bool.and_comm]
  · intro k i h hk3
    simp only [impl_IsParty.l0]
    rw [if_pos (by omega), if_pos (by omega), if_pos (by omega), rd_T77_nat l i h, stepB_eq n l i h]
    by_cases h1 : 0 ≤ l[i].f0 ∧ l[i].f0 < l[i].f1 ∧ l[i].f1 < n
    · rw [if_neg (by omega), if_neg (by omega), if_neg (by omega), decide_eq_true h1, Bool.true_and]
      rcases Nat.eq_zero_or_pos i with rfl | hi
      · rw [if_neg (by simp)]; simp
      · have e3 : wrap64 ((i : Int) - 1) = ((i - 1 : Nat) : Int) := by rw [wrap_id (by omega) (by omega)]; omega
        rw [if_pos (by omega), e3, if_pos (by omega), if_pos (by omega), rd_T77_nat l (i - 1) (by omega), impl_comparePairs.ok _ hk3]
        simp only [Option.bind_some, cmpI_neg]
        rw [show (i == 0) = false from by simp; omega, Bool.false_or]
        cases lessB l[i - 1] l[i] <;> rfl
    · rw [decide_eq_false h1, Bool.false_and]
      simp only [Bool.false_eq_true, if_false]
      by_cases a1 : l[i].f0 < 0
      · rw [if_pos a1]
      · rw [if_neg a1]
        by_cases a2 : l[i].f0 ≥ l[i].f1
        · rw [if_pos a2]
        · rw [if_neg a2, if_pos (by omega)]
  · intro k hk3
    simp only [impl_IsParty.l0]
    rw [if_neg (by omega), impl_areCrowd.ok]; rfl

theorem laws_eqPairS.refl (l : List S77) (hl : l.length ≤ 1048576) (k : Nat) (hk : l.length < k) : laws_eqPairS.f k l l = some true := by
  unfold laws_eqPairS.f
  rw [if_pos rfl]
  rw [all_loop (fun k i => laws_eqPairS.l0 k l l i) l.length (fun _ => true) (by omega) 0 ?_ ?_ k hk]
  · simp
  · intro k i h _
    simp only [laws_eqPairS.l0, laws_eqPair.f]
    rw [if_pos (by omega), if_pos (by omega), if_pos (by omega)]
    simp
  · intro k
    simp only [laws_eqPairS.l0]
    rw [if_neg (by omega)]

theorem laws_eqParty.refl (n : Int) (l : List S77) (hl : l.length ≤ 1048576) (k : Nat) (hk : l.length < k) : laws_eqParty.f k n l n l = some true := by
  unfold laws_eqParty.f
  rw [if_pos rfl, laws_eqPairS.refl l hl k hk]; rfl
end Go.Proofs.Ytgonmfmgonfdcaa.PFnExactIsDesk
namespace Go.Proofs.Ytgonmfmgonfdcaa
open Go.RowKit Go.Proofs.Ytgonmfmgonfdcaa.Base Go.Proofs.Ytgonmfmgonfdcaa.PFnExactIsDesk Go.Proofs.YtgonmfmgonfdcaaW.PrintWords Go.Proofs.YtgonmfmgonfdcaaW.PrintLast Go.Proofs.YtgonmfmgonfdcaaW.PrintMore
theorem fnExactIsDesk_pure : fnExactIsDesk.Pure := by
  intro n l n2 l2 hn hl hn2 hl2
  have hm := hl.1
  have hm2 := hl2.1
  refine ⟨1048590, ?_⟩
  unfold laws_FnExactIsDesk.f laws_szDesk.f
  rw [laws_szParty.ok n l _ (by omega) (by omega) hl.1]
  simp only [Option.bind_some]
  by_cases hs : (1048576 : Int) - l.length < 0
  · rw [if_pos hs]; simp
  · rw [if_neg hs, if_neg hs, laws_szParty.ok n2 l2 _ (by omega) (by omega) hl2.1]
    simp only [Option.bind_some]
    by_cases hs2 : (1048576 : Int) - l.length - l2.length < 0
    · rw [if_pos hs2]; simp
    · rw [if_neg hs2, if_neg hs2]
      simp only [Option.bind_some]
      rw [if_neg hs2]
      unfold laws_toDesk.f
      rw [laws_toParty.ok n l (by omega) _ (by omega), laws_toParty.ok n2 l2 (by omega) _ (by omega)]
      simp only [Option.bind_some]
      unfold spec_IsDesk.f spec_coGood.f impl_IsDesk.f laws_eqDesk.f
      rw [spec_paGood.ok _ _ _ (by omega), spec_paGood.ok _ _ _ (by omega), impl_IsParty.ok _ _ (by rw [prs_length]; omega) _ (by rw [prs_length]; omega), impl_IsParty.ok _ _ (by rw [prs_length]; omega) _ (by rw [prs_length]; omega), laws_eqParty.refl _ _ (by rw [prs_length]; omega) _ (by rw [prs_length]; omega), laws_eqParty.refl _ _ (by rw [prs_length]; omega) _ (by rw [prs_length]; omega)]
      simp only [Option.bind_some, if_true]
      cases goodB n (prs l) <;> simp
theorem fnExactIsDesk_holds : Rows.FnExactIsDeskSaid := fnExactIsDesk.proved fnExactIsDesk_pure
end Go.Proofs.Ytgonmfmgonfdcaa
