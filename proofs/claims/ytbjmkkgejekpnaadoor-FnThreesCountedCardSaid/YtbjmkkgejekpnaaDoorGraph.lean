/- Plain lemmas of this session on friends, sets of people as bits, and groups: of no program. -/
import Derived.Test.YtbjmkkgejekpnaaDoorBase
import Derived.Test.YtbjmkkgejekpnaaDoorWMore
namespace Go.Proofs.YtbjmkkgejekpnaaDoor.Base
open Go.RowKit Go.Proofs.YtbjmkkgejekpnaaDoorW.PrintWords
def bof (s : Nat) : List Nat := (List.range 16).filter fun i => s.testBit i
theorem popN_bof (s : Nat) : popN 16 s = (bof s).length := rfl
theorem filter_least (p : Nat → Bool) (a : Nat) (ha : p a = true) (hl : ∀ i, i < a → p i = false) : ∀ n, a < n → (List.range n).filter p = a :: (List.range n).filter fun i => p i && (i != a) := by
  intro n
  induction n with
  | zero => intro h; omega
  | succ n ih =>
    intro h
    rw [List.range_succ, List.filter_append, List.filter_append]
    by_cases e : a = n
    · subst e
      have e1 : (List.range a).filter p = [] := by
        rw [List.filter_eq_nil_iff]
        intro i hi
        rw [hl i (List.mem_range.1 hi)]; simp
      have e2 : (List.range a).filter (fun i => p i && (i != a)) = [] := by
        rw [List.filter_eq_nil_iff]
        intro i hi
        rw [hl i (List.mem_range.1 hi)]; simp
      rw [e1, e2]
      simp [ha]
    · rw [ih (by omega)]
      have : (n != a) = true := by simp; omega
      have e3 : ([n] : List Nat).filter p = [n].filter fun i => p i && (i != a) := by
        apply List.filter_congr
        intro i hi
        obtain rfl := List.mem_singleton.1 hi
        rw [this, Bool.and_true]
      rw [e3]; rfl
theorem ctz_parts (s : Nat) (h0 : s ≠ 0) (h : s < 65536) : ∃ m, s = 2 ^ Go.Lib.ctz 16 s * (2 * m + 1) ∧ Go.Lib.ctz 16 s < 16 := by
  unfold Go.Lib.ctz
  rw [if_neg h0]
  exact Go.Lib.ctzFrom_spec 16 s (by omega) (by simpa using h)
theorem ctz_bit (s : Nat) (h0 : s ≠ 0) (h : s < 65536) : s.testBit (Go.Lib.ctz 16 s) = true ∧ (∀ i, i < Go.Lib.ctz 16 s → s.testBit i = false) ∧ Go.Lib.ctz 16 s < 16 := by
  obtain ⟨m, e, h16⟩ := ctz_parts s h0 h
  generalize Go.Lib.ctz 16 s = a at *
  refine ⟨?_, ?_, h16⟩
  · rw [e, Nat.testBit_two_pow_mul]
    simp
  · intro i hi
    rw [e, Nat.testBit_two_pow_mul]
    simp; omega
theorem low_testBit (s : Nat) (h0 : s ≠ 0) (h : s < 65536) (i : Nat) : (s &&& (s - 1)).testBit i = (s.testBit i && (i != Go.Lib.ctz 16 s)) := by
  obtain ⟨m, e, h16⟩ := ctz_parts s h0 h
  generalize Go.Lib.ctz 16 s = a at *
  have hp : 0 < 2 ^ a := Nat.two_pow_pos a
  have e1 : s - 1 = 2 ^ a * (2 * m) + (2 ^ a - 1) := by rw [e, Nat.mul_add]; omega
  rw [Nat.testBit_and, e1, Nat.testBit_two_pow_mul_add _ (by omega), e, Nat.testBit_two_pow_mul]
  by_cases hi : i < a
  · have : ¬ (a ≤ i) := by omega
    simp [this]
  · rw [if_neg hi]
    have : a ≤ i := by omega
    by_cases e2 : i = a
    · subst e2; simp
    · obtain ⟨d, rfl⟩ : ∃ d, i = a + (d + 1) := ⟨i - a - 1, by omega⟩
      have e3 : a + (d + 1) - a = d + 1 := by omega
      rw [e3, Nat.testBit_succ, Nat.testBit_succ]
      have e4 : (2 * m + 1) / 2 = m := by omega
      have e5 : (2 * m) / 2 = m := by omega
      rw [e4, e5]
      simp
theorem bof_step (s : Nat) (h0 : s ≠ 0) (h : s < 65536) : bof s = Go.Lib.ctz 16 s :: bof (s &&& (s - 1)) := by
  obtain ⟨h1, h2, h3⟩ := ctz_bit s h0 h
  unfold bof
  rw [filter_least (fun i => s.testBit i) _ h1 h2 16 h3]
  congr 1
  apply List.filter_congr
  intro i _
  rw [low_testBit s h0 h]
theorem bof_zero : bof 0 = [] := by decide
theorem bof_nil (s : Nat) (h : s < 65536) (e : bof s = []) : s = 0 := by
  by_cases h0 : s = 0
  · exact h0
  · rw [bof_step s h0 h] at e; cases e
def msk (p : Nat → Bool) : Nat → Nat
  | 0 => 0
  | n + 1 => msk p n + if p n = true then 2 ^ n else 0
theorem msk_lt (p : Nat → Bool) : ∀ n, msk p n < 2 ^ n := by
  intro n
  induction n with
  | zero => simp [msk]
  | succ n ih =>
    simp only [msk]
    rw [Nat.pow_succ]
    split <;> omega
theorem msk_testBit (p : Nat → Bool) : ∀ n i, (msk p n).testBit i = (decide (i < n) && p i) := by
  intro n
  induction n with
  | zero => intro i; simp [msk]
  | succ n ih =>
    intro i
    have hl := msk_lt p n
    simp only [msk]
    have e : msk p n + (if p n = true then 2 ^ n else 0) = 2 ^ n * (if p n = true then 1 else 0) + msk p n := by split <;> omega
    rw [e, Nat.testBit_two_pow_mul_add _ hl, ih]
    by_cases h1 : i < n
    · have : i < n + 1 := by omega
      simp [h1, this]
    · by_cases h2 : i = n
      · subst h2
        simp only [if_neg h1, Nat.sub_self, Nat.lt_succ_self, decide_true, Bool.true_and]
        cases p i <;> simp
      · have h3 : ¬ i < n + 1 := by omega
        obtain ⟨d, hd⟩ : ∃ d, i - n = d + 1 := ⟨i - n - 1, by omega⟩
        simp only [if_neg h1, hd, h3, decide_false, Bool.false_and]
        rw [Nat.testBit_succ]
        split <;> simp
theorem bof_msk (p : Nat → Bool) (n : Nat) (h : n ≤ 16) : bof (msk p n) = (List.range n).filter p := by
  unfold bof
  have : ∀ d, (List.range (n + d)).filter (fun i => (msk p n).testBit i) = (List.range n).filter p := by
    intro d
    induction d with
    | zero =>
      apply List.filter_congr
      intro i hi
      have hi := List.mem_range.1 hi
      rw [msk_testBit]; simp; omega
    | succ d ih =>
      rw [← Nat.add_assoc, List.range_succ, List.filter_append, ih]
      have : (msk p n).testBit (n + d) = false := by
        rw [msk_testBit, decide_eq_false (by omega)]; rfl
      simp [this]
  have h2 := this (16 - n)
  rw [show n + (16 - n) = 16 from by omega] at h2
  exact h2
theorem up_loop {P : Nat → Prop} {n : Nat} (done : P n) (step : ∀ i, i < n → P (i + 1) → P i) : ∀ i, i ≤ n → P i := by
  have : ∀ d i, i + d = n → P i := by
    intro d
    induction d with
    | zero => intro i h; obtain rfl : i = n := by omega
              exact done
    | succ d ih => intro i h; exact step i (by omega) (ih (i + 1) (by omega))
  intro i h
  exact this (n - i) i (by omega)
theorem nat_succ (i : Nat) (h : i ≤ 4611686018427387904) : wrap64 ((i : Int) + 1) = ((i + 1 : Nat) : Int) := by rw [wrap_id (by omega) (by omega)]; omega
def upd (F : Nat → Nat → Bool) (a b : Nat) (v : Bool) : Nat → Nat → Bool := fun x y => if x = a ∧ y = b then v else F x y
def tabB (n : Nat) (F : Nat → Nat → Bool) : List (List Bool) := (List.range n).map fun a => (List.range n).map (F a)
def tabI (n : Nat) (F : Nat → Nat → Bool) : List Int := (List.range n).map fun a => ((msk (F a) n : Nat) : Int)
theorem tabB_length (n : Nat) (F : Nat → Nat → Bool) : (tabB n F).length = n := by simp [tabB]
theorem tabI_length (n : Nat) (F : Nat → Nat → Bool) : (tabI n F).length = n := by simp [tabI]
theorem tabB_getD (n : Nat) (F : Nat → Nat → Bool) (a : Nat) (h : a < n) : (tabB n F).getD a [] = (List.range n).map (F a) := by simp [tabB, List.getD, h]
theorem tabI_rd (n : Nat) (F : Nat → Nat → Bool) (a : Nat) (h : a < n) : rd (tabI n F) (a : Int) = ((msk (F a) n : Nat) : Int) := by simp [rd, tabI, List.getD, h]
theorem row_get (n : Nat) (f : Nat → Bool) (b : Nat) (h : b < n) : rdOf false ((List.range n).map f) (b : Int) = f b := by simp [rdOf, List.getD, h]
theorem tabB_set (n : Nat) (F : Nat → Nat → Bool) (a b : Nat) (v : Bool) (_ha : a < n) : (tabB n F).set a (((List.range n).map (F a)).set b v) = tabB n (upd F a b v) := by
  apply List.ext_getElem (by simp [tabB])
  intro i h1 h2
  have hi : i < n := by simpa [tabB] using h2
  by_cases e : a = i
  · subst e
    simp only [List.getElem_set_self, tabB, List.getElem_map, List.getElem_range]
    apply List.ext_getElem (by simp)
    intro j g1 g2
    have hj : j < n := by simpa using g2
    by_cases e2 : b = j
    · subst e2
      simp [upd]
    · rw [List.getElem_set_ne e2]
      have : ¬ (j = b) := fun h => e2 h.symm
      simp [upd, this]
  · rw [List.getElem_set_ne e]
    have : ∀ y, upd F a b v i y = F i y := fun y => by
      unfold upd
      rw [if_neg (fun h => e h.1.symm)]
    simp only [tabB, List.getElem_map, List.getElem_range]
    congr 1
    funext y
    exact (this y).symm
def oth (F : Nat → Nat → Bool) : Nat → Nat → Bool := fun a b => !F a b && (b != a)
theorem shl_one (b : Nat) (h : b < 16) : shl .u16 1 (b : Int) = ((2 ^ b : Nat) : Int) := by
  obtain rfl | rfl | rfl | rfl | rfl | rfl | rfl | rfl | rfl | rfl | rfl | rfl | rfl | rfl | rfl | rfl : b = 0 ∨ b = 1 ∨ b = 2 ∨ b = 3 ∨ b = 4 ∨ b = 5 ∨ b = 6 ∨ b = 7 ∨ b = 8 ∨ b = 9 ∨ b = 10 ∨ b = 11 ∨ b = 12 ∨ b = 13 ∨ b = 14 ∨ b = 15 := by omega
  all_goals decide
theorem msk_lt16 (p : Nat → Bool) (n : Nat) (h : n ≤ 16) : msk p n < 65536 :=
  Nat.lt_of_lt_of_le (msk_lt p n) (show 2 ^ n ≤ 2 ^ 16 from Nat.pow_le_pow_right (by omega) h)
theorem pow_lt16 (b : Nat) (h : b < 16) : 2 ^ b < 65536 := show 2 ^ b < 2 ^ 16 from Nat.pow_lt_pow_right (by omega) h
theorem msk_or (p : Nat → Bool) (n b : Nat) (h : b < n) : msk p n ||| 2 ^ b = msk (fun y => if y = b then true else p y) n := by
  apply Nat.eq_of_testBit_eq
  intro i
  rw [Nat.testBit_or, msk_testBit, msk_testBit, Nat.testBit_two_pow]
  by_cases e : i = b
  · subst e; simp [h]
  · have : ¬ (b = i) := fun h => e h.symm
    simp [e, this]
theorem tabI_set (n : Nat) (F : Nat → Nat → Bool) (a b : Nat) (hn : n ≤ 16) (_ha : a < n) (hb : b < n) : (tabI n F).set a (Go.bits .or .u16 ((msk (F a) n : Nat) : Int) (shl .u16 1 (b : Int))) = tabI n (upd F a b true) := by
  rw [shl_one b (by omega), u16_or_nat _ _ (msk_lt16 _ _ hn) (pow_lt16 b (by omega)), msk_or _ _ _ hb]
  apply List.ext_getElem (by simp [tabI])
  intro i h1 h2
  have hi : i < n := by simpa [tabI] using h2
  by_cases e : a = i
  · subst e
    simp only [List.getElem_set_self, tabI, List.getElem_map, List.getElem_range]
    congr 2
    funext y
    unfold upd
    simp
  · rw [List.getElem_set_ne e]
    have : ∀ y, upd F a b true i y = F i y := fun y => by
      unfold upd
      rw [if_neg (fun h => e h.1.symm)]
    simp only [tabI, List.getElem_map, List.getElem_range]
    congr 2
    funext y
    exact (this y).symm
theorem msk_all (n : Nat) : msk (fun _ => true) n = 2 ^ n - 1 := by
  induction n with
  | zero => rfl
  | succ n ih =>
    simp only [msk, ih, if_true, Nat.pow_succ]
    have := Nat.two_pow_pos n
    omega
theorem all_bits (n : Nat) (h : n ≤ 12) : IntKind.u16.wrap ((shl .u16 1 (n : Int)) - 1) = ((msk (fun _ => true) n : Nat) : Int) := by
  rw [shl_one n (by omega), msk_all]
  have h1 := Nat.two_pow_pos n
  have h2 := pow_lt16 n (by omega)
  generalize 2 ^ n = m at *
  rw [IntKind.wrap_u16]
  omega
theorem other_bits (F : Nat → Bool) (n a : Nat) (h : n ≤ 12) (ha : a < n) : Go.bits .andNot .u16 (Go.bits .andNot .u16 (IntKind.u16.wrap ((shl .u16 1 (n : Int)) - 1)) ((msk F n : Nat) : Int)) (shl .u16 1 (a : Int)) = ((msk (fun b => !F b && (b != a)) n : Nat) : Int) := by
  have e5 : ∀ (x : Nat) i, x < 65536 → (65535 - x).testBit i = (decide (i < 16) && !x.testBit i) := fun x i hx => by
    have := Nat.testBit_two_pow_sub_succ (n := 16) (x := x) (by simpa using hx) i
    rw [show 65535 - x = 2 ^ 16 - (x + 1) from by omega]
    exact this
  have l1 := msk_lt16 (fun _ => true) n (by omega)
  have l2 := msk_lt16 F n (by omega)
  rw [all_bits n h, shl_one a (by omega), u16_andNot_nat _ _ l1 l2, u16_andNot_nat _ _ (Nat.lt_of_le_of_lt Nat.and_le_left l1) (pow_lt16 a (by omega))]
  congr 1
  apply Nat.eq_of_testBit_eq
  intro i
  rw [Nat.testBit_and, Nat.testBit_and, e5 _ _ l2, e5 _ _ (pow_lt16 a (by omega)), msk_testBit, msk_testBit, msk_testBit, Nat.testBit_two_pow]
  by_cases hi : i < n
  · have : i < 16 := by omega
    by_cases e : i = a
    · subst e; simp
    · have e2 : ¬ (a = i) := fun h => e h.symm
      simp [hi, this, e, e2]
  · simp [hi]
theorem low_bits (s : Nat) (hs : s < 65536) (h0 : s ≠ 0) : Go.bits .and .u16 (s : Int) (IntKind.u16.wrap ((s : Int) - 1)) = ((s &&& (s - 1) : Nat) : Int) := by
  have e1 : IntKind.u16.wrap ((s : Int) - 1) = ((s - 1 : Nat) : Int) := by rw [IntKind.wrap_u16]; omega
  rw [e1, u16_and_nat s _ hs (by omega)]
theorem range'_cons (a n : Nat) (h : a < n) : List.range' a (n - a) = a :: List.range' (a + 1) (n - (a + 1)) := by
  rw [show n - a = (n - (a + 1)) + 1 from by omega, List.range'_succ]
end Go.Proofs.YtbjmkkgejekpnaaDoor.Base
