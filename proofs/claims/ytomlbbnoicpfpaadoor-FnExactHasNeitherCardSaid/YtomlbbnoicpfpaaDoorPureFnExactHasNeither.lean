/- FnExactHasNeither: whatever the party and the sizes, the program says whether it has neither as the reference does, and leaves the party as it was. Condition: the table of math/bits lies as its initialiser lays it (the card's own). -/
import Derived.Test.YtomlbbnoicpfpaaDoorLawFnExactHasNeither
import Derived.Test.YtomlbbnoicpfpaaDoorPBase
import Derived.Test.YtomlbbnoicpfpaaDoorGraph
set_option linter.unusedVariables false
set_option linter.unusedSimpArgs false
namespace Go.Proofs.YtomlbbnoicpfpaaDoor.PFnExactHasNeither
open Go.RowKit Go.Proofs.YtomlbbnoicpfpaaDoor.Base Go.Proofs.YtomlbbnoicpfpaaDoor.PFnExactHasNeither Go.Proofs.YtomlbbnoicpfpaaDoorW.PrintWords Go.Proofs.YtomlbbnoicpfpaaDoorW.PrintLast Go.Proofs.YtomlbbnoicpfpaaDoorW.PrintMore
theorem laws_szPairS.ok (l : List S118) (n : Int) (h0 : 0 ≤ n) (h1 : n ≤ 1048576) (hl : l.length ≤ maxLen) : laws_szPairS.f l n = some (if n - l.length < 0 then -1 else n - l.length) := by
  unfold maxLen at hl
  unfold laws_szPairS.f
  rw [wrap_id (by omega) (by omega)]
  split <;> rfl

theorem laws_szParty.ok (p : Int) (l : List S118) (n : Int) (h0 : 0 ≤ n) (h1 : n ≤ 1048576) (hl : l.length ≤ maxLen) : laws_szParty.f p l n = some (if n - l.length < 0 then -1 else n - l.length) := by
  unfold laws_szParty.f
  rw [laws_szPairS.ok l n h0 h1 hl]
  simp only [Option.bind_some]
  by_cases h : n - (l.length : Int) < 0
  · simp [h]
  · simp [h]

theorem spec_l1In.ok (n lo hi : Int) : spec_l1In.f n lo hi = some (decide (lo ≤ n ∧ n ≤ hi)) := by
  unfold spec_l1In.f
  by_cases h : lo ≤ n <;> simp [h]

theorem spec_paPeople.ok (n : Int) : spec_paPeople.f n = some (crowd n) := by unfold spec_paPeople.f crowd; simp [spec_l1In.ok]

def lessB (x y : S89) : Bool := decide (x.f0 < y.f0 ∨ x.f0 = y.f0 ∧ x.f1 < y.f1)
theorem spec_paLess.ok (a b c d : Int) : spec_paLess.f a b c d = some (lessB ⟨a, b⟩ ⟨c, d⟩) := by
  unfold spec_paLess.f lessB
  by_cases h : a < c
  · simp [h]
  · by_cases h2 : a = c
    · subst h2; simp
    · simp [h, h2]

theorem rd_T89_nat (l : List S89) (i : Nat) (h : i < l.length) : rd_T89 l (i : Int) = l[i] := by simp [rd_T89, List.getD, h]
/-- What is asked of pair number i of a party of n people. -/
def stepB (n : Int) (l : List S89) (i : Nat) : Bool := decide (0 ≤ (l.getD i z89).f0 ∧ (l.getD i z89).f0 < (l.getD i z89).f1 ∧ (l.getD i z89).f1 < n) && (i == 0 || lessB (l.getD (i - 1) z89) (l.getD i z89))
/-- n and l are a party. -/
def goodB (n : Int) (l : List S89) : Bool := crowd n && (List.range l.length).all (stepB n l)
theorem goodB_people {n : Int} {l : List S89} (h : goodB n l = true) : 0 ≤ n ∧ n ≤ 12 := by
  unfold goodB crowd at h
  simp only [Bool.and_eq_true, decide_eq_true_eq] at h
  exact h.1
theorem goodB_step {n : Int} {l : List S89} (h : goodB n l = true) (i : Nat) (hi : i < l.length) : (0 ≤ l[i].f0 ∧ l[i].f0 < l[i].f1 ∧ l[i].f1 < n) ∧ (∀ h0 : 0 < i, l[i - 1].f0 < l[i].f0 ∨ l[i - 1].f0 = l[i].f0 ∧ l[i - 1].f1 < l[i].f1) := by
  unfold goodB at h
  simp only [Bool.and_eq_true, List.all_eq_true] at h
  have := h.2 i (List.mem_range.2 hi)
  unfold stepB lessB at this
  simp only [List.getD, List.getElem?_eq_getElem hi, List.getElem?_eq_getElem (show i - 1 < l.length by omega), Option.getD_some, Bool.and_eq_true, Bool.or_eq_true, decide_eq_true_eq, beq_iff_eq] at this
  refine ⟨this.1, fun h0 => ?_⟩
  rcases this.2 with h | h
  · omega
  · exact h
theorem goodB_len {n : Int} {l : List S89} (h : goodB n l = true) : 2 * (l.length : Int) ≤ n * (n - 1) := by
  refine pairs_bound n l.length (fun i => (l.getD i z89).f0) (fun i => (l.getD i z89).f1) ?_ ?_ (goodB_people h).1
  · intro i hi
    simp only [List.getD, List.getElem?_eq_getElem hi, Option.getD_some]
    exact (goodB_step h i hi).1
  · intro i hi
    simp only [List.getD, List.getElem?_eq_getElem hi, List.getElem?_eq_getElem (show i < l.length by omega), Option.getD_some]
    exact (goodB_step h (i + 1) hi).2 (by omega)
theorem goodB_len66 {n : Int} {l : List S89} (h : goodB n l = true) : l.length ≤ 66 := by
  have h1 := goodB_len h
  have h2 := goodB_people h
  obtain ⟨m, rfl⟩ := Int.eq_ofNat_of_zero_le h2.1
  obtain rfl | rfl | rfl | rfl | rfl | rfl | rfl | rfl | rfl | rfl | rfl | rfl | rfl : m = 0 ∨ m = 1 ∨ m = 2 ∨ m = 3 ∨ m = 4 ∨ m = 5 ∨ m = 6 ∨ m = 7 ∨ m = 8 ∨ m = 9 ∨ m = 10 ∨ m = 11 ∨ m = 12 := by omega
  all_goals omega
theorem stepB_eq (n : Int) (l : List S89) (i : Nat) (hi : i < l.length) : stepB n l i = (decide (0 ≤ l[i].f0 ∧ l[i].f0 < l[i].f1 ∧ l[i].f1 < n) && (i == 0 || lessB l[i - 1] l[i])) := by
  unfold stepB
  simp only [List.getD, List.getElem?_eq_getElem hi, List.getElem?_eq_getElem (show i - 1 < l.length by omega), Option.getD_some]
theorem half (n : Int) (h0 : 0 ≤ n) (h1 : n ≤ 12) : wrap64 (Int.tdiv (wrap64 (n * (wrap64 (n - 1)))) 2) = n * (n - 1) / 2 := by
  obtain ⟨m, rfl⟩ := Int.eq_ofNat_of_zero_le h0
  have : m ≤ 12 := by omega
  obtain rfl | rfl | rfl | rfl | rfl | rfl | rfl | rfl | rfl | rfl | rfl | rfl | rfl : m = 0 ∨ m = 1 ∨ m = 2 ∨ m = 3 ∨ m = 4 ∨ m = 5 ∨ m = 6 ∨ m = 7 ∨ m = 8 ∨ m = 9 ∨ m = 10 ∨ m = 11 ∨ m = 12 := by omega
  all_goals (unfold wrap64; decide)
theorem spec_paGood.ok (n : Int) (l : List S89) (k : Nat) (hk : 70 ≤ k) : spec_paGood.f k n l = some (goodB n l) := by
  obtain ⟨k, rfl⟩ : ∃ m, k = m + 1 := ⟨k - 1, by omega⟩
  unfold spec_paGood.f
  rw [spec_paPeople.ok]
  simp only [Option.bind_some]
  by_cases hn : crowd n = true
  · have hc : 0 ≤ n ∧ n ≤ 12 := by simpa [crowd] using hn
    rw [if_pos hn, half n hc.1 hc.2]
    simp only [spec_paGood.j0]
    by_cases hl : (l.length : Int) > n * (n - 1) / 2
    · rw [if_pos (by simpa using hl)]
      congr 1
      symm
      rw [Bool.eq_false_iff]
      intro h
      have := goodB_len h
      omega
    · rw [if_neg (by simpa using hl)]
      have h66 : l.length ≤ 66 := by
        obtain ⟨m, rfl⟩ := Int.eq_ofNat_of_zero_le hc.1
        have : m ≤ 12 := by omega
        obtain rfl | rfl | rfl | rfl | rfl | rfl | rfl | rfl | rfl | rfl | rfl | rfl | rfl : m = 0 ∨ m = 1 ∨ m = 2 ∨ m = 3 ∨ m = 4 ∨ m = 5 ∨ m = 6 ∨ m = 7 ∨ m = 8 ∨ m = 9 ∨ m = 10 ∨ m = 11 ∨ m = 12 := by omega
        all_goals omega
      rw [all_loop (fun k i => spec_paGood.l0 k l (l.length : Int) i n l) l.length (stepB n l) (by omega) 0 ?_ ?_ k (by omega)]
      · unfold goodB; rw [hn]; rfl
      · intro k i h _
        have e1 : wrap64 (n - 1) = n - 1 := wrap_id (by omega) (by omega)
        simp only [spec_paGood.l0]
        rw [if_pos (by omega), if_pos (by omega), if_pos (by omega), rd_T89_nat l i h, spec_l1In.ok]
        simp only [Option.bind_some, e1]
        rw [stepB_eq n l i h]
        by_cases hA : 0 ≤ l[i].f0 ∧ l[i].f0 ≤ n - 1
        · have e2 : wrap64 (l[i].f0 + 1) = l[i].f0 + 1 := wrap_id (by omega) (by omega)
          rw [if_pos (by simpa using hA), spec_l1In.ok, e2]
          simp only [Option.bind_some]
          by_cases hB : l[i].f0 + 1 ≤ l[i].f1 ∧ l[i].f1 ≤ n - 1
          · rw [if_pos (by simpa using hB), decide_eq_true (show 0 ≤ l[i].f0 ∧ l[i].f0 < l[i].f1 ∧ l[i].f1 < n from ⟨by omega, by omega, by omega⟩)]
            simp only [Bool.true_and]
            rcases Nat.eq_zero_or_pos i with rfl | hi
            · rw [if_neg (by simp)]; simp
            · have e3 : wrap64 ((i : Int) - 1) = ((i - 1 : Nat) : Int) := by rw [wrap_id (by omega) (by omega)]; omega
              rw [if_pos (by omega), e3, if_pos (by omega), if_pos (by omega), rd_T89_nat l (i - 1) (by omega), spec_paLess.ok]
              simp only [Option.bind_some]
              rw [show (i == 0) = false from by simp; omega, Bool.false_or]
          · rw [if_neg (by simpa using hB), decide_eq_false (show ¬ (0 ≤ l[i].f0 ∧ l[i].f0 < l[i].f1 ∧ l[i].f1 < n) from by omega)]; simp
        · rw [if_neg (by simpa using hA), decide_eq_false (show ¬ (0 ≤ l[i].f0 ∧ l[i].f0 < l[i].f1 ∧ l[i].f1 < n) from by omega)]; simp
      · intro k
        simp only [spec_paGood.l0]
        rw [if_neg (by omega)]
  · have hn : crowd n = false := by simpa using hn
    rw [hn, if_neg (by simp)]
    simp [spec_paGood.j0, goodB, hn]

/-- Two people are friends. -/
def adj (l : List S89) (a b : Nat) : Bool := l.any fun x => decide (x.f0.toNat = a ∧ x.f1.toNat = b ∨ x.f1.toNat = a ∧ x.f0.toNat = b)
/-- All pairs are of people below n. -/
def pin (n : Nat) (l : List S89) : Prop := ∀ x ∈ l, 0 ≤ x.f0 ∧ x.f0 < n ∧ 0 ≤ x.f1 ∧ x.f1 < n
theorem adj_symm (l : List S89) (a b : Nat) : adj l a b = adj l b a := by
  unfold adj
  congr 1
  funext x
  rw [decide_eq_decide]
  constructor <;> intro h <;> omega
theorem adj_take (l : List S89) (i : Nat) (hi : i < l.length) : adj (l.take (i + 1)) = upd (upd (adj (l.take i)) l[i].f0.toNat l[i].f1.toNat true) l[i].f1.toNat l[i].f0.toNat true := by
  funext x y
  unfold adj upd
  rw [List.take_succ_eq_append_getElem hi, List.any_append]
  simp only [List.any_cons, List.any_nil, Bool.or_false]
  by_cases h1 : x = l[i].f1.toNat ∧ y = l[i].f0.toNat
  · rw [if_pos h1, decide_eq_true (by omega), Bool.or_true]
  · by_cases h2 : x = l[i].f0.toNat ∧ y = l[i].f1.toNat
    · rw [if_neg h1, if_pos h2, decide_eq_true (by omega), Bool.or_true]
    · rw [if_neg h1, if_neg h2, decide_eq_false (by omega), Bool.or_false]
theorem rdL_tabB (n : Nat) (F : Nat → Nat → Bool) (a : Nat) (h : a < n) : rd_L4 (tabB n F) (a : Int) = (List.range n).map (F a) := by
  simp only [rd_L4, Int.toNat_natCast]
  exact tabB_getD n F a h
theorem tabB_none (n : Nat) : List.replicate n (List.replicate n false) = tabB n (adj []) := by
  apply List.ext_getElem (by simp [tabB])
  intro i h1 h2
  simp only [List.getElem_replicate, tabB, List.getElem_map]
  apply List.ext_getElem (by simp)
  intro j g1 g2
  simp [adj]
theorem spec_paTable.ok (n : Nat) (hn : n ≤ 12) (l : List S89) (hl : l.length ≤ 1048576) (hp : pin n l) : Ev (fun k => spec_paTable.f k (n : Int) l) (tabB n (adj l)) := by
  have h1 : Ev (fun k => spec_paTable.l1 k (tabB n (adj (l.take 0))) l (l.length : Int) ((0 : Nat) : Int)) (tabB n (adj l)) := by
    refine up_loop (P := fun i => Ev (fun k => spec_paTable.l1 k (tabB n (adj (l.take i))) l (l.length : Int) (i : Int)) (tabB n (adj l))) (n := l.length) ?_ ?_ 0 (Nat.zero_le _)
    · refine Ev.step (f := fun _ => some (tabB n (adj l))) (fun k => ?_) (Ev.now _)
      simp only [spec_paTable.l1]
      rw [if_neg (by omega), List.take_length]
    · intro i hi h
      refine Ev.step (fun k => ?_) h
      obtain ⟨q0, q1, q2, q3⟩ := hp l[i] (List.getElem_mem hi)
      obtain ⟨a, ea⟩ := Int.eq_ofNat_of_zero_le q0
      obtain ⟨b, eb⟩ := Int.eq_ofNat_of_zero_le q2
      have ha : a < n := by omega
      have hb : b < n := by omega
      simp only [spec_paTable.l1, Option.bind_some]
      rw [if_pos (by omega), if_pos (by omega), if_pos (by omega), rd_T89_nat l i hi, ea, eb, rdL_tabB n _ a ha, if_pos (by omega), if_pos (by rw [tabB_length]; omega), if_pos (by omega), if_pos (by simp; omega), if_pos (by rw [tabB_length]; omega)]
      simp only [Int.toNat_natCast]
      rw [tabB_set n _ a b true ha, rdL_tabB n _ b hb, if_pos (by simp; omega), tabB_set n _ b a true hb, nat_succ i (by omega), adj_take l i hi, ea, eb]
      simp only [Int.toNat_natCast]
  unfold spec_paTable.f
  have h0 := up_loop (P := fun i => Ev (fun k => spec_paTable.l0 k (List.replicate i (List.replicate n false)) (i : Int) (n : Int) l) (tabB n (adj l))) (n := n) (by
      refine Ev.step (fun k => ?_) h1
      simp only [spec_paTable.l0]
      rw [if_neg (by omega), tabB_none]
      rfl) (by
      intro i hi h
      refine Ev.step (fun k => ?_) h
      simp only [spec_paTable.l0]
      rw [if_pos (by omega), if_pos (by omega), if_pos (by omega), if_pos (by simp; omega), nat_succ i (by omega), List.replicate_succ']
      rfl) 0 (Nat.zero_le _)
  exact h0

theorem spec_l1Own.ok (l : List Int) (h : l.length < 17592186044416) : spec_l1Own.f l = some l := by
  unfold spec_l1Own.f
  simp only [Option.bind_some, List.nil_append]
  rw [if_pos (by simpa using h)]

def ints (bs : List Nat) : List Int := bs.map fun (b : Nat) => (b : Int)
theorem ints_length (bs : List Nat) : (ints bs).length = bs.length := by simp [ints]
theorem rd_ints (bs : List Nat) (i : Nat) (h : i < bs.length) : rd (ints bs) (i : Int) = ((bs[i] : Nat) : Int) := by simp [rd, ints, List.getD, h]
/-- x is a friend of all of some people. -/
def know (F : Nat → Nat → Bool) (bs : List Nat) (x : Nat) : Bool := bs.all (F x)
theorem spec_trKnows.ok (n : Nat) (_hn : n ≤ 12) (F : Nat → Nat → Bool) (bs : List Nat) (a : Nat) (ha : a < n) (hb : ∀ b ∈ bs, b < n) (hl : bs.length ≤ 1048576) : Ev (fun k => spec_trKnows.f k (tabB n F) (ints bs) (a : Int)) (know F bs a) := by
  unfold spec_trKnows.f know
  rw [ints_length]
  refine up_loop (P := fun i => Ev (fun k => spec_trKnows.l0 k (tabB n F) (a : Int) (ints bs) (bs.length : Int) (i : Int)) ((bs.drop i).all (F a))) (n := bs.length) ?_ ?_ 0 (Nat.zero_le _)
  · refine Ev.step (f := fun _ => some true) (fun k => ?_) (by rw [List.drop_length]; exact Ev.now _)
    simp only [spec_trKnows.l0]
    rw [if_neg (by omega)]
  · intro i hi h
    have e : (bs.drop i).all (F a) = (F a bs[i] && (bs.drop (i + 1)).all (F a)) := by rw [List.drop_eq_getElem_cons hi]; rfl
    have hbi := hb bs[i] (List.getElem_mem hi)
    rw [e]
    cases hF : F a bs[i] with
    | false =>
      rw [Bool.false_and]
      refine Ev.step (f := fun _ => some false) (fun k => ?_) (Ev.now _)
      simp only [spec_trKnows.l0]
      rw [if_pos (by omega), if_pos (by omega), if_pos (by rw [ints_length]; omega), if_pos (by omega), if_pos (by rw [tabB_length]; omega), rd_ints bs i hi, if_pos (by omega), rdL_tabB n F a ha, if_pos (by simp; omega), row_get n _ _ hbi, hF, if_neg (by simp)]
    | true =>
      rw [Bool.true_and]
      refine Ev.step (fun k => ?_) h
      simp only [spec_trKnows.l0]
      rw [if_pos (by omega), if_pos (by omega), if_pos (by rw [ints_length]; omega), if_pos (by omega), if_pos (by rw [tabB_length]; omega), rd_ints bs i hi, if_pos (by omega), rdL_tabB n F a ha, if_pos (by simp; omega), row_get n _ _ hbi, hF, if_pos rfl, nat_succ i (by omega)]

theorem range'_cons (a n : Nat) (h : a < n) : List.range' a (n - a) = a :: List.range' (a + 1) (n - (a + 1)) := by
  rw [show n - a = (n - (a + 1)) + 1 from by omega, List.range'_succ]
theorem spec_trGroups.ok (n : Nat) (hn : n ≤ 12) (F : Nat → Nat → Bool) (hF : ∀ a b, F a b = F b a) : ∀ (d : Nat), d ≤ 5 → ∀ (bs : List Nat) (fr : Nat) (size : Nat), size = bs.length + d → bs.length + d ≤ 1000 → fr ≤ n → (∀ b ∈ bs, b < n) → ((bs = [] ∧ fr = 0) ∨ (0 < bs.length ∧ fr = bs.getD (bs.length - 1) 0 + 1)) →
    ∃ out, Ev (fun k => spec_trGroups.f k (tabB n F) (ints bs) (size : Int)) out ∧ (out.length = 0 ↔ cl F d ((List.range' fr (n - fr)).filter (know F bs)) = false) ∧ out.length ≤ 12 ^ d := by
  intro d
  induction d with
  | zero =>
    intro _ bs fr size hs hl _ _ _
    refine ⟨[ints bs], ?_, by simp [cl], by simp⟩
    refine Ev.step (f := fun _ => some [ints bs]) (fun k => ?_) (Ev.now _)
    simp only [spec_trGroups.f]
    rw [if_pos (by rw [ints_length]; omega), spec_l1Own.ok _ (by rw [ints_length]; omega)]
    rfl
  | succ d ih =>
    intro hd bs fr size hs hl hfn hb hfr
    have hX : 12 ^ d ≤ 12 ^ 4 := Nat.pow_le_pow_right (by omega) (by omega)
    have hX2 : (12 : Nat) ^ 4 = 20736 := rfl
    have loop := up_loop (P := fun i => fr ≤ i → ∀ acc : List (List Int), acc.length ≤ i * 12 ^ d → ∃ out, Ev (fun k => spec_trGroups.l0 k (tabB n F) (ints bs) (size : Int) acc (i : Int)) (acc ++ out) ∧ (out.length = 0 ↔ clGo F (cl F d) ((List.range' i (n - i)).filter (know F bs)) = false) ∧ out.length ≤ (n - i) * 12 ^ d) (n := n) (by
        intro _ acc _
        refine ⟨[], ?_, by simp [clGo], by simp⟩
        rw [List.append_nil]
        refine Ev.step (f := fun _ => some acc) (fun k => ?_) (Ev.now _)
        simp only [spec_trGroups.l0]
        rw [if_neg (by rw [tabB_length]; omega)]) (by
        intro i hi h hfi acc hacc
        have hk := spec_trKnows.ok n hn F bs i hi hb (by omega)
        have hXi : (i + 1) * 12 ^ d = i * 12 ^ d + 12 ^ d := Nat.succ_mul _ _
        have hXn : (n - i) * 12 ^ d = (n - (i + 1)) * 12 ^ d + 12 ^ d := by rw [show n - i = (n - (i + 1)) + 1 from by omega, Nat.succ_mul]
        have hXb : i * 12 ^ d ≤ 12 * 12 ^ d := Nat.mul_le_mul_right _ (by omega)
        rw [range'_cons i n hi]
        cases hki : know F bs i with
        | false =>
          obtain ⟨out, o1, o2, o3⟩ := h (by omega) acc (by omega)
          refine ⟨out, ?_, ?_, by omega⟩
          · refine Ev.step (fun k => ?_) (Ev.bind hk (f := fun k t149 => if t149 = true then ((spec_l1Own.f (ints bs)).bind fun t150 => (if t150.length < 17592186044416 then ((spec_trGroups.f k (tabB n F) (t150 ++ [(i : Int)]) (size : Int)).bind fun t156 => (if acc.length + t156.length < 5864062014805 then (spec_trGroups.l0 k (tabB n F) (ints bs) (size : Int) (acc ++ t156) (wrap64 ((i : Int) + 1))) else (none))) else (none))) else (spec_trGroups.l0 k (tabB n F) (ints bs) (size : Int) acc (wrap64 ((i : Int) + 1)))) ?_)
            · simp only [spec_trGroups.l0]
              rw [if_pos (by rw [tabB_length]; omega)]
            · rw [hki]
              refine Ev.ite_neg (by simp) ?_
              rw [nat_succ i (by omega)]
              exact o1
          · rw [List.filter_cons_of_neg (by simp [hki])]
            exact o2
        | true =>
          obtain ⟨oa, a1, a2, a3⟩ := ih (by omega) (bs ++ [i]) (i + 1) size (by simp; omega) (by simp; omega) (by omega) (by
            intro b hbm
            rcases List.mem_append.1 hbm with h | h
            · exact hb b h
            · obtain rfl := List.mem_singleton.1 h
              exact hi) (.inr ⟨by simp, by simp [List.getD]⟩)
          obtain ⟨out, o1, o2, o3⟩ := h (by omega) (acc ++ oa) (by rw [List.length_append]; omega)
          refine ⟨oa ++ out, ?_, ?_, by rw [List.length_append]; omega⟩
          · refine Ev.step (fun k => ?_) (Ev.bind hk (f := fun k t149 => if t149 = true then ((spec_l1Own.f (ints bs)).bind fun t150 => (if t150.length < 17592186044416 then ((spec_trGroups.f k (tabB n F) (t150 ++ [(i : Int)]) (size : Int)).bind fun t156 => (if acc.length + t156.length < 5864062014805 then (spec_trGroups.l0 k (tabB n F) (ints bs) (size : Int) (acc ++ t156) (wrap64 ((i : Int) + 1))) else (none))) else (none))) else (spec_trGroups.l0 k (tabB n F) (ints bs) (size : Int) acc (wrap64 ((i : Int) + 1)))) ?_)
            · simp only [spec_trGroups.l0]
              rw [if_pos (by rw [tabB_length]; omega)]
            · rw [hki, spec_l1Own.ok _ (by rw [ints_length]; omega)]
              refine Ev.ite_pos rfl ?_
              simp only [Option.bind_some]
              refine Ev.ite_pos (by rw [ints_length]; omega) ?_
              have e : ints bs ++ [(i : Int)] = ints (bs ++ [i]) := by simp [ints]
              rw [e]
              refine Ev.bind a1 ?_
              refine Ev.ite_pos (by omega) ?_
              rw [nat_succ i (by omega), ← List.append_assoc]
              exact o1
          · rw [List.filter_cons_of_pos hki, List.length_append]
            have e : (List.range' (i + 1) (n - (i + 1))).filter (know F (bs ++ [i])) = ((List.range' (i + 1) (n - (i + 1))).filter (know F bs)).filter (F i) := by
              rw [List.filter_filter]
              apply List.filter_congr
              intro x _
              simp only [know, List.all_append, List.all_cons, List.all_nil, Bool.and_true]
              rw [hF x i, Bool.and_comm]
            rw [e] at a2
            simp only [clGo, Bool.or_eq_false_iff]
            rw [← a2, ← o2]
            omega)
    obtain ⟨out, o1, o2, o3⟩ := loop fr hfn (Nat.le_refl _) [] (by simp)
    refine ⟨out, ?_, o2, ?_⟩
    · rw [List.nil_append] at o1
      have hj : Ev (fun k => spec_trGroups.j0 k (tabB n F) (ints bs) (size : Int) (fr : Int)) out := by
        refine Ev.step (fun k => ?_) o1
        simp only [spec_trGroups.j0]
      refine Ev.step (fun k => ?_) hj
      simp only [spec_trGroups.f]
      rw [if_neg (by rw [ints_length]; omega)]
      rcases hfr with ⟨rfl, rfl⟩ | ⟨h0, h1⟩
      · rw [if_neg (by simp [ints])]; rfl
      · have e1 : wrap64 (((ints bs).length : Int) - 1) = ((bs.length - 1 : Nat) : Int) := by rw [ints_length, wrap_id (by omega) (by omega)]; omega
        have e2 : bs.getD (bs.length - 1) 0 = bs[bs.length - 1] := by rw [List.getD, List.getElem?_eq_getElem (by omega)]; rfl
        have e3 := hb bs[bs.length - 1] (List.getElem_mem (by omega))
        rw [if_pos (by rw [ints_length]; omega), e1, if_pos (by omega), if_pos (by rw [ints_length]; omega), rd_ints bs _ (by omega), nat_succ _ (by omega), h1, e2]
    · have : (n - fr) * 12 ^ d ≤ 12 * 12 ^ d := Nat.mul_le_mul_right _ (by omega)
      rw [Nat.pow_succ, Nat.mul_comm (12 ^ d) 12]
      omega
/-- From nobody on. -/
theorem spec_trGroups.all (n : Nat) (hn : n ≤ 12) (F : Nat → Nat → Bool) (hF : ∀ a b, F a b = F b a) (d : Nat) (hd : d ≤ 5) : ∃ out, Ev (fun k => spec_trGroups.f k (tabB n F) ([] : List Int) (d : Int)) out ∧ (out.length = 0 ↔ cl F d (List.range n) = false) := by
  obtain ⟨out, h1, h2, _⟩ := spec_trGroups.ok n hn F hF d hd [] 0 d (by simp) (by simp; omega) (by omega) (by simp) (.inl ⟨rfl, rfl⟩)
  refine ⟨out, h1, ?_⟩
  have e : (List.range' 0 (n - 0)).filter (know F []) = List.range n := by
    rw [Nat.sub_zero, List.range_eq_range', List.filter_eq_self]
    intro a _; rfl
  rw [e] at h2
  exact h2

/-- The pairs of person a with those from i on. -/
def inn (n : Nat) (F : Nat → Nat → Bool) (a i : Nat) : List S89 := ((List.range' i (n - i)).filter (F a)).map fun (b : Nat) => ⟨(a : Int), (b : Int)⟩
def outr (n : Nat) (F : Nat → Nat → Bool) (a : Nat) : List S89 := (List.range' a (n - a)).flatMap fun x => inn n F x (x + 1)
theorem spec_paOf.ok (n : Nat) (hn : n ≤ 12) (F : Nat → Nat → Bool) : Ev (fun k => spec_paOf.f k (tabB n F)) ((n : Int), outr n F 0) := by
  have key := up_loop (P := fun a => ∀ acc : List S89, acc.length ≤ 12 * a → Ev (fun k => spec_paOf.l0 k (tabB n F) (n : Int) (a : Int) (n : Int) acc) ((n : Int), acc ++ outr n F a)) (n := n) (by
      intro acc _
      refine Ev.step (f := fun _ => some ((n : Int), acc)) (fun k => ?_) (by simpa [outr] using Ev.now ((n : Int), acc))
      simp only [spec_paOf.l0]
      rw [if_neg (by omega)]) (by
      intro a ha h acc hacc
      have inner := up_loop (P := fun i => a < i → ∀ acc : List S89, acc.length ≤ 12 * a + i → Ev (fun k => spec_paOf.l1 k (tabB n F) (a : Int) (i : Int) (n : Int) (a : Int) (n : Int) acc) ((n : Int), acc ++ (inn n F a i ++ outr n F (a + 1)))) (n := n) (by
          intro _ acc hacc
          have h9 := h acc (by omega)
          have e9 : inn n F a n = [] := by simp [inn]
          rw [e9, List.nil_append]
          refine Ev.step (fun k => ?_) h9
          simp only [spec_paOf.l1]
          rw [if_neg (by rw [tabB_length]; omega), nat_succ a (by omega)]) (by
          intro i hi h hai acc hacc
          have e0 : inn n F a i = (if F a i = true then [(⟨(a : Int), (i : Int)⟩ : S89)] else []) ++ inn n F a (i + 1) := by
            unfold inn
            rw [range'_cons i n hi]
            cases hF : F a i with
            | true => rw [List.filter_cons_of_pos hF]; simp
            | false => rw [List.filter_cons_of_neg (by simp [hF])]; simp
          rw [e0]
          cases hF : F a i with
          | true =>
            have h2 := h (by omega) (acc ++ [(⟨(a : Int), (i : Int)⟩ : S89)]) (by simp; omega)
            refine Ev.step (fun k => ?_) (by simpa using h2)
            simp only [spec_paOf.l1]
            rw [if_pos (by rw [tabB_length]; omega), if_pos (by omega), if_pos (by rw [tabB_length]; omega), if_pos (by omega), rdL_tabB n F a ha, if_pos (by simp; omega), row_get n _ i hi, hF, if_pos rfl, if_pos (by omega), nat_succ i (by omega)]
            rfl
          | false =>
            have h2 := h (by omega) acc (by omega)
            refine Ev.step (fun k => ?_) (by simpa using h2)
            simp only [spec_paOf.l1]
            rw [if_pos (by rw [tabB_length]; omega), if_pos (by omega), if_pos (by rw [tabB_length]; omega), if_pos (by omega), rdL_tabB n F a ha, if_pos (by simp; omega), row_get n _ i hi, hF, if_neg (by simp), nat_succ i (by omega)]
            rfl)
      have h3 := inner (a + 1) (by omega) (by omega) acc (by omega)
      have e1 : outr n F a = inn n F a (a + 1) ++ outr n F (a + 1) := by
        unfold outr
        rw [range'_cons a n ha, List.flatMap_cons]
      rw [e1]
      refine Ev.step (fun k => ?_) h3
      simp only [spec_paOf.l0]
      rw [if_pos (by omega), nat_succ a (by omega)])
  have h0 := key 0 (Nat.zero_le _) [] (by simp)
  rw [List.nil_append] at h0
  unfold spec_paOf.f
  rw [tabB_length]
  exact h0
theorem outr_mem (n : Nat) (F : Nat → Nat → Bool) (x : S89) : x ∈ outr n F 0 ↔ ∃ a b : Nat, x = ⟨(a : Int), (b : Int)⟩ ∧ a < b ∧ b < n ∧ F a b = true := by
  unfold outr inn
  simp only [List.mem_flatMap, List.mem_range'_1, List.mem_map, List.mem_filter]
  constructor
  · rintro ⟨a, ⟨_, h1⟩, b, ⟨⟨h2, h3⟩, h4⟩, rfl⟩
    exact ⟨a, b, rfl, by omega, by omega, h4⟩
  · rintro ⟨a, b, rfl, h1, h2, h3⟩
    exact ⟨a, ⟨by omega, by omega⟩, b, ⟨⟨by omega, by omega⟩, h3⟩, rfl⟩
theorem outr_pin (n : Nat) (F : Nat → Nat → Bool) : pin n (outr n F 0) := by
  intro x hx
  obtain ⟨a, b, rfl, h1, h2, _⟩ := (outr_mem n F x).1 hx
  simp only
  omega
theorem outr_adj (n : Nat) (F : Nat → Nat → Bool) (a b : Nat) (h : a < b) (hb : b < n) : adj (outr n F 0) a b = F a b := by
  unfold adj
  rw [Bool.eq_iff_iff, List.any_eq_true]
  constructor
  · rintro ⟨x, hx, hd⟩
    obtain ⟨u, v, rfl, h1, h2, h3⟩ := (outr_mem n F x).1 hx
    simp only [Int.toNat_natCast, decide_eq_true_eq] at hd
    rcases hd with ⟨rfl, rfl⟩ | ⟨rfl, rfl⟩
    · exact h3
    · omega
  · intro hF
    exact ⟨⟨(a : Int), (b : Int)⟩, (outr_mem n F _).2 ⟨a, b, rfl, h, hb, hF⟩, by simp⟩
theorem outr_len (n : Nat) (hn : n ≤ 12) (F : Nat → Nat → Bool) : (outr n F 0).length ≤ 144 := by
  unfold outr
  rw [List.length_flatMap]
  have h1 : ∀ x, (inn n F x (x + 1)).length ≤ 12 := by
    intro x
    unfold inn
    rw [List.length_map]
    refine Nat.le_trans (List.length_filter_le _ _) ?_
    rw [List.length_range']
    omega
  have h2 : ∀ l : List Nat, (l.map fun x => (inn n F x (x + 1)).length).sum ≤ 12 * l.length := by
    intro l
    induction l with
    | nil => simp
    | cons a l ih =>
      simp only [List.map_cons, List.sum_cons, List.length_cons]
      have := h1 a
      omega
  have := h2 (List.range' 0 (n - 0))
  rw [List.length_range'] at this
  omega

theorem tabB_congr (n : Nat) (F G : Nat → Nat → Bool) (h : ∀ x y, x < n → y < n → F x y = G x y) : tabB n F = tabB n G := by
  unfold tabB
  apply List.map_congr_left
  intro a ha
  apply List.map_congr_left
  intro b hb
  exact h a b (List.mem_range.1 ha) (List.mem_range.1 hb)
/-- The entries ahead of a place are turned. -/
def tog (F : Nat → Nat → Bool) (a i : Nat) : Nat → Nat → Bool := fun x y => if x < a ∨ x = a ∧ y < i then !F x y else F x y
def neg (F : Nat → Nat → Bool) : Nat → Nat → Bool := fun x y => !F x y
theorem tog_upd (F : Nat → Nat → Bool) (a i : Nat) : upd (tog F a i) a i (!F a i) = tog F a (i + 1) := by
  funext x y
  unfold upd tog
  by_cases h : x = a ∧ y = i
  · rw [if_pos h, if_pos (by omega), h.1, h.2]
  · rw [if_neg h]
    by_cases h2 : x < a ∨ x = a ∧ y < i
    · rw [if_pos h2, if_pos (by omega)]
    · rw [if_neg h2, if_neg (by omega)]
theorem spec_paOther.ok (n : Nat) (hn : n ≤ 12) (l : List S89) (hl : l.length ≤ 1048576) (hp : pin n l) : Ev (fun k => spec_paOther.f k (n : Int) l) ((n : Int), outr n (neg (adj l)) 0) := by
  unfold spec_paOther.f
  refine Ev.bind (spec_paTable.ok n hn l hl hp) ?_
  generalize adj l = F
  rw [tabB_length]
  have key := up_loop (P := fun a => Ev (fun k => spec_paOther.l0 k (tabB n (tog F a 0)) (n : Int) (a : Int)) ((n : Int), outr n (neg F) 0)) (n := n) (by
      have e : tabB n (tog F n 0) = tabB n (neg F) := tabB_congr n _ _ fun x y hx _ => by
        unfold tog neg
        rw [if_pos (.inl hx)]
      rw [e]
      refine Ev.step (fun k => ?_) (Ev.bind (spec_paOf.ok n hn (neg F)) (f := fun _ bt174 => some (bt174.1, bt174.2)) (Ev.now _))
      simp only [spec_paOther.l0]
      rw [if_neg (by omega)]) (by
      intro a ha h
      have inner := up_loop (P := fun i => Ev (fun k => spec_paOther.l1 k (tabB n (tog F a i)) (a : Int) (n : Int) (a : Int) (n : Int) (i : Int)) ((n : Int), outr n (neg F) 0)) (n := n) (by
          have e : tabB n (tog F a n) = tabB n (tog F (a + 1) 0) := tabB_congr n _ _ fun x y _ hy => by
            unfold tog
            by_cases h1 : x < a ∨ x = a ∧ y < n
            · rw [if_pos h1, if_pos (by omega)]
            · rw [if_neg h1, if_neg (by omega)]
          rw [e]
          refine Ev.step (fun k => ?_) h
          simp only [spec_paOther.l1]
          rw [if_neg (by omega), nat_succ a (by omega)]) (by
          intro i hi h
          refine Ev.step (fun k => ?_) h
          have e2 : tog F a i a i = F a i := by
            unfold tog
            rw [if_neg (by omega)]
          simp only [spec_paOther.l1]
          rw [if_pos (by omega), if_pos (by omega), if_pos (by rw [tabB_length]; omega), if_pos (by omega), rdL_tabB n _ a ha, if_pos (by simp; omega), row_get n _ i hi, e2]
          simp only [Int.toNat_natCast]
          rw [tabB_set n _ a i _ ha, tog_upd, nat_succ i (by omega)]) 0 (Nat.zero_le _)
      refine Ev.step (fun k => ?_) inner
      simp only [spec_paOther.l0]
      rw [if_pos (by omega), tabB_length]
      rfl) 0 (Nat.zero_le _)
  have e : tabB n F = tabB n (tog F 0 0) := tabB_congr n _ _ fun x y _ _ => by
    unfold tog
    rw [if_neg (by omega)]
  rw [e]
  exact key

theorem spec_trNeither.ok (n : Nat) (hn : n ≤ 12) (l : List S89) (hl : l.length ≤ 1048576) (hp : pin n l) (r s : Nat) (hr : r ≤ 5) (hs : s ≤ 5) : Ev (fun k => spec_trNeither.f k (n : Int) l (r : Int) (s : Int)) (!cl (adj l) r (List.range n) && !cl (oth (adj l)) s (List.range n)) := by
  unfold spec_trNeither.f
  refine Ev.bind (spec_paTable.ok n hn l hl hp) ?_
  obtain ⟨o1, h1, g1⟩ := spec_trGroups.all n hn (adj l) (adj_symm l) r hr
  refine Ev.bind h1 ?_
  cases hc : cl (adj l) r (List.range n) with
  | true =>
    refine Ev.ite_neg (fun h => ?_) (Ev.now _)
    have := g1.1 (by omega)
    rw [hc] at this; cases this
  | false =>
    refine Ev.ite_pos (by have := g1.2 hc; omega) ?_
    refine Ev.bind (spec_paOther.ok n hn l hl hp) ?_
    have hp2 := outr_pin n (neg (adj l))
    have hl2 := outr_len n hn (neg (adj l))
    refine Ev.bind (spec_paTable.ok n hn (outr n (neg (adj l)) 0) (by omega) hp2) ?_
    obtain ⟨o2, h2, g2⟩ := spec_trGroups.all n hn (adj (outr n (neg (adj l)) 0)) (adj_symm _) s hs
    refine Ev.bind h2 ?_
    have e : cl (adj (outr n (neg (adj l)) 0)) s (List.range n) = cl (oth (adj l)) s (List.range n) := by
      refine cl_congr _ _ s _ (range_lt n) ?_
      intro a b _ hb hab
      rw [outr_adj n _ a b hab (List.mem_range.1 hb)]
      have : (b != a) = true := by simp; omega
      simp [neg, oth, this]
    rw [e] at g2
    have e3 : (((o2.length : Int) == 0)) = !cl (oth (adj l)) s (List.range n) := by
      rw [Bool.eq_iff_iff, beq_iff_eq, Bool.not_eq_true']
      rw [← g2]
      omega
    rw [e3]
    simpa using Ev.now (!cl (oth (adj l)) s (List.range n))

def sides (r s : Int) : Bool := decide (1 ≤ r ∧ r ≤ 4) && decide (1 ≤ s ∧ s ≤ 4)
def neither (n : Int) (l : List S89) (r s : Int) : Bool := !cl (adj l) r.toNat (List.range n.toNat) && !cl (oth (adj l)) s.toNat (List.range n.toNat)
def hasNeither (n : Int) (l : List S89) (r s : Int) : Bool × Bool := if goodB n l = true ∧ sides r s = true then (neither n l r s, true) else (false, false)
theorem goodB_pin {n : Int} {l : List S89} (h : goodB n l = true) : pin n.toNat l := by
  intro x hx
  obtain ⟨i, hi, rfl⟩ := List.getElem_of_mem hx
  have := (goodB_step h i hi).1
  have := goodB_people h
  omega
theorem spec_trKinds.ok (r s : Int) : spec_trKinds.f r s = some (sides r s) := by
  unfold spec_trKinds.f sides
  simp only [spec_l1In.ok, Option.bind_some]
  by_cases h : 1 ≤ r ∧ r ≤ 4
  · rw [if_pos (by simpa using h), decide_eq_true h]; simp
  · rw [if_neg (by simpa using h), decide_eq_false h]; simp
theorem spec_HasNeither.ok (n : Int) (l : List S89) (r s : Int) : Ev (fun k => spec_HasNeither.f k n l r s) (hasNeither n l r s) := by
  unfold spec_HasNeither.f hasNeither
  refine Ev.bind (ev_of 70 fun k hk => spec_paGood.ok n l k hk) ?_
  by_cases hg : goodB n l = true
  · refine Ev.ite_pos hg ?_
    rw [spec_trKinds.ok]
    simp only [Option.bind_some]
    by_cases hs : sides r s = true
    · refine Ev.ite_pos hs ?_
      rw [if_pos ⟨hg, hs⟩]
      have hs2 := hs
      simp only [sides, Bool.and_eq_true, decide_eq_true_eq] at hs2
      have hp := goodB_people hg
      have h66 := goodB_len66 hg
      have := spec_trNeither.ok n.toNat (by omega) l (by omega) (goodB_pin hg) r.toNat s.toNat (by omega) (by omega)
      rw [Int.toNat_of_nonneg hp.1, Int.toNat_of_nonneg (show 0 ≤ r by omega), Int.toNat_of_nonneg (show 0 ≤ s by omega)] at this
      exact Ev.bind this (Ev.now _)
    · refine Ev.ite_neg hs ?_
      rw [if_neg (fun h => hs h.2)]
      exact Ev.now _
  · refine Ev.ite_neg hg ?_
    rw [if_neg (fun h => hg h.1)]
    exact Ev.now _

theorem rd_T118_nat (l : List S118) (i : Nat) (h : i < l.length) : rd_T118 l (i : Int) = l[i] := by simp [rd_T118, List.getD, h]
def prs (l : List S118) : List S89 := l.map fun x => ⟨x.f0, x.f1⟩
theorem prs_length (l : List S118) : (prs l).length = l.length := by simp [prs]
theorem laws_toPairS.ok (l : List S118) (hl : l.length ≤ 1048576) (k : Nat) (hk : l.length < k) : laws_toPairS.f k l = some (prs l) := by
  unfold laws_toPairS.f
  rw [if_pos (by omega), if_pos (by omega)]
  refine fill_loop (fun k acc i => laws_toPairS.l0 k l acc i) _ l _ (by omega) 0 ?_ ?_ k hk
  · intro k acc i h _ ha
    simp only [laws_toPairS.l0, laws_toPair.f, Option.bind_some]
    rw [if_pos (by omega), if_pos (by omega), if_pos (by omega), rd_T118_nat l i h]
    rfl
  · intro k acc ha
    simp only [laws_toPairS.l0]
    rw [if_neg (by omega)]

theorem laws_toParty.ok (n : Int) (l : List S118) (hl : l.length ≤ 1048576) (k : Nat) (hk : l.length < k) : laws_toParty.f k n l = some (n, prs l) := by
  unfold laws_toParty.f
  rw [laws_toPairS.ok l hl k hk]; rfl

theorem cmp_Compare_int.ok (a b : Int) : cmp_Compare_int.f a b = some (if a < b then -1 else if a > b then 1 else 0) := by
  unfold cmp_Compare_int.f cmp_isNaN_int.f
  simp only [Option.bind_some, bne_self_eq_false]
  rw [if_neg (by simp), if_neg (by simp)]
  split <;> (try split) <;> rfl
def cmpI (a b c d : Int) : Int := if a < c then -1 else if a > c then 1 else if b < d then -1 else if b > d then 1 else 0
theorem cmp_Or_int.two (k : Nat) (x y : Int) : cmp_Or_int.f (k + 3) [x, y] = some (if x = 0 then y else x) := by
  unfold cmp_Or_int.f
  simp only [cmp_Or_int.l0, List.length_cons, List.length_nil, rd]
  by_cases hx : x = 0
  · by_cases hy : y = 0
    · simp [hx, hy, wrap_one, wrap_two]
    · simp [hx, hy, wrap_one]
  · simp [hx]
theorem impl_comparePairs.ok (k : Nat) (hk : 3 ≤ k) (a b c d : Int) : impl_comparePairs.f k a b c d = some (cmpI a b c d) := by
  obtain ⟨k, rfl⟩ : ∃ m, k = m + 3 := ⟨k - 3, by omega⟩
  unfold impl_comparePairs.f cmpI
  simp only [cmp_Compare_int.ok, Option.bind_some, cmp_Or_int.two]
  split
  · simp
  · split <;> simp
theorem cmpI_neg (x y : S89) : (cmpI x.f0 x.f1 y.f0 y.f1 ≥ 0) = (lessB x y = false) := by
  unfold cmpI lessB
  rw [eq_iff_iff, decide_eq_false_iff_not]
  split
  · constructor <;> intro h <;> omega
  · split
    · constructor <;> intro h <;> omega
    · split
      · constructor <;> intro h <;> omega
      · split <;> constructor <;> intro h <;> omega

theorem impl_areCrowd.ok (n : Int) : impl_areCrowd.f n = some (crowd n) := by unfold impl_areCrowd.f crowd; simp [impl_within.ok]

theorem impl_IsParty.ok (n : Int) (l : List S89) (hl : l.length ≤ 1048576) (k : Nat) (hk : l.length + 4 < k) : impl_IsParty.f k n l = some (goodB n l) := by
  unfold impl_IsParty.f
  rw [all_loop_fin (fun k i => impl_IsParty.l0 k l (l.length : Int) i n l) l.length (stepB n l) (crowd n) (by omega) 3 ?_ ?_ k (by omega)]
  · unfold goodB; rw [Bool.and_comm]
  · intro k i h hk3
    simp only [impl_IsParty.l0]
    rw [if_pos (by omega), if_pos (by omega), if_pos (by omega), rd_T89_nat l i h, stepB_eq n l i h]
    by_cases h1 : 0 ≤ l[i].f0 ∧ l[i].f0 < l[i].f1 ∧ l[i].f1 < n
    · rw [if_neg (by omega), if_neg (by omega), if_neg (by omega), decide_eq_true h1, Bool.true_and]
      rcases Nat.eq_zero_or_pos i with rfl | hi
      · rw [if_neg (by simp)]; simp
      · have e3 : wrap64 ((i : Int) - 1) = ((i - 1 : Nat) : Int) := by rw [wrap_id (by omega) (by omega)]; omega
        rw [if_pos (by omega), e3, if_pos (by omega), if_pos (by omega), rd_T89_nat l (i - 1) (by omega), impl_comparePairs.ok _ hk3]
        simp only [Option.bind_some, cmpI_neg]
        rw [show (i == 0) = false from by simp; omega, Bool.false_or]
        cases lessB l[i - 1] l[i] <;> rfl
    · rw [decide_eq_false h1, Bool.false_and]
      simp only [Bool.false_eq_true, if_false]
      by_cases a1 : l[i].f0 < 0
      · rw [if_pos a1]
      · rw [if_neg a1]
        by_cases a2 : l[i].f0 ≥ l[i].f1
        · rw [if_pos a2]
        · rw [if_neg a2, if_pos (by omega)]
  · intro k hk3
    simp only [impl_IsParty.l0]
    rw [if_neg (by omega), impl_areCrowd.ok]; rfl

theorem tabI_none (n : Nat) : List.replicate n (0 : Int) = tabI n (adj []) := by
  apply List.ext_getElem (by simp [tabI])
  intro i h1 h2
  have : msk (adj [] i) n = 0 := by
    apply Nat.eq_of_testBit_eq
    intro j
    rw [msk_testBit]
    simp [adj]
  simp [tabI, this]
theorem impl_Party_table.ok (n : Nat) (hn : n ≤ 12) (l : List S89) (hl : l.length ≤ 1048576) (hp : pin n l) : Ev (fun k => impl_Party_table.f k (n : Int) l) (tabI n (adj l)) := by
  have h1 : Ev (fun k => impl_Party_table.l0 k (tabI n (adj (l.take 0))) l (l.length : Int) ((0 : Nat) : Int)) (tabI n (adj l)) := by
    refine up_loop (P := fun i => Ev (fun k => impl_Party_table.l0 k (tabI n (adj (l.take i))) l (l.length : Int) (i : Int)) (tabI n (adj l))) (n := l.length) ?_ ?_ 0 (Nat.zero_le _)
    · refine Ev.step (f := fun _ => some (tabI n (adj l))) (fun k => ?_) (Ev.now _)
      simp only [impl_Party_table.l0]
      rw [if_neg (by omega), List.take_length]
    · intro i hi h
      refine Ev.step (fun k => ?_) h
      obtain ⟨q0, q1, q2, q3⟩ := hp l[i] (List.getElem_mem hi)
      obtain ⟨a, ea⟩ := Int.eq_ofNat_of_zero_le q0
      obtain ⟨b, eb⟩ := Int.eq_ofNat_of_zero_le q2
      have ha : a < n := by omega
      have hb : b < n := by omega
      simp only [impl_Party_table.l0, Option.bind_some]
      rw [if_pos (by omega), if_pos (by omega), if_pos (by omega), rd_T89_nat l i hi, ea, eb, tabI_rd n _ a ha, if_pos (by omega), if_pos (by rw [tabI_length]; omega), if_pos (by omega), if_pos (by rw [tabI_length]; omega)]
      simp only [Int.toNat_natCast]
      rw [tabI_set n _ a b (by omega) ha hb, tabI_rd n _ b hb, tabI_set n _ b a (by omega) hb ha, nat_succ i (by omega), adj_take l i hi, ea, eb]
      simp only [Int.toNat_natCast]
  unfold impl_Party_table.f
  refine Ev.congr (fun k => ?_) h1
  rw [if_pos (by omega), if_pos (by omega)]
  simp only [Int.toNat_natCast, tabI_none, List.take_zero]
  rfl

set_option maxRecDepth 100000 in
theorem impl_table_hasGroup.ok (n : Nat) (hn : n ≤ 16) (F : Nat → Nat → Bool) : ∀ (size : Nat), size ≤ 1000 → ∀ (s : Nat), s < 65536 → (∀ i, s.testBit i = true → i < n) → Ev (fun k => impl_table_hasGroup.f k (tabI n F) (s : Int) (size : Int)) (cl F size (bof s)) := by
  intro size
  induction size with
  | zero =>
    intro _ s _ _
    refine Ev.step (f := fun _ => some true) (fun k => ?_) (Ev.now _)
    simp only [impl_table_hasGroup.f]
    rw [if_pos (by omega)]
  | succ size ih =>
    intro hsz
    have key : ∀ (m s : Nat), (bof s).length = m → s < 65536 → (∀ i, s.testBit i = true → i < n) → Ev (fun k => impl_table_hasGroup.l0 k (tabI n F) (s : Int) ((size + 1 : Nat) : Int)) (clGo F (cl F size) (bof s)) := by
      intro m
      induction m with
      | zero =>
        intro s hm hs _
        have e := bof_nil s hs (List.length_eq_zero_iff.1 hm)
        rw [List.length_eq_zero_iff.1 hm]
        refine Ev.step (f := fun _ => some false) (fun k => ?_) (Ev.now _)
        simp only [impl_table_hasGroup.l0, bits_OnesCount16.f]
        rw [if_pos (by omega)]
        simp only [Option.bind_some, Int.toNat_natCast]
        rw [if_neg (by rw [popN_bof, hm]; omega)]
      | succ m ihm =>
        intro s hm hs hbits
        by_cases hc : size + 1 ≤ m + 1
        · have h0 : s ≠ 0 := by rintro rfl; rw [bof_zero] at hm; cases hm
          obtain ⟨c1, c2, c3⟩ := ctz_bit s h0 hs
          have hcn := hbits _ c1
          obtain ⟨t, ht, et, hbt⟩ := sub_bits s (msk (F (Go.Lib.ctz 16 s)) n) _ hs (msk_lt16 _ _ hn) h0 rfl
          have es := bof_step s h0 hs
          have hbt2 : ∀ i, i < 16 → t.testBit i = (s.testBit i && (i != Go.Lib.ctz 16 s) && F (Go.Lib.ctz 16 s) i) := by
            intro i hi
            rw [hbt i hi, msk_testBit]
            cases hsi : s.testBit i with
            | false => simp
            | true => rw [decide_eq_true (hbits i hsi)]; simp
          have esub := bof_sub s (Go.Lib.ctz 16 s) (F (Go.Lib.ctz 16 s)) t hbt2 (s &&& (s - 1)) (fun i _ => low_testBit s h0 hs i)
          have ht16 : ∀ i, t.testBit i = true → i < n := by
            intro i hi
            by_cases h16 : i < 16
            · rw [hbt2 i h16] at hi
              simp only [Bool.and_eq_true] at hi
              exact hbits i hi.1.1
            · rw [Nat.testBit_lt_two_pow (Nat.lt_of_lt_of_le ht (show 2 ^ 16 ≤ 2 ^ i from Nat.pow_le_pow_right (by omega) (by omega)))] at hi
              cases hi
          have hl16 : s &&& (s - 1) < 65536 := Nat.lt_of_le_of_lt Nat.and_le_left hs
          have hlb : ∀ i, (s &&& (s - 1)).testBit i = true → i < n := by
            intro i hi
            rw [low_testBit s h0 hs] at hi
            simp only [Bool.and_eq_true] at hi
            exact hbits i hi.1
          have hlen : (bof (s &&& (s - 1))).length = m := by
            rw [es] at hm
            simpa using hm
          have r1 := ih (by omega) t ht ht16
          have r2 := ihm (s &&& (s - 1)) hlen hl16 hlb
          rw [es]
          simp only [clGo]
          rw [esub] at r1
          refine Ev.step (fun k => ?_) (Ev.bind r1 (f := fun k t254 => if t254 = true then some true else impl_table_hasGroup.l0 k (tabI n F) ((s &&& (s - 1) : Nat) : Int) ((size + 1 : Nat) : Int)) ?_)
          · rw [impl_table_hasGroup.l0, bits_OnesCount16.f, if_pos (by omega), Option.bind_some, Int.toNat_natCast, if_pos (by rw [popN_bof, hm]; omega), bits_TrailingZeros16.f, if_pos (by omega), Option.bind_some]
            have ec : ctz16 (s : Int) = ((Go.Lib.ctz 16 s : Nat) : Int) := by simp [ctz16]
            rw [ec, if_pos (by omega), if_pos (by rw [tabI_length]; omega), tabI_rd n F _ hcn, et, low_bits s hs h0]
            rw [show wrap64 (((size + 1 : Nat) : Int) - 1) = (size : Int) from by rw [wrap_id (by omega) (by omega)]; omega]
          · cases hq : cl F size ((bof (s &&& (s - 1))).filter (F (Go.Lib.ctz 16 s))) with
            | true => exact Ev.ite_pos rfl (Ev.now _)
            | false =>
              refine Ev.ite_neg (by simp) ?_
              simpa using r2
        · have hsh := cl_short F (size + 1) (bof s) (by omega)
          simp only [cl] at hsh
          rw [hsh]
          refine Ev.step (f := fun _ => some false) (fun k => ?_) (Ev.now _)
          simp only [impl_table_hasGroup.l0, bits_OnesCount16.f]
          rw [if_pos (by omega)]
          simp only [Option.bind_some, Int.toNat_natCast]
          rw [if_neg (by rw [popN_bof, hm]; omega)]
    intro s hs hb
    refine Ev.step (fun k => ?_) (key _ s rfl hs hb)
    simp only [impl_table_hasGroup.f]
    rw [if_neg (by omega)]

theorem impl_table_all.ok (n : Nat) (hn : n ≤ 12) (F : Nat → Nat → Bool) : impl_table_all.f (tabI n F) = some ((msk (fun _ => true) n : Nat) : Int) := by
  unfold impl_table_all.f
  rw [tabI_length, all_bits n hn]

theorem impl_table_others.ok (n : Nat) (hn : n ≤ 12) (F : Nat → Nat → Bool) : Ev (fun k => impl_table_others.f k (tabI n F)) (tabI n (oth F)) := by
  have key := up_loop (P := fun i => Ev (fun k => impl_table_others.l0 k (tabI n F) ((List.range n).map fun a => if a < i then ((msk (oth F a) n : Nat) : Int) else 0) (n : Int) (i : Int)) (tabI n (oth F))) (n := n) (by
      refine Ev.step (f := fun _ => some (tabI n (oth F))) (fun k => ?_) (Ev.now _)
      simp only [impl_table_others.l0]
      rw [if_neg (by omega)]
      congr 1
      unfold tabI
      apply List.map_congr_left
      intro a ha
      rw [if_pos (List.mem_range.1 ha)]) (by
      intro i hi h
      refine Ev.step (fun k => ?_) h
      simp only [impl_table_others.l0, tabI_length]
      rw [if_pos (by omega), if_pos (by omega), if_pos (by omega), if_pos (by simp; omega), tabI_rd n F i hi, other_bits (F i) n i hn hi, nat_succ i (by omega), Int.toNat_natCast]
      congr 1
      apply List.ext_getElem (by simp)
      intro j g1 g2
      have hj : j < n := by simpa using g2
      by_cases e : i = j
      · subst e
        simp only [List.getElem_set_self, List.getElem_map, List.getElem_range]
        rw [if_pos (by omega)]
        rfl
      · rw [List.getElem_set_ne e]
        simp only [List.getElem_map, List.getElem_range]
        by_cases h2 : j < i
        · rw [if_pos h2, if_pos (by omega)]
        · rw [if_neg h2, if_neg (by omega)]) 0 (Nat.zero_le _)
  unfold impl_table_others.f
  refine Ev.congr (fun k => ?_) key
  rw [tabI_length, if_pos (by omega), if_pos (by omega)]
  congr 1
  apply List.ext_getElem (by simp)
  intro i h1 h2
  simp

theorem impl_table_hasNeither.ok (n : Nat) (hn : n ≤ 12) (F : Nat → Nat → Bool) (r s : Nat) (hr : r ≤ 1000) (hs : s ≤ 1000) : Ev (fun k => impl_table_hasNeither.f k (tabI n F) (r : Int) (s : Int)) (!cl F r (List.range n) && !cl (oth F) s (List.range n)) := by
  have hb : ∀ i, (msk (fun _ => true) n).testBit i = true → i < n := by
    intro i hi
    rw [msk_testBit] at hi
    simpa using hi
  have h1 := impl_table_hasGroup.ok n (by omega) F r hr _ (msk_lt16 (fun _ => true) n (by omega)) hb
  have h2 := impl_table_hasGroup.ok n (by omega) (oth F) s hs _ (msk_lt16 (fun _ => true) n (by omega)) hb
  rw [bof_all n (by omega)] at h1 h2
  unfold impl_table_hasNeither.f
  simp only [impl_table_all.ok n hn, Option.bind_some]
  refine Ev.bind h1 ?_
  cases cl F r (List.range n) with
  | true => exact Ev.ite_pos rfl (Ev.now _)
  | false =>
    refine Ev.ite_neg (by simp) (Ev.bind (impl_table_others.ok n hn F) ?_)
    refine Ev.bind h2 ?_
    exact Ev.now _

theorem impl_areSides.ok (r s : Int) : impl_areSides.f r s = some (sides r s) := by
  unfold impl_areSides.f sides
  simp only [impl_within.ok, Option.bind_some]
  by_cases h : 1 ≤ r ∧ r ≤ 4
  · rw [if_pos (by simpa using h), decide_eq_true h]; simp
  · rw [if_neg (by simpa using h), decide_eq_false h]; simp
theorem impl_HasNeither.ok (n : Int) (l : List S89) (hl : l.length ≤ 1048576) (r s : Int) : Ev (fun k => impl_HasNeither.f k n l r s) (hasNeither n l r s) := by
  unfold impl_HasNeither.f hasNeither
  refine Ev.bind (ev_of (l.length + 5) fun k hk => impl_IsParty.ok n l hl k (by omega)) ?_
  by_cases hg : goodB n l = true
  · refine Ev.ite_pos hg ?_
    rw [impl_areSides.ok]
    simp only [Option.bind_some]
    by_cases hs : sides r s = true
    · rw [if_pos ⟨hg, hs⟩]
      have hs2 := hs
      simp only [sides, Bool.and_eq_true, decide_eq_true_eq] at hs2
      have hp := goodB_people hg
      have h66 := goodB_len66 hg
      have h1 := impl_Party_table.ok n.toNat (by omega) l (by omega) (goodB_pin hg)
      have h2 := impl_table_hasNeither.ok n.toNat (by omega) (adj l) r.toNat s.toNat (by omega) (by omega)
      rw [Int.toNat_of_nonneg hp.1] at h1
      rw [Int.toNat_of_nonneg (show 0 ≤ r by omega), Int.toNat_of_nonneg (show 0 ≤ s by omega)] at h2
      refine Ev.step (fun k => ?_) (Ev.bind h1 (f := fun k t270 => (impl_table_hasNeither.f k t270 r s).bind fun t273 => some (t273, true)) (Ev.bind h2 (Ev.now _)))
      simp only [impl_HasNeither.j0]
      rw [hs, if_neg (by simp)]
    · rw [if_neg (fun h => hs h.2)]
      refine Ev.step (f := fun _ => some (false, false)) (fun k => ?_) (Ev.now _)
      have hs : sides r s = false := by simpa using hs
      simp only [impl_HasNeither.j0]
      rw [hs, if_pos (by simp)]
  · refine Ev.ite_neg hg ?_
    rw [if_neg (fun h => hg h.1)]
    refine Ev.step (f := fun _ => some (false, false)) (fun k => ?_) (Ev.now _)
    simp [impl_HasNeither.j0]

theorem laws_eqPairS.refl (l : List S89) (hl : l.length ≤ 1048576) (k : Nat) (hk : l.length < k) : laws_eqPairS.f k l l = some true := by
  unfold laws_eqPairS.f
  rw [if_pos rfl]
  rw [all_loop (fun k i => laws_eqPairS.l0 k l l i) l.length (fun _ => true) (by omega) 0 ?_ ?_ k hk]
  · simp
  · intro k i h _
    simp only [laws_eqPairS.l0, laws_eqPair.f]
    rw [if_pos (by omega), if_pos (by omega), if_pos (by omega)]
    simp
  · intro k
    simp only [laws_eqPairS.l0]
    rw [if_neg (by omega)]

theorem laws_eqParty.refl (n : Int) (l : List S89) (hl : l.length ≤ 1048576) (k : Nat) (hk : l.length < k) : laws_eqParty.f k n l n l = some true := by
  unfold laws_eqParty.f
  rw [if_pos rfl, laws_eqPairS.refl l hl k hk]; rfl
end Go.Proofs.YtomlbbnoicpfpaaDoor.PFnExactHasNeither
namespace Go.Proofs.YtomlbbnoicpfpaaDoor
open Go.RowKit Go.Proofs.YtomlbbnoicpfpaaDoor.Base Go.Proofs.YtomlbbnoicpfpaaDoor.PFnExactHasNeither Go.Proofs.YtomlbbnoicpfpaaDoorW.PrintWords Go.Proofs.YtomlbbnoicpfpaaDoorW.PrintLast Go.Proofs.YtomlbbnoicpfpaaDoorW.PrintMore
theorem fnExactHasNeither_pure : fnExactHasNeither.Pure := by
  intro n l r s hn hl hr hs
  have hm := hl.1
  refine Ev.rounds (g := fun k => laws_FnExactHasNeither.f k n l r s) ?_
  unfold laws_FnExactHasNeither.f
  rw [laws_szParty.ok n l _ (by omega) (by omega) hl.1]
  simp only [Option.bind_some]
  by_cases h0 : (1048576 : Int) - l.length < 0
  · rw [if_pos h0]
    exact Ev.ite_pos (by omega) (Ev.now _)
  · rw [if_neg h0]
    refine Ev.ite_neg (by omega) ?_
    have hlen : l.length ≤ 1048576 := by omega
    have hpl : (prs l).length ≤ 1048576 := by rw [prs_length]; exact hlen
    have ht : Ev (fun k => laws_toParty.f k n l) (n, prs l) := ev_of (l.length + 1) fun k hk => laws_toParty.ok n l hlen k (by omega)
    refine Ev.bind ht ?_
    refine Ev.bind (spec_HasNeither.ok n (prs l) r s) ?_
    refine Ev.bind ht ?_
    refine Ev.bind (impl_HasNeither.ok n (prs l) hpl r s) ?_
    refine Ev.ite_neg (by simp) (Ev.ite_neg (by simp) (Ev.bind ht ?_))
    refine Ev.bind (ev_of ((prs l).length + 1) fun k hk => laws_eqParty.refl n (prs l) hpl k (by omega)) ?_
    exact Ev.ite_pos rfl (Ev.now _)
theorem fnExactHasNeither_holds : Rows.FnExactHasNeitherCardSaid := fnExactHasNeither.proved fnExactHasNeither_pure
end Go.Proofs.YtomlbbnoicpfpaaDoor
