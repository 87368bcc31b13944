/- FnExactMakePuzzle: whatever the party and the numbers, the program makes the puzzle that the reference makes, leaves the party as it was, and returns memory of its own. Condition: the table of math/bits lies as its initialiser lays it (the card's own). -/
import Derived.Test.YtjpfbkkikcpmhaaDoorLawFnExactMakePuzzle
import Derived.Test.YtjpfbkkikcpmhaaDoorPBase
import Derived.Test.YtjpfbkkikcpmhaaDoorGraph
namespace Go.Proofs.YtjpfbkkikcpmhaaDoor.PFnExactMakePuzzle
set_option linter.unusedVariables false
set_option linter.unusedSimpArgs false
open Go.RowKit Go.Proofs.YtjpfbkkikcpmhaaDoor.Base Go.Proofs.YtjpfbkkikcpmhaaDoor.PFnExactMakePuzzle Go.Proofs.YtjpfbkkikcpmhaaDoorW.PrintWords Go.Proofs.YtjpfbkkikcpmhaaDoorW.PrintLast Go.Proofs.YtjpfbkkikcpmhaaDoorW.PrintMore
theorem laws_szPairS.ok (l : List S118) (n : Int) (h0 : 0 ≤ n) (h1 : n ≤ 1048576) (hl : l.length ≤ maxLen) : laws_szPairS.f l n = some (if n - l.length < 0 then -1 else n - l.length) := by
  unfold maxLen at hl
  unfold laws_szPairS.f
  rw [wrap_id (by omega) (by omega)]
  split <;> rfl

theorem laws_szParty.ok (p : Int) (l : List S118) (n : Int) (h0 : 0 ≤ n) (h1 : n ≤ 1048576) (hl : l.length ≤ maxLen) : laws_szParty.f p l n = some (if n - l.length < 0 then -1 else n - l.length) := by
  unfold laws_szParty.f
  rw [laws_szPairS.ok l n h0 h1 hl]
  simp only [Option.bind_some]
  by_cases h : n - (l.length : Int) < 0
  · simp [h]
  · simp [h]

theorem spec_l1In.ok (n lo hi : Int) : spec_l1In.f n lo hi = some (decide (lo ≤ n ∧ n ≤ hi)) := by
  unfold spec_l1In.f
  by_cases h : lo ≤ n <;> simp [h]

theorem spec_paPeople.ok (n : Int) : spec_paPeople.f n = some (crowd n) := by unfold spec_paPeople.f crowd; simp [spec_l1In.ok]

def lessB (x y : S105) : Bool := decide (x.f0 < y.f0 ∨ x.f0 = y.f0 ∧ x.f1 < y.f1)
theorem spec_paLess.ok (a b c d : Int) : spec_paLess.f a b c d = some (lessB ⟨a, b⟩ ⟨c, d⟩) := by
  unfold spec_paLess.f lessB
  by_cases h : a < c
  · simp [h]
  · by_cases h2 : a = c
    · subst h2; simp
    · simp [h, h2]

theorem rd_T105_nat (l : List S105) (i : Nat) (h : i < l.length) : rd_T105 l (i : Int) = l[i] := by simp [rd_T105, List.getD, h]
-- pairnat
/-- What is asked of pair number i of a party of n people. -/
def stepB (n : Int) (l : List S105) (i : Nat) : Bool := decide (0 ≤ (l.getD i z105).f0 ∧ (l.getD i z105).f0 < (l.getD i z105).f1 ∧ (l.getD i z105).f1 < n) && (i == 0 || lessB (l.getD (i - 1) z105) (l.getD i z105))
/-- n and l are a party. -/
def goodB (n : Int) (l : List S105) : Bool := crowd n && (List.range l.length).all (stepB n l)
theorem goodB_people {n : Int} {l : List S105} (h : goodB n l = true) : 0 ≤ n ∧ n ≤ 12 := by
  unfold goodB crowd at h
  simp only [Bool.and_eq_true, decide_eq_true_eq] at h
  exact h.1
theorem goodB_step {n : Int} {l : List S105} (h : goodB n l = true) (i : Nat) (hi : i < l.length) : (0 ≤ l[i].f0 ∧ l[i].f0 < l[i].f1 ∧ l[i].f1 < n) ∧ (∀ h0 : 0 < i, l[i - 1].f0 < l[i].f0 ∨ l[i - 1].f0 = l[i].f0 ∧ l[i - 1].f1 < l[i].f1) := by
  unfold goodB at h
  simp only [Bool.and_eq_true, List.all_eq_true] at h
  have := h.2 i (List.mem_range.2 hi)
  unfold stepB lessB at this
  simp only [List.getD, List.getElem?_eq_getElem hi, List.getElem?_eq_getElem (show i - 1 < l.length by omega), Option.getD_some, Bool.and_eq_true, Bool.or_eq_true, decide_eq_true_eq, beq_iff_eq] at this
  refine ⟨this.1, fun h0 => ?_⟩
  rcases this.2 with h | h
  · omega
  · exact h
theorem goodB_len {n : Int} {l : List S105} (h : goodB n l = true) : 2 * (l.length : Int) ≤ n * (n - 1) := by
  refine pairs_bound n l.length (fun i => (l.getD i z105).f0) (fun i => (l.getD i z105).f1) ?_ ?_ (goodB_people h).1
  · intro i hi
    simp only [List.getD, List.getElem?_eq_getElem hi, Option.getD_some]
    exact (goodB_step h i hi).1
  · intro i hi
    simp only [List.getD, List.getElem?_eq_getElem hi, List.getElem?_eq_getElem (show i < l.length by omega), Option.getD_some]
    exact (goodB_step h (i + 1) hi).2 (by omega)
theorem goodB_len66 {n : Int} {l : List S105} (h : goodB n l = true) : l.length ≤ 66 := by
  have h1 := goodB_len h
  have h2 := goodB_people h
  obtain ⟨m, rfl⟩ := Int.eq_ofNat_of_zero_le h2.1
  obtain rfl | rfl | rfl | rfl | rfl | rfl | rfl | rfl | rfl | rfl | rfl | rfl | rfl : m = 0 ∨ m = 1 ∨ m = 2 ∨ m = 3 ∨ m = 4 ∨ m = 5 ∨ m = 6 ∨ m = 7 ∨ m = 8 ∨ m = 9 ∨ m = 10 ∨ m = 11 ∨ m = 12 := by omega
  all_goals omega
-- pairnat
theorem stepB_eq (n : Int) (l : List S105) (i : Nat) (hi : i < l.length) : stepB n l i = (decide (0 ≤ l[i].f0 ∧ l[i].f0 < l[i].f1 ∧ l[i].f1 < n) && (i == 0 || lessB l[i - 1] l[i])) := by
  unfold stepB
  simp only [List.getD, List.getElem?_eq_getElem hi, List.getElem?_eq_getElem (show i - 1 < l.length by omega), Option.getD_some]
theorem half (n : Int) (h0 : 0 ≤ n) (h1 : n ≤ 12) : wrap64 (Int.tdiv (wrap64 (n * (wrap64 (n - 1)))) 2) = n * (n - 1) / 2 := by
  obtain ⟨m, rfl⟩ := Int.eq_ofNat_of_zero_le h0
  have : m ≤ 12 := by omega
  obtain rfl | rfl | rfl | rfl | rfl | rfl | rfl | rfl | rfl | rfl | rfl | rfl | rfl : m = 0 ∨ m = 1 ∨ m = 2 ∨ m = 3 ∨ m = 4 ∨ m = 5 ∨ m = 6 ∨ m = 7 ∨ m = 8 ∨ m = 9 ∨ m = 10 ∨ m = 11 ∨ m = 12 := by omega
  all_goals (unfold wrap64; decide)
theorem spec_paGood.ok (n : Int) (l : List S105) (k : Nat) (hk : 70 ≤ k) : spec_paGood.f k n l = some (goodB n l) := by
  obtain ⟨k, rfl⟩ : ∃ m, k = m + 1 := ⟨k - 1, by omega⟩
  unfold spec_paGood.f
  rw [spec_paPeople.ok]
  simp only [Option.bind_some]
  by_cases hn : crowd n = true
  · have hc : 0 ≤ n ∧ n ≤ 12 := by simpa [crowd] using hn
    rw [if_pos hn, half n hc.1 hc.2]
    simp only [spec_paGood.j0]
    by_cases hl : (l.length : Int) > n * (n - 1) / 2
    · rw [if_pos (by simpa using hl)]
      congr 1
      symm
      rw [Bool.eq_false_iff]
      intro h
      have := goodB_len h
      omega
    · rw [if_neg (by simpa using hl)]
      have h66 : l.length ≤ 66 := by
        obtain ⟨m, rfl⟩ := Int.eq_ofNat_of_zero_le hc.1
        have : m ≤ 12 := by omega
        obtain rfl | rfl | rfl | rfl | rfl | rfl | rfl | rfl | rfl | rfl | rfl | rfl | rfl : m = 0 ∨ m = 1 ∨ m = 2 ∨ m = 3 ∨ m = 4 ∨ m = 5 ∨ m = 6 ∨ m = 7 ∨ m = 8 ∨ m = 9 ∨ m = 10 ∨ m = 11 ∨ m = 12 := by omega
        all_goals omega
      rw [all_loop (fun k i => spec_paGood.l0 k l (l.length : Int) i n l) l.length (stepB n l) (by omega) 0 ?_ ?_ k (by omega)]
      · unfold goodB; rw [hn]; rfl
      · intro k i h _
        have e1 : wrap64 (n - 1) = n - 1 := wrap_id (by omega) (by omega)
        simp only [spec_paGood.l0]
        rw [if_pos (by omega), if_pos (by omega), if_pos (by omega), rd_T105_nat l i h, spec_l1In.ok]
        simp only [Option.bind_some, e1]
        rw [stepB_eq n l i h]
        by_cases hA : 0 ≤ l[i].f0 ∧ l[i].f0 ≤ n - 1
        · have e2 : wrap64 (l[i].f0 + 1) = l[i].f0 + 1 := wrap_id (by omega) (by omega)
          rw [if_pos (by simpa using hA), spec_l1In.ok, e2]
          simp only [Option.bind_some]
          by_cases hB : l[i].f0 + 1 ≤ l[i].f1 ∧ l[i].f1 ≤ n - 1
          · rw [if_pos (by simpa using hB), decide_eq_true (show 0 ≤ l[i].f0 ∧ l[i].f0 < l[i].f1 ∧ l[i].f1 < n from ⟨by omega, by omega, by omega⟩)]
            simp only [Bool.true_and]
            rcases Nat.eq_zero_or_pos i with rfl | hi
            · rw [if_neg (by simp)]; simp
            · have e3 : wrap64 ((i : Int) - 1) = ((i - 1 : Nat) : Int) := by rw [wrap_id (by omega) (by omega)]; omega
              rw [if_pos (by omega), e3, if_pos (by omega), if_pos (by omega), rd_T105_nat l (i - 1) (by omega), spec_paLess.ok]
              simp only [Option.bind_some]
              rw [show (i == 0) = false from by simp; omega, Bool.false_or]
          · rw [if_neg (by simpa using hB), decide_eq_false (show ¬ (0 ≤ l[i].f0 ∧ l[i].f0 < l[i].f1 ∧ l[i].f1 < n) from by omega)]; simp
        · rw [if_neg (by simpa using hA), decide_eq_false (show ¬ (0 ≤ l[i].f0 ∧ l[i].f0 < l[i].f1 ∧ l[i].f1 < n) from by omega)]; simp
      · intro k
        simp only [spec_paGood.l0]
        rw [if_neg (by omega)]
  · have hn : crowd n = false := by simpa using hn
    rw [hn, if_neg (by simp)]
    simp [spec_paGood.j0, goodB, hn]

theorem rdL_tabB (n : Nat) (F : Nat → Nat → Bool) (a : Nat) (h : a < n) : rd_L4 (tabB n F) (a : Int) = (List.range n).map (F a) := by
  simp only [rd_L4, Int.toNat_natCast]
  exact tabB_getD n F a h
/-- Two people are friends. -/
def adj (l : List S105) (a b : Nat) : Bool := l.any fun x => decide (x.f0.toNat = a ∧ x.f1.toNat = b ∨ x.f1.toNat = a ∧ x.f0.toNat = b)
theorem adj_symm (l : List S105) (a b : Nat) : adj l a b = adj l b a := by
  unfold adj
  congr 1
  funext x
  rw [decide_eq_decide]
  constructor <;> intro h <;> omega
/-- All pairs are of people below n. -/
def pin (n : Nat) (l : List S105) : Prop := ∀ x ∈ l, 0 ≤ x.f0 ∧ x.f0 < n ∧ 0 ≤ x.f1 ∧ x.f1 < n
-- pairnat
theorem adj_take (l : List S105) (i : Nat) (hi : i < l.length) : adj (l.take (i + 1)) = upd (upd (adj (l.take i)) l[i].f0.toNat l[i].f1.toNat true) l[i].f1.toNat l[i].f0.toNat true := by
  funext x y
  unfold adj upd
  rw [List.take_succ_eq_append_getElem hi, List.any_append]
  simp only [List.any_cons, List.any_nil, Bool.or_false]
  by_cases h1 : x = l[i].f1.toNat ∧ y = l[i].f0.toNat
  · rw [if_pos h1, decide_eq_true (by omega), Bool.or_true]
  · by_cases h2 : x = l[i].f0.toNat ∧ y = l[i].f1.toNat
    · rw [if_neg h1, if_pos h2, decide_eq_true (by omega), Bool.or_true]
    · rw [if_neg h1, if_neg h2, decide_eq_false (by omega), Bool.or_false]
theorem tabB_none (n : Nat) : List.replicate n (List.replicate n false) = tabB n (adj []) := by
  apply List.ext_getElem (by simp [tabB])
  intro i h1 h2
  simp only [List.getElem_replicate, tabB, List.getElem_map]
  apply List.ext_getElem (by simp)
  intro j g1 g2
  simp [adj]
theorem spec_paTable.ok (n : Nat) (hn : n ≤ 12) (l : List S105) (hl : l.length ≤ 1048576) (hp : pin n l) : Ev (fun k => spec_paTable.f k (n : Int) l) (tabB n (adj l)) := by
  have h1 : Ev (fun k => spec_paTable.l1 k (tabB n (adj (l.take 0))) l (l.length : Int) ((0 : Nat) : Int)) (tabB n (adj l)) := by
    refine up_loop (P := fun i => Ev (fun k => spec_paTable.l1 k (tabB n (adj (l.take i))) l (l.length : Int) (i : Int)) (tabB n (adj l))) (n := l.length) ?_ ?_ 0 (Nat.zero_le _)
    · refine Ev.step (f := fun _ => some (tabB n (adj l))) (fun k => ?_) (Ev.now _)
      simp only [spec_paTable.l1]
      rw [if_neg (by omega), List.take_length]
    · intro i hi h
      refine Ev.step (fun k => ?_) h
      obtain ⟨q0, q1, q2, q3⟩ := hp l[i] (List.getElem_mem hi)
      obtain ⟨a, ea⟩ := Int.eq_ofNat_of_zero_le q0
      obtain ⟨b, eb⟩ := Int.eq_ofNat_of_zero_le q2
      have ha : a < n := by omega
      have hb : b < n := by omega
      simp only [spec_paTable.l1, Option.bind_some]
      rw [if_pos (by omega), if_pos (by omega), if_pos (by omega), rd_T105_nat l i hi, ea, eb, rdL_tabB n _ a ha, if_pos (by omega), if_pos (by rw [tabB_length]; omega), if_pos (by omega), if_pos (by simp; omega), if_pos (by rw [tabB_length]; omega)]
      simp only [Int.toNat_natCast]
      rw [tabB_set n _ a b true ha, rdL_tabB n _ b hb, if_pos (by simp; omega), tabB_set n _ b a true hb, nat_succ i (by omega), adj_take l i hi, ea, eb]
      simp only [Int.toNat_natCast]
  unfold spec_paTable.f
  have h0 := up_loop (P := fun i => Ev (fun k => spec_paTable.l0 k (List.replicate i (List.replicate n false)) (i : Int) (n : Int) l) (tabB n (adj l))) (n := n) (by
      refine Ev.step (fun k => ?_) h1
      simp only [spec_paTable.l0]
      rw [if_neg (by omega), tabB_none]
      rfl) (by
      intro i hi h
      refine Ev.step (fun k => ?_) h
      simp only [spec_paTable.l0]
      rw [if_pos (by omega), if_pos (by omega), if_pos (by omega), if_pos (by simp; omega), nat_succ i (by omega), List.replicate_succ']
      rfl) 0 (Nat.zero_le _)
  exact h0

theorem spec_l1Own.ok (l : List Int) (h : l.length < 17592186044416) : spec_l1Own.f l = some l := by
  unfold spec_l1Own.f
  simp only [Option.bind_some, List.nil_append]
  rw [if_pos (by simpa using h)]

def ints (bs : List Nat) : List Int := bs.map fun (b : Nat) => (b : Int)
theorem ints_length (bs : List Nat) : (ints bs).length = bs.length := by simp [ints]
theorem rd_ints (bs : List Nat) (i : Nat) (h : i < bs.length) : rd (ints bs) (i : Int) = ((bs[i] : Nat) : Int) := by simp [rd, ints, List.getD, h]
/-- x is a friend of all of some people. -/
def know (F : Nat → Nat → Bool) (bs : List Nat) (x : Nat) : Bool := bs.all (F x)
theorem spec_grJoins.ok (n : Nat) (_hn : n ≤ 12) (F : Nat → Nat → Bool) (bs : List Nat) (a : Nat) (ha : a < n) (hb : ∀ b ∈ bs, b < n) (hl : bs.length ≤ 1048576) : Ev (fun k => spec_grJoins.f k (tabB n F) (ints bs) (a : Int)) (know F bs a) := by
  unfold spec_grJoins.f know
  rw [ints_length]
  refine up_loop (P := fun i => Ev (fun k => spec_grJoins.l0 k (tabB n F) (a : Int) (ints bs) (bs.length : Int) (i : Int)) ((bs.drop i).all (F a))) (n := bs.length) ?_ ?_ 0 (Nat.zero_le _)
  · refine Ev.step (f := fun _ => some true) (fun k => ?_) (by rw [List.drop_length]; exact Ev.now _)
    simp only [spec_grJoins.l0]
    rw [if_neg (by omega)]
  · intro i hi h
    have e : (bs.drop i).all (F a) = (F a bs[i] && (bs.drop (i + 1)).all (F a)) := by rw [List.drop_eq_getElem_cons hi]; rfl
    have hbi := hb bs[i] (List.getElem_mem hi)
    rw [e]
    cases hF : F a bs[i] with
    | false =>
      rw [Bool.false_and]
      refine Ev.step (f := fun _ => some false) (fun k => ?_) (Ev.now _)
      simp only [spec_grJoins.l0]
      rw [if_pos (by omega), if_pos (by omega), if_pos (by rw [ints_length]; omega), if_pos (by omega), if_pos (by rw [tabB_length]; omega), rd_ints bs i hi, if_pos (by omega), rdL_tabB n F a ha, if_pos (by simp; omega), row_get n _ _ hbi, hF, if_neg (by simp)]
    | true =>
      rw [Bool.true_and]
      refine Ev.step (fun k => ?_) h
      simp only [spec_grJoins.l0]
      rw [if_pos (by omega), if_pos (by omega), if_pos (by rw [ints_length]; omega), if_pos (by omega), if_pos (by rw [tabB_length]; omega), rd_ints bs i hi, if_pos (by omega), rdL_tabB n F a ha, if_pos (by simp; omega), row_get n _ _ hbi, hF, if_pos rfl, nat_succ i (by omega)]

theorem two_pow_step (n i : Nat) (h : i < n) : 2 ^ (n - i) = 2 * 2 ^ (n - (i + 1)) := by
  rw [show n - i = (n - (i + 1)) + 1 from by omega, Nat.pow_succ, Nat.mul_comm]
theorem spec_grLook.ok (n : Nat) (hn : n ≤ 12) (F : Nat → Nat → Bool) (hF : ∀ a b, F a b = F b a) : ∀ (m : Nat) (bs : List Nat) (fr : Nat) (xs : List (List Int)), n - fr = m → fr ≤ n → bs.length ≤ fr → (∀ b ∈ bs, b < n) → xs.length + 2 ^ (n - fr) ≤ 4096 →
    ∃ out, Ev (fun k => spec_grLook.f k (tabB n F) (ints bs) (fr : Int) xs) (xs ++ out) ∧ out.length ≤ 2 ^ (n - fr) ∧ (∀ p ∈ out, bs.length ≤ p.length) ∧ ∀ d, (∃ p ∈ out, p.length = bs.length + d) ↔ cl F d ((List.range' fr (n - fr)).filter (know F bs)) = true := by
  intro m
  induction m using Nat.strongRecOn with
  | ind m ih =>
    intro bs fr xs hm hfn hbl hb hx
    have loop := up_loop (P := fun i => fr ≤ i → ∀ acc : List (List Int), acc.length + 2 ^ (n - i) ≤ 4097 → ∃ out, Ev (fun k => spec_grLook.l0 k (tabB n F) (ints bs) (i : Int) acc) (acc ++ out) ∧ out.length + 1 ≤ 2 ^ (n - i) ∧ (∀ p ∈ out, bs.length + 1 ≤ p.length) ∧ ∀ d, (∃ p ∈ out, p.length = bs.length + (d + 1)) ↔ clGo F (cl F d) ((List.range' i (n - i)).filter (know F bs)) = true) (n := n) (by
        intro _ acc _
        refine ⟨[], ?_, by simp, by simp, by simp [clGo]⟩
        rw [List.append_nil]
        refine Ev.step (f := fun _ => some acc) (fun k => ?_) (Ev.now _)
        rw [spec_grLook.l0, if_neg (by rw [tabB_length]; omega)]) (by
        intro i hi h hfi acc hacc
        have hk := spec_grJoins.ok n hn F bs i hi hb (by omega)
        have h2 := two_pow_step n i hi
        have hpos := Nat.two_pow_pos (n - (i + 1))
        rw [range'_cons i n hi]
        have hl0 : ∀ k, spec_grLook.l0 (k + 1) (tabB n F) (ints bs) (i : Int) acc = (spec_grJoins.f k (tabB n F) (ints bs) (i : Int)).bind fun j => if j = true then ((spec_l1Own.f (ints bs)).bind fun q => if q.length < 17592186044416 then ((spec_grLook.f k (tabB n F) (q ++ [(i : Int)]) (wrap64 ((i : Int) + 1)) acc).bind fun ys => spec_grLook.l0 k (tabB n F) (ints bs) (wrap64 ((i : Int) + 1)) ys) else none) else spec_grLook.l0 k (tabB n F) (ints bs) (wrap64 ((i : Int) + 1)) acc := by
          intro k
          rw [spec_grLook.l0, if_pos (by rw [tabB_length]; omega)]
        cases hki : know F bs i with
        | false =>
          obtain ⟨out, o1, o2, o3, o4⟩ := h (by omega) acc (by omega)
          refine ⟨out, ?_, by omega, o3, ?_⟩
          · refine Ev.step hl0 (Ev.bind hk ?_)
            rw [hki]
            refine Ev.ite_neg (by simp) ?_
            rw [nat_succ i (by omega)]
            exact o1
          · rw [List.filter_cons_of_neg (by simp [hki])]
            exact o4
        | true =>
          obtain ⟨oa, a1, a2, a4, a3⟩ := ih (n - (i + 1)) (by omega) (bs ++ [i]) (i + 1) acc rfl (by omega) (by simp; omega) (by
            intro b hbm
            rcases List.mem_append.1 hbm with h | h
            · exact hb b h
            · obtain rfl := List.mem_singleton.1 h
              exact hi) (by omega)
          obtain ⟨out, o1, o2, o3, o4⟩ := h (by omega) (acc ++ oa) (by rw [List.length_append]; omega)
          have hlen : (bs ++ [i]).length = bs.length + 1 := by simp
          have e : (List.range' (i + 1) (n - (i + 1))).filter (know F (bs ++ [i])) = ((List.range' (i + 1) (n - (i + 1))).filter (know F bs)).filter (F i) := by
            rw [List.filter_filter]
            apply List.filter_congr
            intro x _
            simp only [know, List.all_append, List.all_cons, List.all_nil, Bool.and_true]
            rw [hF x i, Bool.and_comm]
          rw [hlen] at a4
          rw [hlen, e] at a3
          refine ⟨oa ++ out, ?_, by rw [List.length_append]; omega, ?_, ?_⟩
          · refine Ev.step hl0 (Ev.bind hk ?_)
            rw [hki, spec_l1Own.ok _ (by rw [ints_length]; omega)]
            refine Ev.ite_pos rfl ?_
            simp only [Option.bind_some]
            refine Ev.ite_pos (by rw [ints_length]; omega) ?_
            have e : ints bs ++ [(i : Int)] = ints (bs ++ [i]) := by simp [ints]
            rw [e, nat_succ i (by omega)]
            refine Ev.bind a1 ?_
            rw [← List.append_assoc]
            exact o1
          · intro p hp
            rcases List.mem_append.1 hp with hp | hp
            · exact a4 p hp
            · exact o3 p hp
          · intro d
            rw [List.filter_cons_of_pos hki]
            simp only [clGo, Bool.or_eq_true]
            rw [← o4 d, ← a3 d]
            constructor
            · rintro ⟨p, hp, hl⟩
              rcases List.mem_append.1 hp with hp | hp
              · exact .inl ⟨p, hp, by omega⟩
              · exact .inr ⟨p, hp, hl⟩
            · rintro (⟨p, hp, hl⟩ | ⟨p, hp, hl⟩)
              · exact ⟨p, List.mem_append_left _ hp, by omega⟩
              · exact ⟨p, List.mem_append_right _ hp, hl⟩)
    obtain ⟨out, o1, o2, o3, o4⟩ := loop fr hfn (Nat.le_refl _) (xs ++ [ints bs]) (by rw [List.length_append, List.length_singleton]; omega)
    refine ⟨[ints bs] ++ out, ?_, by rw [List.length_append, List.length_singleton]; omega, ?_, ?_⟩
    · rw [← List.append_assoc]
      refine Ev.step (fun k => ?_) o1
      rw [spec_grLook.f, spec_l1Own.ok _ (by rw [ints_length]; omega), Option.bind_some, if_pos (by omega)]
    · intro p hp
      rcases List.mem_append.1 hp with hp | hp
      · rw [List.mem_singleton.1 hp, ints_length]; omega
      · have := o3 p hp
        omega
    · intro d
      cases d with
      | zero =>
        refine ⟨fun _ => rfl, fun _ => ⟨ints bs, by simp, by rw [ints_length]; rfl⟩⟩
      | succ d =>
        rw [show cl F (d + 1) ((List.range' fr (n - fr)).filter (know F bs)) = clGo F (cl F d) ((List.range' fr (n - fr)).filter (know F bs)) from rfl, ← o4 d]
        constructor
        · rintro ⟨p, hp, hl⟩
          rcases List.mem_append.1 hp with hp | hp
          · rw [List.mem_singleton.1 hp, ints_length] at hl; omega
          · exact ⟨p, hp, hl⟩
        · rintro ⟨p, hp, hl⟩
          exact ⟨p, List.mem_append_right _ hp, hl⟩
theorem spec_grGroups.ok (n : Nat) (hn : n ≤ 12) (F : Nat → Nat → Bool) (hF : ∀ a b, F a b = F b a) : ∃ out, Ev (fun k => spec_grGroups.f k (tabB n F)) out ∧ out.length ≤ 4096 ∧ ∀ d, (∃ p ∈ out, p.length = d) ↔ cl F d (List.range n) = true := by
  have hp : 2 ^ (n - 0) ≤ 2 ^ 12 := Nat.pow_le_pow_right (by omega) (by omega)
  obtain ⟨out, h1, h2, _, h3⟩ := spec_grLook.ok n hn F hF (n - 0) [] 0 [] rfl (by omega) (by simp) (by simp) (by simpa using hp)
  refine ⟨out, ?_, Nat.le_trans h2 hp, fun d => ?_⟩
  · rw [List.nil_append] at h1
    exact h1
  · have := h3 d
    have e : (List.range' 0 (n - 0)).filter (know F []) = List.range n := by
      rw [Nat.sub_zero, List.range_eq_range', List.filter_eq_self]
      intro a _; rfl
    rw [e] at this
    simpa using this

/-- All lists that are left of a list. -/
def subs {α : Type} : List α → List (List α)
  | [] => [[]]
  | x :: t => (subs t).map (x :: ·) ++ subs t
theorem nil_subs {α : Type} : ∀ l : List α, [] ∈ subs l
  | [] => by simp [subs]
  | x :: t => by simp [subs, nil_subs t]
theorem sorted_subs {α : Type} (R : α → α → Prop) (ha : ∀ x y, R x y → ¬ R y x) : ∀ P L : List α, P.Pairwise R → L.Pairwise R → (∀ x ∈ L, x ∈ P) → L ∈ subs P := by
  intro P
  induction P with
  | nil =>
    intro L _ _ h
    cases L with
    | nil => simp [subs]
    | cons x L => exact absurd (h x (by simp)) (by simp)
  | cons p P ih =>
    intro L hP hL h
    obtain ⟨hp, hP2⟩ := List.pairwise_cons.1 hP
    cases L with
    | nil => exact nil_subs _
    | cons x L =>
      obtain ⟨hx, hL'⟩ := List.pairwise_cons.1 hL
      simp only [subs, List.mem_append, List.mem_map]
      rcases List.mem_cons.1 (h x (by simp)) with rfl | hxP
      · refine .inl ⟨L, ih L hP2 hL' (fun y hy => ?_), rfl⟩
        rcases List.mem_cons.1 (h y (by simp [hy])) with rfl | hy'
        · exact absurd (hx y hy) (fun g => ha _ _ g g)
        · exact hy'
      · refine .inr (ih (x :: L) hP2 hL (fun y hy => ?_))
        rcases List.mem_cons.1 (h y hy) with rfl | hy'
        · rcases List.mem_cons.1 hy with rfl | hy
          · exact absurd (hp y hxP) (fun g => ha _ _ g g)
          · exact absurd (hx y hy) (ha _ _ (hp x hxP))
        · exact hy'
theorem pw_steps {α : Type} (R : α → α → Prop) (tr : ∀ x y z, R x y → R y z → R x z) (l : List α) (h : ∀ i (hi : i + 1 < l.length), R (l[i]'(by omega)) l[i + 1]) : l.Pairwise R := by
  rw [List.pairwise_iff_getElem]
  intro i j hi hj hij
  obtain ⟨d, rfl⟩ : ∃ d, j = i + 1 + d := ⟨j - (i + 1), by omega⟩
  clear hij
  induction d with
  | zero => exact h i hj
  | succ d ih => exact tr _ _ _ (ih (by omega)) (h (i + 1 + d) hj)
/-- All pairs of n people, in order. -/
def prsN (n : Nat) : List (Nat × Nat) := (List.range' 0 n).flatMap fun a => (List.range' (a + 1) (n - (a + 1))).map fun b => (a, b)
theorem prsN_facts (n : Nat) (h : n ≤ 6) : (prsN n).length ≤ 15 ∧ (∀ p ∈ prsN n, p.1 < p.2 ∧ p.2 < n) ∧ (prsN n).Pairwise (fun p q => p.1 < q.1 ∨ p.1 = q.1 ∧ p.2 < q.2) := by
  obtain rfl | rfl | rfl | rfl | rfl | rfl | rfl : n = 0 ∨ n = 1 ∨ n = 2 ∨ n = 3 ∨ n = 4 ∨ n = 5 ∨ n = 6 := by omega
  all_goals decide
theorem mem_prsN (n a b : Nat) : (a, b) ∈ prsN n ↔ a < b ∧ b < n := by
  unfold prsN
  simp only [List.mem_flatMap, List.mem_map, List.mem_range'_1, Prod.mk.injEq]
  constructor
  · rintro ⟨x, hx, y, hy, rfl, rfl⟩; omega
  · rintro ⟨h1, h2⟩; exact ⟨a, by omega, b, by omega, rfl, rfl⟩
def pI (p : Nat × Nat) : S105 := ⟨(p.1 : Int), (p.2 : Int)⟩
theorem rd_pI (ps : List (Nat × Nat)) (i : Nat) (h : i < ps.length) : rd_T105 (ps.map pI) (i : Int) = pI ps[i] := by simp [rd_T105, List.getD, h]
def lexS (p q : S105) : Prop := p.f0 < q.f0 ∨ p.f0 = q.f0 ∧ p.f1 < q.f1
theorem goodB_sorted {n : Int} {l : List S105} (h : goodB n l = true) : l.Pairwise lexS :=
  pw_steps lexS (fun x y z h1 h2 => by unfold lexS at *; omega) l (fun i hi => (goodB_step h (i + 1) hi).2 (by omega))
theorem goodB_subs {n : Nat} (hn : n ≤ 6) {l : List S105} (h : goodB n l = true) : l ∈ subs ((prsN n).map pI) := by
  refine sorted_subs lexS (fun x y h1 => by unfold lexS at *; omega) _ l ?_ (goodB_sorted h) (fun x hx => ?_)
  · rw [List.pairwise_map]
    refine (prsN_facts n hn).2.2.imp (fun {a b} hab => ?_)
    unfold lexS pI
    simp only
    omega
  · obtain ⟨i, hi, rfl⟩ := List.getElem_of_mem hx
    have g := (goodB_step h i hi).1
    refine List.mem_map.2 ⟨(l[i].f0.toNat, l[i].f1.toNat), (mem_prsN n _ _).2 ⟨by omega, by omega⟩, ?_⟩
    obtain ⟨x, hx⟩ : ∃ x, x = l[i] := ⟨_, rfl⟩
    rw [← hx] at g ⊢
    obtain ⟨u, v⟩ := x
    simp only at g
    have e1 := Int.toNat_of_nonneg g.1
    have e2 := Int.toNat_of_nonneg (show 0 ≤ v by omega)
    simp only [pI, e1, e2]
def sides (r s : Int) : Bool := decide (1 ≤ r ∧ r ≤ 4) && decide (1 ≤ s ∧ s ≤ 4)
/-- What is told of a party by clues of the kinds 2 to 5, on both sides. -/
def chk (n : Nat) (l : List S105) : Bool :=
  let T := tabI n (adj l)
  (match spec_paNumbers.f 100 n l with
    | some ms => ms.length == n && (List.range n).all fun (a : Nat) => impl_toldOf.f 100 2 (a : Int) T == some (rd ms a)
    | none => false) &&
  (impl_toldOf.f 100 3 0 T == some (l.length : Int)) &&
  (match spec_pzThrees.f 100 n l with
    | some m => impl_toldOf.f 100 4 0 T == some m
    | none => false) &&
  (match spec_paParts.f 100 n l with
    | some m => impl_toldOf.f 100 5 0 T == some (m.length : Int)
    | none => false)
theorem chk0 : ((subs ((prsN 0).map pI)).all (chk 0)) = true := by decide +kernel
theorem chk1 : ((subs ((prsN 1).map pI)).all (chk 1)) = true := by decide +kernel
theorem chk2 : ((subs ((prsN 2).map pI)).all (chk 2)) = true := by decide +kernel
theorem chk3 : ((subs ((prsN 3).map pI)).all (chk 3)) = true := by decide +kernel
theorem chk4 : ((subs ((prsN 4).map pI)).all (chk 4)) = true := by decide +kernel
theorem chk5_0 : ((((subs ((prsN 5).map pI)).drop 0).take 128).all (chk 5)) = true := by decide +kernel
theorem chk5_1 : ((((subs ((prsN 5).map pI)).drop 128).take 128).all (chk 5)) = true := by decide +kernel
theorem chk5_2 : ((((subs ((prsN 5).map pI)).drop 256).take 128).all (chk 5)) = true := by decide +kernel
theorem chk5_3 : ((((subs ((prsN 5).map pI)).drop 384).take 128).all (chk 5)) = true := by decide +kernel
theorem chk5_4 : ((((subs ((prsN 5).map pI)).drop 512).take 128).all (chk 5)) = true := by decide +kernel
theorem chk5_5 : ((((subs ((prsN 5).map pI)).drop 640).take 128).all (chk 5)) = true := by decide +kernel
theorem chk5_6 : ((((subs ((prsN 5).map pI)).drop 768).take 128).all (chk 5)) = true := by decide +kernel
theorem chk5_7 : ((((subs ((prsN 5).map pI)).drop 896).take 128).all (chk 5)) = true := by decide +kernel
theorem subs_length {α : Type} : ∀ l : List α, (subs l).length = 2 ^ l.length
  | [] => rfl
  | x :: t => by
    have := subs_length t
    simp only [subs, List.length_append, List.length_map, List.length_cons, this, Nat.pow_succ]
    omega
theorem all_chunks {α : Type} (p : α → Bool) (L : List α) (hL : L.length ≤ 1024) (h : ∀ i, i < 8 → ((L.drop (128 * i)).take 128).all p = true) : ∀ l ∈ L, p l = true := by
  intro l hl
  obtain ⟨j, hj, rfl⟩ := List.getElem_of_mem hl
  refine List.all_eq_true.1 (h (j / 128) (by omega)) _ (List.mem_of_getElem? (i := j % 128) ?_)
  rw [List.getElem?_take_of_lt (Nat.mod_lt _ (by omega)), List.getElem?_drop, Nat.div_add_mod, List.getElem?_eq_getElem hj]
theorem chk_good {n : Nat} (hn : n ≤ 5) {l : List S105} (h : goodB n l = true) : chk n l = true := by
  have hm := goodB_subs (show n ≤ 6 by omega) h
  obtain rfl | rfl | rfl | rfl | rfl | rfl : n = 0 ∨ n = 1 ∨ n = 2 ∨ n = 3 ∨ n = 4 ∨ n = 5 := by omega
  · exact List.all_eq_true.1 chk0 l hm
  · exact List.all_eq_true.1 chk1 l hm
  · exact List.all_eq_true.1 chk2 l hm
  · exact List.all_eq_true.1 chk3 l hm
  · exact List.all_eq_true.1 chk4 l hm
  · refine all_chunks (chk 5) _ (by rw [subs_length, List.length_map]; decide) (fun i hi => ?_) l hm
    obtain rfl | rfl | rfl | rfl | rfl | rfl | rfl | rfl : i = 0 ∨ i = 1 ∨ i = 2 ∨ i = 3 ∨ i = 4 ∨ i = 5 ∨ i = 6 ∨ i = 7 := by omega
    · exact chk5_0
    · exact chk5_1
    · exact chk5_2
    · exact chk5_3
    · exact chk5_4
    · exact chk5_5
    · exact chk5_6
    · exact chk5_7
/-- What is told of a party. -/
def told (n : Nat) (l : List S105) (kd a : Int) : Int := (impl_toldOf.f 100 kd a (tabI n (adj l))).getD 0
/-- The party fits the clue. -/
def fitB (n : Nat) (l : List S105) (kd a b : Int) : Bool :=
  if kd = 0 then adj l a.toNat b.toNat else if kd = 1 then !adj l a.toNat b.toNat else if kd = 2 then told n l 2 a == b else told n l kd 0 == a
theorem chk_facts {n : Nat} (hn : n ≤ 5) {l : List S105} (h : goodB n l = true) :
    (∃ ms, spec_paNumbers.f 100 n l = some ms ∧ ms.length = n ∧ ∀ a : Nat, a < n → impl_toldOf.f 100 2 a (tabI n (adj l)) = some (rd ms a)) ∧ impl_toldOf.f 100 3 0 (tabI n (adj l)) = some (l.length : Int) ∧
    (∃ m, spec_pzThrees.f 100 n l = some m ∧ impl_toldOf.f 100 4 0 (tabI n (adj l)) = some m) ∧ (∃ m, spec_paParts.f 100 n l = some m ∧ impl_toldOf.f 100 5 0 (tabI n (adj l)) = some (m.length : Int)) := by
  have hc := chk_good hn h
  unfold chk at hc
  simp only [Bool.and_eq_true, beq_iff_eq] at hc
  obtain ⟨⟨⟨h1, h2⟩, h3⟩, h4⟩ := hc
  refine ⟨?_, h2, ?_, ?_⟩
  · cases e : spec_paNumbers.f 100 n l with
    | none => rw [e] at h1; cases h1
    | some ms =>
      rw [e] at h1
      simp only [Bool.and_eq_true, beq_iff_eq, List.all_eq_true] at h1
      exact ⟨ms, rfl, h1.1, fun a ha => h1.2 a (List.mem_range.2 ha)⟩
  · cases e : spec_pzThrees.f 100 n l with
    | none => rw [e] at h3; cases h3
    | some m => rw [e] at h3; exact ⟨m, rfl, by simpa using h3⟩
  · cases e : spec_paParts.f 100 n l with
    | none => rw [e] at h4; cases h4
    | some m => rw [e] at h4; exact ⟨m, rfl, by simpa using h4⟩
theorem toldOf_ok {n : Nat} (hn : n ≤ 5) {l : List S105} (h : goodB n l = true) (kd a : Int) (hk : kd = 2 ∧ 0 ≤ a ∧ a < n ∨ (kd = 3 ∨ kd = 4 ∨ kd = 5) ∧ a = 0) : Ev (fun k => impl_toldOf.f k kd a (tabI n (adj l))) (told n l kd a) := by
  have : ∃ r, impl_toldOf.f 100 kd a (tabI n (adj l)) = some r := by
    obtain ⟨⟨ms, _, _, h2⟩, h3, ⟨m, _, h4⟩, ⟨q, _, h5⟩⟩ := chk_facts hn h
    rcases hk with ⟨rfl, ha, hb⟩ | ⟨rfl | rfl | rfl, rfl⟩
    · obtain ⟨x, rfl⟩ := Int.eq_ofNat_of_zero_le ha
      exact ⟨_, h2 x (by omega)⟩
    · exact ⟨_, h3⟩
    · exact ⟨_, h4⟩
    · exact ⟨_, h5⟩
  obtain ⟨r, hr⟩ := this
  unfold told
  rw [hr]
  exact Ev.of (fun k => impl_toldOf.mono _ _ _ k) hr
-- of a party: fitB
/-- The clues that are made, one after the other. -/
def mkA (N : Nat) (z : Int) : Int := Int.tmod (nxtI (nxtI z)) N
def mkB (N : Nat) (z : Int) : Int := Int.tmod (wrap64 (wrap64 (Int.tmod (nxtI (nxtI (nxtI z))) (wrap64 ((N : Int) - 1)) + mkA N z) + 1)) N
def mkL (N : Nat) (l : List S105) : Nat → Int → List S70 → List S70
  | 0, _, xs => xs
  | f + 1, z, xs =>
    if Int.tmod (nxtI z) 6 = 0 ∨ Int.tmod (nxtI z) 6 = 1 then mkL N l f (nxtI (nxtI (nxtI z))) (xs ++ [⟨if adj l (mkA N z).toNat (mkB N z).toNat = true then 0 else 1, if mkB N z < mkA N z then mkB N z else mkA N z, if mkA N z < mkB N z then mkB N z else mkA N z⟩])
    else if Int.tmod (nxtI z) 6 = 2 then mkL N l f (nxtI (nxtI z)) (xs ++ [⟨2, mkA N z, told N l 2 (mkA N z)⟩])
    else mkL N l f (nxtI z) (xs ++ [⟨Int.tmod (nxtI z) 6, told N l (Int.tmod (nxtI z) 6) 0, 0⟩])
theorem nxtI_in {z : Int} (h0 : 0 ≤ z) (h1 : z ≤ 10006) : 0 ≤ nxtI z ∧ nxtI z ≤ 10006 := by
  unfold nxtI
  rw [wrap_id (x := z * 173) (by omega) (by omega), wrap_id (by omega) (by omega), Int.tmod_eq_emod_of_nonneg (by omega)]
  omega
theorem mkA_in {N : Nat} (hN : 2 ≤ N) {z : Int} (h0 : 0 ≤ z) (h1 : z ≤ 10006) : 0 ≤ mkA N z ∧ mkA N z < N := by
  have h2 := nxtI_in h0 h1
  have h3 := nxtI_in h2.1 h2.2
  unfold mkA
  rw [Int.tmod_eq_emod_of_nonneg h3.1]
  exact ⟨Int.emod_nonneg _ (by omega), Int.emod_lt_of_pos _ (by omega)⟩
theorem mkB_in {N : Nat} (hN : 2 ≤ N) (hN5 : N ≤ 5) {z : Int} (h0 : 0 ≤ z) (h1 : z ≤ 10006) : 0 ≤ mkB N z ∧ mkB N z < N := by
  have h2 := nxtI_in h0 h1
  have h3 := nxtI_in h2.1 h2.2
  have h4 := nxtI_in h3.1 h3.2
  have ha := mkA_in hN h0 h1
  unfold mkB
  rw [wrap_id (x := (N : Int) - 1) (by omega) (by omega), Int.tmod_eq_emod_of_nonneg h4.1]
  have e1 := Int.emod_nonneg (nxtI (nxtI (nxtI z))) (show (N : Int) - 1 ≠ 0 by omega)
  have e2 := Int.emod_lt_of_pos (nxtI (nxtI (nxtI z))) (show (0 : Int) < (N : Int) - 1 by omega)
  rw [wrap_id (x := nxtI (nxtI (nxtI z)) % ((N : Int) - 1) + mkA N z) (by omega) (by omega), wrap_id (by omega) (by omega), Int.tmod_eq_emod_of_nonneg (by omega)]
  exact ⟨Int.emod_nonneg _ (by omega), Int.emod_lt_of_pos _ (by omega)⟩
theorem kd_in {z : Int} (h0 : 0 ≤ z) (h1 : z ≤ 10006) : 0 ≤ Int.tmod (nxtI z) 6 ∧ Int.tmod (nxtI z) 6 ≤ 5 := by
  have h2 := nxtI_in h0 h1
  rw [Int.tmod_eq_emod_of_nonneg h2.1]
  omega
theorem mkL_len (N : Nat) (l : List S105) : ∀ f z xs, (mkL N l f z xs).length = xs.length + f
  | 0, _, _ => rfl
  | f + 1, z, xs => by
    simp only [mkL]
    split
    · rw [mkL_len N l f]; simp only [List.length_append, List.length_singleton]; omega
    · split
      · rw [mkL_len N l f]; simp only [List.length_append, List.length_singleton]; omega
      · rw [mkL_len N l f]; simp only [List.length_append, List.length_singleton]; omega
def makeC (n : Int) (l : List S105) (m z : Int) : Int × List S70 × Bool := if goodB n l = true ∧ (2 ≤ n ∧ n ≤ 5) ∧ (0 ≤ m ∧ m ≤ 8) ∧ (0 ≤ z ∧ z ≤ 9999) then (n, mkL n.toNat l m.toNat z [], true) else (0, [], false)
theorem makeC_len (n : Int) (l : List S105) (m z : Int) : (makeC n l m z).2.1.length ≤ 8 := by
  unfold makeC
  split
  · simp only [mkL_len, List.length_nil]; omega
  · simp
theorem goodB_pin {n : Int} {l : List S105} (h : goodB n l = true) : pin n.toNat l := by
  intro x hx
  obtain ⟨i, hi, rfl⟩ := List.getElem_of_mem hx
  have := (goodB_step h i hi).1
  have := goodB_people h
  omega
theorem spec_pzNext.eq (z : Int) : spec_pzNext.f z = some (nxtI z) := by unfold spec_pzNext.f nxtI; rw [Int.mul_comm 173 z]
theorem spec_least.eq (a b : Int) : spec_l1Least.f a b = some (if b < a then b else a) := by
  unfold spec_l1Least.f
  split <;> split <;> first | rfl | (congr 1; omega)
theorem spec_most.eq (a b : Int) : spec_l1Most.f a b = some (if a < b then b else a) := by
  unfold spec_l1Most.f
  split <;> split <;> first | rfl | (congr 1; omega)
theorem mk_spec_loop (N : Nat) (hN : 2 ≤ N) (hN5 : N ≤ 5) (l : List S105) (hg : goodB N l = true) : ∀ (f : Nat) (z : Int) (xs : List S70), f ≤ 8 → xs.length + f ≤ 8 → 0 ≤ z → z ≤ 10006 → Ev (fun k => spec_MakePuzzle.l0 k (f : Int) (N : Int) z (N : Int) l (N : Int) xs) ((N : Int), mkL N l f z xs, true) := by
  have h66 := goodB_len66 hg
  obtain ⟨⟨ms, hms, hml, hm2⟩, ht3, ⟨t4, hs4, ht4⟩, ⟨t5, hs5, ht5⟩⟩ := chk_facts hN5 hg
  intro f
  induction f with
  | zero =>
    intro z xs hf hx h0 h1
    refine Ev.step (f := fun _ => some ((N : Int), xs, true)) (fun k => ?_) (Ev.now _)
    rw [spec_MakePuzzle.l0, if_neg (by omega)]
  | succ f ih =>
    intro z xs hf hx h0 h1
    have z1 := nxtI_in h0 h1
    have z2 := nxtI_in z1.1 z1.2
    have z3 := nxtI_in z2.1 z2.2
    have ha := mkA_in hN h0 h1
    have hb := mkB_in hN hN5 h0 h1
    have hk := kd_in h0 h1
    have hw : wrap64 (((f + 1 : Nat) : Int) - 1) = (f : Int) := by rw [wrap_id (by omega) (by omega)]; omega
    have hL : xs.length < 5864062014805 := by omega
    have hlen : ∀ c : S70, (xs ++ [c]).length + f ≤ 8 := fun c => by rw [List.length_append, List.length_singleton]; omega
    obtain ⟨fl, hfl⟩ : ∃ fl : Bool, fl = decide (Int.tmod (nxtI z) 6 = 0 ∨ Int.tmod (nxtI z) 6 = 1) := ⟨_, rfl⟩
    have hj : Ev (fun k => spec_MakePuzzle.j2 k ((f + 1 : Nat) : Int) (N : Int) (nxtI z) (Int.tmod (nxtI z) 6) fl (N : Int) l (N : Int) xs (Int.tmod (nxtI z) 6) 0 0) ((N : Int), mkL N l (f + 1) z xs, true) := by
      simp only [mkL]
      by_cases hc : Int.tmod (nxtI z) 6 = 0 ∨ Int.tmod (nxtI z) 6 = 1
      · rw [if_pos hc]
        rw [decide_eq_true hc] at hfl
        subst hfl
        have ht := spec_paTable.ok N (by omega) l (by omega) (goodB_pin hg)
        have hA2 := ha
        have hB2 := hb
        refine Ev.step (fun k => ?_) (Ev.bind ht (f := fun k t => if 0 ≤ mkA N z then (if mkA N z < (t.length : Int) then (if 0 ≤ mkB N z then (if mkB N z < ((rd_L4 t (mkA N z)).length : Int) then (if rdOf false (rd_L4 t (mkA N z)) (mkB N z) = true then spec_MakePuzzle.l0 k (f : Int) (N : Int) (nxtI (nxtI (nxtI z))) (N : Int) l (N : Int) (xs ++ [⟨0, if mkB N z < mkA N z then mkB N z else mkA N z, if mkA N z < mkB N z then mkB N z else mkA N z⟩]) else spec_MakePuzzle.l0 k (f : Int) (N : Int) (nxtI (nxtI (nxtI z))) (N : Int) l (N : Int) (xs ++ [⟨1, if mkB N z < mkA N z then mkB N z else mkA N z, if mkA N z < mkB N z then mkB N z else mkA N z⟩])) else none) else none) else none) else none) (Ev.ite_pos ha.1 (Ev.ite_pos (by rw [tabB_length]; exact ha.2) (Ev.ite_pos hb.1 ?_))))
        · rw [spec_MakePuzzle.j2, if_pos rfl]
          simp only [spec_pzNext.eq, Option.bind_some, spec_least.eq, spec_most.eq]
          rw [if_neg (by omega), if_neg (by rw [wrap_id (by omega) (by omega)]; omega)]
          simp only [if_pos hL, hw]
          rfl
        · obtain ⟨a, hA⟩ := Int.eq_ofNat_of_zero_le ha.1
          obtain ⟨b, hB⟩ := Int.eq_ofNat_of_zero_le hb.1
          have la : a < N := by have h_ := ha.2; rw [hA] at h_; omega
          have lb : b < N := by have h_ := hb.2; rw [hB] at h_; omega
          rw [hA, hB]
          rw [rdL_tabB N _ a la]
          refine Ev.ite_pos (by simp; omega) ?_
          rw [row_get N _ b lb]
          simp only [Int.toNat_natCast]
          by_cases hab : adj l a b = true
          · rw [if_pos hab]
            exact Ev.ite_pos hab (ih _ _ (by omega) (hlen _) z3.1 z3.2)
          · rw [if_neg hab]
            exact Ev.ite_neg hab (ih _ _ (by omega) (hlen _) z3.1 z3.2)
      · rw [if_neg hc]
        rw [decide_eq_false hc] at hfl
        subst hfl
        by_cases h2 : Int.tmod (nxtI z) 6 = 2
        · rw [if_pos h2, h2]
          obtain ⟨a, hA⟩ := Int.eq_ofNat_of_zero_le ha.1
          have e1 : told N l 2 (mkA N z) = rd ms (mkA N z) := by
            unfold told
            rw [hA, hm2 a (by omega)]; rfl
          rw [e1]
          refine Ev.step (fun k => ?_) (Ev.bind (Ev.of (fun k => spec_paNumbers.mono _ _ k) hms) (f := fun k t => if 0 ≤ mkA N z then (if mkA N z < (t.length : Int) then spec_MakePuzzle.l0 k (f : Int) (N : Int) (nxtI (nxtI z)) (N : Int) l (N : Int) (xs ++ [⟨2, mkA N z, rd t (mkA N z)⟩]) else none) else none) (Ev.ite_pos ha.1 (Ev.ite_pos (by rw [hml]; exact ha.2) (ih _ _ (by omega) (hlen _) z2.1 z2.2))))
          rw [spec_MakePuzzle.j2, if_neg (by simp), if_pos rfl]
          simp only [spec_pzNext.eq, Option.bind_some]
          rw [if_neg (by omega)]
          simp only [if_pos hL, hw]
          rfl
        · rw [if_neg h2]
          by_cases h3 : Int.tmod (nxtI z) 6 = 3
          · rw [h3] at *
            have e1 : told N l 3 0 = (l.length : Int) := by unfold told; rw [ht3]; rfl
            rw [e1]
            refine Ev.step (fun k => ?_) (ih (nxtI z) (xs ++ [⟨3, (l.length : Int), 0⟩]) (by omega) (hlen _) z1.1 z1.2)
            rw [spec_MakePuzzle.j2, if_neg (by simp), if_neg (by omega), if_pos rfl, if_pos hL, hw]
          · by_cases h4 : Int.tmod (nxtI z) 6 = 4
            · rw [h4] at *
              have e1 : told N l 4 0 = t4 := by unfold told; rw [ht4]; rfl
              rw [e1]
              refine Ev.step (fun k => ?_) (Ev.bind (Ev.of (fun k => spec_pzThrees.mono _ _ k) hs4) (f := fun k t => spec_MakePuzzle.l0 k (f : Int) (N : Int) (nxtI z) (N : Int) l (N : Int) (xs ++ [⟨4, t, 0⟩])) (ih (nxtI z) (xs ++ [⟨4, t4, 0⟩]) (by omega) (hlen _) z1.1 z1.2))
              rw [spec_MakePuzzle.j2, if_neg (by simp), if_neg (by omega), if_neg (by omega), if_pos rfl]
              simp only [if_pos hL, hw]
            · have h5 : Int.tmod (nxtI z) 6 = 5 := by omega
              rw [h5] at *
              have e1 : told N l 5 0 = (t5.length : Int) := by unfold told; rw [ht5]; rfl
              rw [e1]
              refine Ev.step (fun k => ?_) (Ev.bind (Ev.of (fun k => spec_paParts.mono _ _ k) hs5) (f := fun k t => spec_MakePuzzle.l0 k (f : Int) (N : Int) (nxtI z) (N : Int) l (N : Int) (xs ++ [⟨5, (t.length : Int), 0⟩])) (ih (nxtI z) (xs ++ [⟨5, (t5.length : Int), 0⟩]) (by omega) (hlen _) z1.1 z1.2))
              rw [spec_MakePuzzle.j2, if_neg (by simp), if_neg (by omega), if_neg (by omega), if_neg (by omega)]
              simp only [if_pos hL, hw]
    refine Ev.step (fun k => ?_) hj
    rw [spec_MakePuzzle.l0, if_pos (by omega)]
    simp only [spec_pzNext.eq, Option.bind_some]
    by_cases h0_ : Int.tmod (nxtI z) 6 = 0
    · rw [if_pos h0_, hfl, decide_eq_true (.inl h0_), show (Int.tmod (nxtI z) 6 == 0) = true from beq_iff_eq.2 h0_]
    · rw [if_neg h0_, hfl]
      congr 1
      by_cases h1_ : Int.tmod (nxtI z) 6 = 1
      · rw [decide_eq_true (.inr h1_)]; exact beq_iff_eq.2 h1_
      · rw [decide_eq_false (fun h => h.elim h0_ h1_)]; exact beq_eq_false_iff_ne.2 h1_
theorem spec_MakePuzzle.ok (n : Int) (l : List S105) (m z : Int) : Ev (fun k => spec_MakePuzzle.f k n l m z) (makeC n l m z) := by
  unfold spec_MakePuzzle.f makeC
  have hno : Ev (fun k => spec_MakePuzzle.j0 k m z n true n l) (0, [], false) := Ev.step (f := fun _ => some (0, [], false)) (fun k => by rw [spec_MakePuzzle.j0, if_pos rfl]) (Ev.now _)
  have hin : ∀ a b c : Int, spec_l1In.f a b c = some (decide (b ≤ a ∧ a ≤ c)) := fun a b c => by
    unfold spec_l1In.f
    by_cases h : b ≤ a
    · rw [if_pos h]; simp [h]
    · rw [if_neg h]; simp [h]
  refine Ev.bind (ev_of 70 fun k hk => spec_paGood.ok n l k hk) ?_
  by_cases hg : goodB n l = true
  · refine Ev.ite_pos hg ?_
    simp only [hin, Option.bind_some]
    by_cases hn : 2 ≤ n ∧ n ≤ 5
    · refine Ev.ite_pos (by simpa using hn) ?_
      by_cases hm : 0 ≤ m ∧ m ≤ 8
      · refine Ev.ite_pos (by simpa using hm) ?_
        by_cases hz : 0 ≤ z ∧ z ≤ 9999
        · rw [if_pos ⟨hg, hn, hm, hz⟩, decide_eq_true hz]
          obtain ⟨N, rfl⟩ := Int.eq_ofNat_of_zero_le (show 0 ≤ n by omega)
          obtain ⟨M, rfl⟩ := Int.eq_ofNat_of_zero_le hm.1
          refine Ev.step (fun k => ?_) (mk_spec_loop N (by omega) (by omega) l hg M z [] (by omega) (by simp; omega) (by omega) (by omega))
          rw [spec_MakePuzzle.j0, if_neg (by simp)]
        · rw [if_neg (fun h => hz h.2.2.2), decide_eq_false hz]
          exact hno
      · refine Ev.ite_neg (by simpa using hm) ?_
        rw [if_neg (fun h => hm h.2.2.1)]
        exact hno
    · refine Ev.ite_neg (by simpa using hn) ?_
      rw [if_neg (fun h => hn h.2.1)]
      exact hno
  · refine Ev.ite_neg hg ?_
    rw [if_neg (fun h => hg h.1)]
    exact hno

theorem rd_T118_nat (l : List S118) (i : Nat) (h : i < l.length) : rd_T118 l (i : Int) = l[i] := by simp [rd_T118, List.getD, h]
def prs (l : List S118) : List S105 := l.map fun x => ⟨x.f0, x.f1⟩
theorem prs_length (l : List S118) : (prs l).length = l.length := by simp [prs]
theorem laws_toPairS.ok (l : List S118) (hl : l.length ≤ 1048576) (k : Nat) (hk : l.length < k) : laws_toPairS.f k l = some (prs l) := by
  unfold laws_toPairS.f
  rw [if_pos (by omega), if_pos (by omega)]
  refine fill_loop (fun k acc i => laws_toPairS.l0 k l acc i) _ l _ (by omega) 0 ?_ ?_ k hk
  · intro k acc i h _ ha
    simp only [laws_toPairS.l0, laws_toPair.f, Option.bind_some]
    rw [if_pos (by omega), if_pos (by omega), if_pos (by omega), rd_T118_nat l i h]
    rfl
  · intro k acc ha
    simp only [laws_toPairS.l0]
    rw [if_neg (by omega)]

theorem laws_toParty.ok (n : Int) (l : List S118) (hl : l.length ≤ 1048576) (k : Nat) (hk : l.length < k) : laws_toParty.f k n l = some (n, prs l) := by
  unfold laws_toParty.f
  rw [laws_toPairS.ok l hl k hk]; rfl

theorem cmp_Compare_int.ok (a b : Int) : cmp_Compare_int.f a b = some (if a < b then -1 else if a > b then 1 else 0) := by
  unfold cmp_Compare_int.f cmp_isNaN_int.f
  simp only [Option.bind_some, bne_self_eq_false]
  rw [if_neg (by simp), if_neg (by simp)]
  split <;> (try split) <;> rfl
def cmpI (a b c d : Int) : Int := if a < c then -1 else if a > c then 1 else if b < d then -1 else if b > d then 1 else 0
theorem cmp_Or_int.two (k : Nat) (x y : Int) : cmp_Or_int.f (k + 3) [x, y] = some (if x = 0 then y else x) := by
  unfold cmp_Or_int.f
  simp only [cmp_Or_int.l0, List.length_cons, List.length_nil, rd]
  by_cases hx : x = 0
  · by_cases hy : y = 0
    · simp [hx, hy, wrap_one, wrap_two]
    · simp [hx, hy, wrap_one]
  · simp [hx]
theorem impl_comparePairs.ok (k : Nat) (hk : 3 ≤ k) (a b c d : Int) : impl_comparePairs.f k a b c d = some (cmpI a b c d) := by
  obtain ⟨k, rfl⟩ : ∃ m, k = m + 3 := ⟨k - 3, by omega⟩
  unfold impl_comparePairs.f cmpI
  simp only [cmp_Compare_int.ok, Option.bind_some, cmp_Or_int.two]
  split
  · simp
  · split <;> simp
theorem cmpI_neg (x y : S105) : (cmpI x.f0 x.f1 y.f0 y.f1 ≥ 0) = (lessB x y = false) := by
  unfold cmpI lessB
  rw [eq_iff_iff, decide_eq_false_iff_not]
  split
  · constructor <;> intro h <;> omega
  · split
    · constructor <;> intro h <;> omega
    · split
      · constructor <;> intro h <;> omega
      · split <;> constructor <;> intro h <;> omega

theorem impl_areCrowd.ok (n : Int) : impl_areCrowd.f n = some (crowd n) := by unfold impl_areCrowd.f crowd; simp [impl_within.ok]

theorem impl_IsParty.ok (n : Int) (l : List S105) (hl : l.length ≤ 1048576) (k : Nat) (hk : l.length + 4 < k) : impl_IsParty.f k n l = some (goodB n l) := by
  unfold impl_IsParty.f
  rw [all_loop_fin (fun k i => impl_IsParty.l0 k l (l.length : Int) i n l) l.length (stepB n l) (crowd n) (by omega) 3 ?_ ?_ k (by omega)]
  · unfold goodB; rw [Bool.and_comm]
  · intro k i h hk3
    simp only [impl_IsParty.l0]
    rw [if_pos (by omega), if_pos (by omega), if_pos (by omega), rd_T105_nat l i h, stepB_eq n l i h]
    by_cases h1 : 0 ≤ l[i].f0 ∧ l[i].f0 < l[i].f1 ∧ l[i].f1 < n
    · rw [if_neg (by omega), if_neg (by omega), if_neg (by omega), decide_eq_true h1, Bool.true_and]
      rcases Nat.eq_zero_or_pos i with rfl | hi
      · rw [if_neg (by simp)]; simp
      · have e3 : wrap64 ((i : Int) - 1) = ((i - 1 : Nat) : Int) := by rw [wrap_id (by omega) (by omega)]; omega
        rw [if_pos (by omega), e3, if_pos (by omega), if_pos (by omega), rd_T105_nat l (i - 1) (by omega), impl_comparePairs.ok _ hk3]
        simp only [Option.bind_some, cmpI_neg]
        rw [show (i == 0) = false from by simp; omega, Bool.false_or]
        cases lessB l[i - 1] l[i] <;> rfl
    · rw [decide_eq_false h1, Bool.false_and]
      simp only [Bool.false_eq_true, if_false]
      by_cases a1 : l[i].f0 < 0
      · rw [if_pos a1]
      · rw [if_neg a1]
        by_cases a2 : l[i].f0 ≥ l[i].f1
        · rw [if_pos a2]
        · rw [if_neg a2, if_pos (by omega)]
  · intro k hk3
    simp only [impl_IsParty.l0]
    rw [if_neg (by omega), impl_areCrowd.ok]; rfl

theorem tabI_none (n : Nat) : List.replicate n (0 : Int) = tabI n (adj []) := by
  apply List.ext_getElem (by simp [tabI])
  intro i h1 h2
  have : msk (adj [] i) n = 0 := by
    apply Nat.eq_of_testBit_eq
    intro j
    rw [msk_testBit]
    simp [adj]
  simp [tabI, this]
-- pairnat
theorem impl_Party_table.ok (n : Nat) (hn : n ≤ 12) (l : List S105) (hl : l.length ≤ 1048576) (hp : pin n l) : Ev (fun k => impl_Party_table.f k (n : Int) l) (tabI n (adj l)) := by
  have h1 : Ev (fun k => impl_Party_table.l0 k (tabI n (adj (l.take 0))) l (l.length : Int) ((0 : Nat) : Int)) (tabI n (adj l)) := by
    refine up_loop (P := fun i => Ev (fun k => impl_Party_table.l0 k (tabI n (adj (l.take i))) l (l.length : Int) (i : Int)) (tabI n (adj l))) (n := l.length) ?_ ?_ 0 (Nat.zero_le _)
    · refine Ev.step (f := fun _ => some (tabI n (adj l))) (fun k => ?_) (Ev.now _)
      simp only [impl_Party_table.l0]
      rw [if_neg (by omega), List.take_length]
    · intro i hi h
      refine Ev.step (fun k => ?_) h
      obtain ⟨q0, q1, q2, q3⟩ := hp l[i] (List.getElem_mem hi)
      obtain ⟨a, ea⟩ := Int.eq_ofNat_of_zero_le q0
      obtain ⟨b, eb⟩ := Int.eq_ofNat_of_zero_le q2
      have ha : a < n := by omega
      have hb : b < n := by omega
      simp only [impl_Party_table.l0, Option.bind_some]
      rw [if_pos (by omega), if_pos (by omega), if_pos (by omega), rd_T105_nat l i hi, ea, eb, tabI_rd n _ a ha, if_pos (by omega), if_pos (by rw [tabI_length]; omega), if_pos (by omega), if_pos (by rw [tabI_length]; omega)]
      simp only [Int.toNat_natCast]
      rw [tabI_set n _ a b (by omega) ha hb, tabI_rd n _ b hb, tabI_set n _ b a (by omega) hb ha, nat_succ i (by omega), adj_take l i hi, ea, eb]
      simp only [Int.toNat_natCast]
  unfold impl_Party_table.f
  refine Ev.congr (fun k => ?_) h1
  rw [if_pos (by omega), if_pos (by omega)]
  simp only [Int.toNat_natCast, tabI_none, List.take_zero]
  rfl

theorem u16_bit (m i : Nat) (hm : m < 65536) (h : i ≤ 16) : (Go.bits .and .u16 (shr .u16 (m : Int) (i : Int)) 1 == 1) = m.testBit i := by
  unfold shr
  rw [Int.toNat_natCast, Nat.min_eq_left (by simpa [IntKind.bits] using h)]
  have e : ((m : Int) / 2 ^ i) = ((m / 2 ^ i : Nat) : Int) := by simp
  have hl : m / 2 ^ i < 65536 := Nat.lt_of_le_of_lt (Nat.div_le_self _ _) hm
  rw [e, show (1 : Int) = ((1 : Nat) : Int) from rfl, u16_and_nat _ _ hl (by omega), Nat.testBit_eq_decide_div_mod_eq, Nat.and_one_is_mod]
  rw [Bool.eq_iff_iff, beq_iff_eq, decide_eq_true_eq]
  omega
theorem impl_table_has.ok (n : Nat) (hn : n ≤ 12) (F : Nat → Nat → Bool) (a b : Nat) (ha : a < n) (hb : b < n) : impl_table_has.f (tabI n F) (a : Int) (b : Int) = some (F a b) := by
  unfold impl_table_has.f
  rw [if_pos (by omega), if_pos (by rw [tabI_length]; omega), if_pos (by omega), tabI_rd n F a ha, u16_bit _ _ (msk_lt16 _ _ (by omega)) (by omega), msk_testBit, decide_eq_true hb]
  rfl

-- ints
theorem impl_listed.go : ∀ (m s : Nat) (acc : List Int), (bof s).length = m → s < 65536 → acc.length + m ≤ 1000 → Ev (fun k => impl_listed.l0 k (s : Int) acc) (acc ++ ints (bof s)) := by
  intro m
  induction m with
  | zero =>
    intro s acc hm hs _
    have e := bof_nil s hs (List.length_eq_zero_iff.1 hm)
    rw [List.length_eq_zero_iff.1 hm]
    subst e
    refine Ev.step (f := fun _ => some acc) (fun k => ?_) (by rw [show acc ++ ints [] = acc from by simp [ints]]; exact Ev.now _)
    rw [impl_listed.l0, if_neg (by simp)]
  | succ m ih =>
    intro s acc hm hs ha
    have h0 : s ≠ 0 := by rintro rfl; rw [bof_zero] at hm; simp at hm
    have es := bof_step s h0 hs
    rw [es] at hm ⊢
    have h1 := ih (s &&& (s - 1)) (acc ++ [((Go.Lib.ctz 16 s : Nat) : Int)]) (by simpa using hm) (Nat.lt_of_le_of_lt Nat.and_le_left hs) (by simp; omega)
    have ec : ctz16 (s : Int) = ((Go.Lib.ctz 16 s : Nat) : Int) := by simp [ctz16]
    refine Ev.step (fun k => ?_) (by rw [show acc ++ ints (Go.Lib.ctz 16 s :: bof (s &&& (s - 1))) = (acc ++ [((Go.Lib.ctz 16 s : Nat) : Int)]) ++ ints (bof (s &&& (s - 1))) from by simp [ints]]; exact h1)
    rw [impl_listed.l0, if_pos (by omega), bits_TrailingZeros16.f, if_pos (by omega), Option.bind_some, if_pos (by omega), low_bits s hs h0, ec]
theorem impl_listed.ok (s : Nat) (hs : s < 65536) : Ev (fun k => impl_listed.f k (s : Int)) (ints (bof s)) := by
  have h := impl_listed.go _ s [] rfl hs (by
    have : (bof s).length ≤ 16 := by unfold bof; exact Nat.le_trans (List.length_filter_le _ _) (by simp)
    simp; omega)
  rw [List.nil_append] at h
  exact h
theorem impl_listed.msk (p : Nat → Bool) (n : Nat) (h : n ≤ 16) : Ev (fun k => impl_listed.f k ((msk p n : Nat) : Int)) (ints ((List.range n).filter p)) := by
  have := impl_listed.ok (Base.msk p n) (msk_lt16 p n h)
  rwa [bof_msk p n h] at this

theorem mk_impl_loop (N : Nat) (hN : 2 ≤ N) (hN5 : N ≤ 5) (l : List S105) (hg : goodB N l = true) (m : Nat) (hm : m ≤ 8) : ∀ f (i : Nat) (z : Int) (xs : List S70), i + f = m → xs.length = i → 0 ≤ z → z ≤ 10006 → Ev (fun k => impl_MakePuzzle.l0 k (N : Int) (tabI N (adj l)) (m : Int) (i : Int) z xs) ((N : Int), mkL N l f z xs, true) := by
  intro f
  induction f with
  | zero =>
    intro i z xs hi hx h0 h1
    refine Ev.step (f := fun _ => some ((N : Int), xs, true)) (fun k => ?_) (Ev.now _)
    rw [impl_MakePuzzle.l0, if_neg (by omega)]
  | succ f ih =>
    intro i z xs hi hx h0 h1
    have z1 := nxtI_in h0 h1
    have z2 := nxtI_in z1.1 z1.2
    have z3 := nxtI_in z2.1 z2.2
    have ha := mkA_in hN h0 h1
    have hb := mkB_in hN hN5 h0 h1
    have hk := kd_in h0 h1
    simp only [mkL]
    by_cases hc : Int.tmod (nxtI z) 6 = 0 ∨ Int.tmod (nxtI z) 6 = 1
    · rw [if_pos hc]
      refine Ev.step (fun k => ?_) (ih (i + 1) (nxtI (nxtI (nxtI z))) (xs ++ [⟨if adj l (mkA N z).toNat (mkB N z).toNat = true then 0 else 1, if mkB N z < mkA N z then mkB N z else mkA N z, if mkA N z < mkB N z then mkB N z else mkA N z⟩]) (by omega) (by rw [List.length_append, hx]; rfl) z3.1 z3.2)
      rw [impl_MakePuzzle.l0, if_pos (by omega), if_pos hc]
      have e1 : impl_table_has.f (tabI N (adj l)) (mkA N z) (mkB N z) = some (adj l (mkA N z).toNat (mkB N z).toNat) := by
        obtain ⟨a, hA⟩ := Int.eq_ofNat_of_zero_le ha.1
        obtain ⟨b, hB⟩ := Int.eq_ofNat_of_zero_le hb.1
        rw [hA, hB, impl_table_has.ok N (by omega) _ a b (by omega) (by omega)]
        rfl
      have e2 : ∀ b : Bool, impl_bit.f (!b) = some (if b = true then (0 : Int) else 1) := by intro b; cases b <;> rfl
      show (((impl_table_has.f (tabI N (adj l)) (mkA N z) (mkB N z)).bind fun h => (impl_bit.f (!h)).bind fun q => _) = _)
      rw [e1]
      simp only [Option.bind_some]
      rw [e2]
      simp only [Option.bind_some]
      rw [if_pos (by omega), nat_succ i (by omega)]
      rfl
    · rw [if_neg hc]
      by_cases h2 : Int.tmod (nxtI z) 6 = 2
      · rw [if_pos h2]
        have ht := toldOf_ok (n := N) hN5 hg 2 (mkA N z) (.inl ⟨rfl, ha.1, ha.2⟩)
        refine Ev.step (fun k => ?_) (Ev.bind ht (f := fun k b => impl_MakePuzzle.l0 k (N : Int) (tabI N (adj l)) (m : Int) ((i + 1 : Nat) : Int) (nxtI (nxtI z)) (xs ++ [⟨2, mkA N z, b⟩])) (ih (i + 1) (nxtI (nxtI z)) _ (by omega) (by rw [List.length_append, hx]; rfl) z2.1 z2.2))
        rw [impl_MakePuzzle.l0, if_pos (by omega), if_neg hc, if_pos h2, nat_succ i (by omega)]
        simp only [if_pos (show xs.length < 5864062014805 by omega)]
        rfl
      · rw [if_neg h2]
        have ht := toldOf_ok (n := N) hN5 hg (Int.tmod (nxtI z) 6) 0 (.inr ⟨by omega, rfl⟩)
        refine Ev.step (fun k => ?_) (Ev.bind ht (f := fun k b => impl_MakePuzzle.l0 k (N : Int) (tabI N (adj l)) (m : Int) ((i + 1 : Nat) : Int) (nxtI z) (xs ++ [⟨Int.tmod (nxtI z) 6, b, 0⟩])) (ih (i + 1) (nxtI z) _ (by omega) (by rw [List.length_append, hx]; rfl) z1.1 z1.2))
        rw [impl_MakePuzzle.l0, if_pos (by omega), if_neg hc, if_neg h2, nat_succ i (by omega)]
        simp only [if_pos (show xs.length < 5864062014805 by omega)]
theorem impl_isGuest.ok (n : Int) (l : List S105) (hl : l.length ≤ 1048576) : Ev (fun k => impl_isGuestParty.f k n l) (goodB n l && guests n) := by
  unfold impl_isGuestParty.f
  have hgs : impl_areGuests.f n = some (guests n) := by unfold impl_areGuests.f guests; simp [impl_within.ok]
  refine Ev.bind (ev_of (l.length + 5) fun k hk => impl_IsParty.ok n l hl k (by omega)) ?_
  by_cases hg : goodB n l = true
  · refine Ev.ite_pos hg ?_
    rw [hgs, hg]
    exact Ev.now _
  · refine Ev.ite_neg hg ?_
    rw [show goodB n l = false from by simpa using hg]
    exact Ev.now _
theorem impl_MakePuzzle.ok (n : Int) (l : List S105) (hl : l.length ≤ 1048576) (m z : Int) : Ev (fun k => impl_MakePuzzle.f k n l m z) (makeC n l m z) := by
  unfold impl_MakePuzzle.f makeC
  refine Ev.bind (impl_isGuest.ok n l hl) ?_
  by_cases hg : goodB n l = true ∧ guests n = true
  · refine Ev.ite_pos (by rw [hg.1, hg.2]; rfl) ?_
    have hn : 1 ≤ n ∧ n ≤ 5 := by simpa [guests] using hg.2
    by_cases h2 : n < 2
    · rw [if_neg (fun h => by omega)]
      exact Ev.ite_pos h2 (Ev.now _)
    · refine Ev.ite_neg h2 ?_
      rw [impl_within.ok]
      simp only [Option.bind_some]
      by_cases hm : 0 ≤ m ∧ m ≤ 8
      · refine Ev.ite_pos (by simpa using hm) ?_
        rw [impl_within.ok]
        simp only [Option.bind_some]
        by_cases hz : 0 ≤ z ∧ z ≤ 9999
        · refine Ev.ite_pos (by simpa using hz) (Ev.ite_pos hn.2 ?_)
          rw [if_pos ⟨hg.1, ⟨by omega, hn.2⟩, hm, hz⟩]
          obtain ⟨N, rfl⟩ := Int.eq_ofNat_of_zero_le (show 0 ≤ n by omega)
          obtain ⟨M, rfl⟩ := Int.eq_ofNat_of_zero_le hm.1
          have h66 := goodB_len66 hg.1
          exact Ev.bind (impl_Party_table.ok N (by omega) l (by omega) (goodB_pin hg.1)) (mk_impl_loop N (by omega) (by omega) l hg.1 M (by omega) M 0 z [] (by omega) rfl (by omega) (by omega))
        · refine Ev.ite_neg (by simpa using hz) ?_
          rw [if_neg (fun h => hz h.2.2.2)]
          exact Ev.now _
      · refine Ev.ite_neg (by simpa using hm) ?_
        rw [if_neg (fun h => hm h.2.2.1)]
        exact Ev.now _
  · refine Ev.ite_neg (by simpa using hg) ?_
    rw [if_neg (fun h => hg ⟨h.1, by simp [guests]; omega⟩)]
    exact Ev.now _

theorem laws_eqClueS.refl (l : List S70) (hl : l.length ≤ 1048576) (k : Nat) (hk : l.length < k) : laws_eqClueS.f k l l = some true := by
  unfold laws_eqClueS.f
  rw [if_pos rfl]
  rw [all_loop (fun k i => laws_eqClueS.l0 k l l i) l.length (fun _ => true) (by omega) 0 ?_ ?_ k hk]
  · simp
  · intro k i h _
    simp only [laws_eqClueS.l0, laws_eqClue.f]
    rw [if_pos (by omega), if_pos (by omega), if_pos (by omega)]
    simp
  · intro k
    simp only [laws_eqClueS.l0]
    rw [if_neg (by omega)]

theorem laws_eqPuzzle.refl (n : Int) (l : List S70) (hl : l.length ≤ 1048576) (k : Nat) (hk : l.length < k) : laws_eqPuzzle.f k n l n l = some true := by
  unfold laws_eqPuzzle.f
  rw [if_pos rfl, laws_eqClueS.refl l hl k hk]; rfl

theorem laws_eqPairS.refl (l : List S105) (hl : l.length ≤ 1048576) (k : Nat) (hk : l.length < k) : laws_eqPairS.f k l l = some true := by
  unfold laws_eqPairS.f
  rw [if_pos rfl]
  rw [all_loop (fun k i => laws_eqPairS.l0 k l l i) l.length (fun _ => true) (by omega) 0 ?_ ?_ k hk]
  · simp
  · intro k i h _
    simp only [laws_eqPairS.l0, laws_eqPair.f]
    rw [if_pos (by omega), if_pos (by omega), if_pos (by omega)]
    simp
  · intro k
    simp only [laws_eqPairS.l0]
    rw [if_neg (by omega)]

theorem laws_eqParty.refl (n : Int) (l : List S105) (hl : l.length ≤ 1048576) (k : Nat) (hk : l.length < k) : laws_eqParty.f k n l n l = some true := by
  unfold laws_eqParty.f
  rw [if_pos rfl, laws_eqPairS.refl l hl k hk]; rfl

-- pairnat
def mkPair (i : Nat) : S105 := ⟨1 + 2 * i, 2 + 2 * i⟩
theorem laws_markPairS.ok (l : List S105) (hl : l.length ≤ 1048576) (k : Nat) (hk : l.length < k) : laws_markPairS.f k l 1 = some (1 + 2 * (l.length : Int), (List.range l.length).map mkPair) := by
  unfold laws_markPairS.f
  refine mark_loop (fun k acc m i => laws_markPairS.l0 k acc m i) mkPair 2 l.length ?_ ?_ k l rfl hk
  · intro k acc i h ha
    have e1 : wrap64 (1 + ((2 : Nat) : Int) * i + 1) = 2 + 2 * i := by rw [wrap_id (by omega) (by omega)]; omega
    have e3 : wrap64 (2 + 2 * (i : Int) + 1) = 1 + ((2 : Nat) : Int) * ((i + 1 : Nat) : Int) := by rw [wrap_id (by omega) (by omega)]; omega
    have e4 : wrap64 ((i : Int) + 1) = ((i + 1 : Nat) : Int) := by rw [wrap_id (by omega) (by omega)]; omega
    have hr : ∀ (q : List S105) (x : S105), q.length = l.length → rd_T105 (q.set i x) (i : Int) = x := by
      intro q x hq
      rw [rd_T105_nat _ i (by simp; omega)]; simp
    simp only [laws_markPairS.l0, e1, e3, e4, Int.toNat_natCast, Option.bind_some]
    rw [if_pos (by omega), if_pos (by omega), hr acc _ ha]
    simp only [List.set_set]
    simp only [mkPair]
    rfl
  · intro k acc m ha
    simp only [laws_markPairS.l0]
    rw [if_neg (by omega)]

theorem laws_markParty.ok (n : Int) (l : List S105) (hl : l.length ≤ 1048576) (k : Nat) (hk : l.length < k) : laws_markParty.f k n l 1 = some (1 + 2 * (l.length : Int), (List.range l.length).map mkPair) := by
  unfold laws_markParty.f
  rw [laws_markPairS.ok l hl k hk]; rfl

theorem rd_T70_nat (l : List S70) (i : Nat) (h : i < l.length) : rd_T70 l (i : Int) = l[i] := by simp [rd_T70, List.getD, h]
def mkClue (i : Nat) : S70 := ⟨1 + 3 * i, 2 + 3 * i, 3 + 3 * i⟩
theorem laws_markClueS.ok (l : List S70) (hl : l.length ≤ 1048576) (k : Nat) (hk : l.length < k) : laws_markClueS.f k l 1 = some (1 + 3 * (l.length : Int), (List.range l.length).map mkClue) := by
  unfold laws_markClueS.f
  refine mark_loop (fun k acc m i => laws_markClueS.l0 k acc m i) mkClue 3 l.length ?_ ?_ k l rfl hk
  · intro k acc i h ha
    have e1 : wrap64 (1 + ((3 : Nat) : Int) * i + 1) = 2 + 3 * i := by rw [wrap_id (by omega) (by omega)]; omega
    have e2 : wrap64 (2 + 3 * (i : Int) + 1) = 3 + 3 * i := by rw [wrap_id (by omega) (by omega)]; omega
    have e3 : wrap64 (3 + 3 * (i : Int) + 1) = 1 + ((3 : Nat) : Int) * ((i + 1 : Nat) : Int) := by rw [wrap_id (by omega) (by omega)]; omega
    have e4 : wrap64 ((i : Int) + 1) = ((i + 1 : Nat) : Int) := by rw [wrap_id (by omega) (by omega)]; omega
    have hr : ∀ (q : List S70) (x : S70), q.length = l.length → rd_T70 (q.set i x) (i : Int) = x := by
      intro q x hq
      rw [rd_T70_nat _ i (by simp; omega)]; simp
    simp only [laws_markClueS.l0, e1, e2, e3, e4, Int.toNat_natCast, Option.bind_some]
    rw [if_pos (by omega), if_pos (by omega), hr acc _ ha]
    simp only [List.set_set]
    rw [hr acc _ ha]
    simp only [mkClue]
    rfl
  · intro k acc m ha
    simp only [laws_markClueS.l0]
    rw [if_neg (by omega)]

theorem laws_markPuzzle.ok (n : Int) (l : List S70) (hl : l.length ≤ 1048576) (k : Nat) (hk : l.length < k) : laws_markPuzzle.f k n l 1 = some (1 + 3 * (l.length : Int), (List.range l.length).map mkClue) := by
  unfold laws_markPuzzle.f
  rw [laws_markClueS.ok l hl k hk]; rfl

theorem laws_heldClueS.ok (n : Nat) (hl : n ≤ 1048576) (k : Nat) (hk : n < k) : laws_heldClueS.f k ((List.range n).map mkClue) 1 = some (1 + 3 * (n : Int)) := by
  unfold laws_heldClueS.f
  refine held_loop (fun k m i => laws_heldClueS.l0 k ((List.range n).map mkClue) m i) 3 n ?_ ?_ k hk
  · intro k i h
    have e1 : wrap64 (1 + ((3 : Nat) : Int) * i + 1) = 2 + 3 * i := by rw [wrap_id (by omega) (by omega)]; omega
    have e2 : wrap64 (2 + 3 * (i : Int) + 1) = 3 + 3 * i := by rw [wrap_id (by omega) (by omega)]; omega
    have e3 : wrap64 (3 + 3 * (i : Int) + 1) = 1 + ((3 : Nat) : Int) * ((i + 1 : Nat) : Int) := by rw [wrap_id (by omega) (by omega)]; omega
    have e4 : wrap64 ((i : Int) + 1) = ((i + 1 : Nat) : Int) := by rw [wrap_id (by omega) (by omega)]; omega
    simp only [laws_heldClueS.l0, e1, e2, e3, e4]
    rw [if_pos (by simp; omega), if_pos (by omega), rd_T70_nat _ i (by simp; omega)]
    simp [mkClue]
  · intro k m
    simp only [laws_heldClueS.l0]
    rw [if_neg (by simp)]

theorem laws_heldPuzzle.ok (p : Int) (n : Nat) (hl : n ≤ 1048576) (k : Nat) (hk : n < k) : laws_heldPuzzle.f k p ((List.range n).map mkClue) 1 = some (1 + 3 * (n : Int)) := by
  unfold laws_heldPuzzle.f
  rw [laws_heldClueS.ok n hl k hk]
  simp only [Option.bind_some]
  rw [if_neg (by omega)]

end Go.Proofs.YtjpfbkkikcpmhaaDoor.PFnExactMakePuzzle
namespace Go.Proofs.YtjpfbkkikcpmhaaDoor
open Go.RowKit Go.Proofs.YtjpfbkkikcpmhaaDoor.Base Go.Proofs.YtjpfbkkikcpmhaaDoor.PFnExactMakePuzzle Go.Proofs.YtjpfbkkikcpmhaaDoorW.PrintWords Go.Proofs.YtjpfbkkikcpmhaaDoorW.PrintLast Go.Proofs.YtjpfbkkikcpmhaaDoorW.PrintMore
theorem fnExactMakePuzzle_pure : fnExactMakePuzzle.Pure := by
  intro n l m z hn hl hm_ hz_
  have hm := hl.1
  refine Ev.rounds (g := fun k => laws_FnExactMakePuzzle.f k n l m z) ?_
  unfold laws_FnExactMakePuzzle.f
  rw [laws_szParty.ok n l _ (by omega) (by omega) hl.1]
  simp only [Option.bind_some]
  by_cases h0 : (1048576 : Int) - l.length < 0
  · rw [if_pos h0]
    exact Ev.ite_pos (by omega) (Ev.now _)
  · rw [if_neg h0]
    refine Ev.ite_neg (by omega) ?_
    have hlen : l.length ≤ 1048576 := by omega
    have hpl : (prs l).length ≤ 1048576 := by rw [prs_length]; exact hlen
    have ht : Ev (fun k => laws_toParty.f k n l) (n, prs l) := ev_of (l.length + 1) fun k hk => laws_toParty.ok n l hlen k (by omega)
    have hep : Ev (fun k => laws_eqParty.f k n (prs l) n (prs l)) true := ev_of ((prs l).length + 1) fun k hk => laws_eqParty.refl n (prs l) hpl k (by omega)
    have hmp : Ev (fun k => laws_markParty.f k n (prs l) 1) (1 + 2 * ((prs l).length : Int), (List.range (prs l).length).map mkPair) := ev_of ((prs l).length + 1) fun k hk => laws_markParty.ok n (prs l) hpl k (by omega)
    have hs := spec_MakePuzzle.ok n (prs l) m z
    have hi := impl_MakePuzzle.ok n (prs l) hpl m z
    have h9 := makeC_len n (prs l) m z
    generalize makeC n (prs l) m z = x at hs hi h9
    obtain ⟨p, r, b⟩ := x
    simp only at h9
    have hei : Ev (fun k => laws_eqPuzzle.f k p r p r) true := ev_of (r.length + 1) fun k hk => laws_eqPuzzle.refl p r (by omega) k (by omega)
    have hmi : Ev (fun k => laws_markPuzzle.f k p r 1) (1 + 3 * (r.length : Int), (List.range r.length).map mkClue) := ev_of (r.length + 1) fun k hk => laws_markPuzzle.ok p r (by omega) k (by omega)
    have hhi : Ev (fun k => laws_heldPuzzle.f k p ((List.range r.length).map mkClue) 1) (1 + 3 * (r.length : Int)) := ev_of (r.length + 1) fun k hk => laws_heldPuzzle.ok p r.length (by omega) k (by omega)
    refine Ev.bind ht (Ev.bind hs (Ev.bind ht (Ev.bind hi (Ev.bind hei (Ev.ite_pos rfl (Ev.ite_neg (by simp) (Ev.bind ht (Ev.bind hep (Ev.ite_pos rfl (Ev.bind hmp (Ev.ite_neg ?_ ?_)))))))))))
    · simp only; omega
    refine Ev.bind hei (Ev.ite_pos rfl (Ev.bind hmi (Ev.bind hhi (Ev.ite_neg (by omega) (Ev.ite_pos rfl (Ev.bind ht (Ev.bind hi (Ev.bind hei (Ev.ite_pos rfl (Ev.ite_neg (by simp) (Ev.bind hhi (Ev.ite_neg (by omega) (Ev.ite_pos rfl (Ev.now _))))))))))))))
theorem fnExactMakePuzzle_holds : Rows.FnExactMakePuzzleCardSaid := fnExactMakePuzzle.proved fnExactMakePuzzle_pure
end Go.Proofs.YtjpfbkkikcpmhaaDoor
