/- FnExactCountPairings: whatever the party, the program counts its pairings as the reference does, and leaves the party as it was. Condition: the table of math/bits lies as its initialiser lays it (the card's own). -/
import Derived.Test.YtjpfbkkikcpmhaaDoorLawFnExactCountPairings
import Derived.Test.YtjpfbkkikcpmhaaDoorPBase
import Derived.Test.YtjpfbkkikcpmhaaDoorGraph
namespace Go.Proofs.YtjpfbkkikcpmhaaDoor.PFnExactCountPairings
set_option linter.unusedVariables false
set_option linter.unusedSimpArgs false
open Go.RowKit Go.Proofs.YtjpfbkkikcpmhaaDoor.Base Go.Proofs.YtjpfbkkikcpmhaaDoor.PFnExactCountPairings Go.Proofs.YtjpfbkkikcpmhaaDoorW.PrintWords Go.Proofs.YtjpfbkkikcpmhaaDoorW.PrintLast Go.Proofs.YtjpfbkkikcpmhaaDoorW.PrintMore
theorem laws_szPairS.ok (l : List S118) (n : Int) (h0 : 0 ≤ n) (h1 : n ≤ 1048576) (hl : l.length ≤ maxLen) : laws_szPairS.f l n = some (if n - l.length < 0 then -1 else n - l.length) := by
  unfold maxLen at hl
  unfold laws_szPairS.f
  rw [wrap_id (by omega) (by omega)]
  split <;> rfl

theorem laws_szParty.ok (p : Int) (l : List S118) (n : Int) (h0 : 0 ≤ n) (h1 : n ≤ 1048576) (hl : l.length ≤ maxLen) : laws_szParty.f p l n = some (if n - l.length < 0 then -1 else n - l.length) := by
  unfold laws_szParty.f
  rw [laws_szPairS.ok l n h0 h1 hl]
  simp only [Option.bind_some]
  by_cases h : n - (l.length : Int) < 0
  · simp [h]
  · simp [h]

theorem rd_T118_nat (l : List S118) (i : Nat) (h : i < l.length) : rd_T118 l (i : Int) = l[i] := by simp [rd_T118, List.getD, h]
def prs (l : List S118) : List S105 := l.map fun x => ⟨x.f0, x.f1⟩
theorem prs_length (l : List S118) : (prs l).length = l.length := by simp [prs]
theorem laws_toPairS.ok (l : List S118) (hl : l.length ≤ 1048576) (k : Nat) (hk : l.length < k) : laws_toPairS.f k l = some (prs l) := by
  unfold laws_toPairS.f
  rw [if_pos (by omega), if_pos (by omega)]
  refine fill_loop (fun k acc i => laws_toPairS.l0 k l acc i) _ l _ (by omega) 0 ?_ ?_ k hk
  · intro k acc i h _ ha
    simp only [laws_toPairS.l0, laws_toPair.f, Option.bind_some]
    rw [if_pos (by omega), if_pos (by omega), if_pos (by omega), rd_T118_nat l i h]
    rfl
  · intro k acc ha
    simp only [laws_toPairS.l0]
    rw [if_neg (by omega)]

theorem laws_toParty.ok (n : Int) (l : List S118) (hl : l.length ≤ 1048576) (k : Nat) (hk : l.length < k) : laws_toParty.f k n l = some (n, prs l) := by
  unfold laws_toParty.f
  rw [laws_toPairS.ok l hl k hk]; rfl

theorem laws_eqPairS.refl (l : List S105) (hl : l.length ≤ 1048576) (k : Nat) (hk : l.length < k) : laws_eqPairS.f k l l = some true := by
  unfold laws_eqPairS.f
  rw [if_pos rfl]
  rw [all_loop (fun k i => laws_eqPairS.l0 k l l i) l.length (fun _ => true) (by omega) 0 ?_ ?_ k hk]
  · simp
  · intro k i h _
    simp only [laws_eqPairS.l0, laws_eqPair.f]
    rw [if_pos (by omega), if_pos (by omega), if_pos (by omega)]
    simp
  · intro k
    simp only [laws_eqPairS.l0]
    rw [if_neg (by omega)]

theorem laws_eqParty.refl (n : Int) (l : List S105) (hl : l.length ≤ 1048576) (k : Nat) (hk : l.length < k) : laws_eqParty.f k n l n l = some true := by
  unfold laws_eqParty.f
  rw [if_pos rfl, laws_eqPairS.refl l hl k hk]; rfl

theorem spec_l1In.ok (n lo hi : Int) : spec_l1In.f n lo hi = some (decide (lo ≤ n ∧ n ≤ hi)) := by
  unfold spec_l1In.f
  by_cases h : lo ≤ n <;> simp [h]

theorem spec_paPeople.ok (n : Int) : spec_paPeople.f n = some (crowd n) := by unfold spec_paPeople.f crowd; simp [spec_l1In.ok]

def lessB (x y : S105) : Bool := decide (x.f0 < y.f0 ∨ x.f0 = y.f0 ∧ x.f1 < y.f1)
theorem spec_paLess.ok (a b c d : Int) : spec_paLess.f a b c d = some (lessB ⟨a, b⟩ ⟨c, d⟩) := by
  unfold spec_paLess.f lessB
  by_cases h : a < c
  · simp [h]
  · by_cases h2 : a = c
    · subst h2; simp
    · simp [h, h2]

theorem rd_T105_nat (l : List S105) (i : Nat) (h : i < l.length) : rd_T105 l (i : Int) = l[i] := by simp [rd_T105, List.getD, h]
-- pairnat
/-- What is asked of pair number i of a party of n people. -/
def stepB (n : Int) (l : List S105) (i : Nat) : Bool := decide (0 ≤ (l.getD i z105).f0 ∧ (l.getD i z105).f0 < (l.getD i z105).f1 ∧ (l.getD i z105).f1 < n) && (i == 0 || lessB (l.getD (i - 1) z105) (l.getD i z105))
/-- n and l are a party. -/
def goodB (n : Int) (l : List S105) : Bool := crowd n && (List.range l.length).all (stepB n l)
theorem goodB_people {n : Int} {l : List S105} (h : goodB n l = true) : 0 ≤ n ∧ n ≤ 12 := by
  unfold goodB crowd at h
  simp only [Bool.and_eq_true, decide_eq_true_eq] at h
  exact h.1
theorem goodB_step {n : Int} {l : List S105} (h : goodB n l = true) (i : Nat) (hi : i < l.length) : (0 ≤ l[i].f0 ∧ l[i].f0 < l[i].f1 ∧ l[i].f1 < n) ∧ (∀ h0 : 0 < i, l[i - 1].f0 < l[i].f0 ∨ l[i - 1].f0 = l[i].f0 ∧ l[i - 1].f1 < l[i].f1) := by
  unfold goodB at h
  simp only [Bool.and_eq_true, List.all_eq_true] at h
  have := h.2 i (List.mem_range.2 hi)
  unfold stepB lessB at this
  simp only [List.getD, List.getElem?_eq_getElem hi, List.getElem?_eq_getElem (show i - 1 < l.length by omega), Option.getD_some, Bool.and_eq_true, Bool.or_eq_true, decide_eq_true_eq, beq_iff_eq] at this
  refine ⟨this.1, fun h0 => ?_⟩
  rcases this.2 with h | h
  · omega
  · exact h
theorem goodB_len {n : Int} {l : List S105} (h : goodB n l = true) : 2 * (l.length : Int) ≤ n * (n - 1) := by
  refine pairs_bound n l.length (fun i => (l.getD i z105).f0) (fun i => (l.getD i z105).f1) ?_ ?_ (goodB_people h).1
  · intro i hi
    simp only [List.getD, List.getElem?_eq_getElem hi, Option.getD_some]
    exact (goodB_step h i hi).1
  · intro i hi
    simp only [List.getD, List.getElem?_eq_getElem hi, List.getElem?_eq_getElem (show i < l.length by omega), Option.getD_some]
    exact (goodB_step h (i + 1) hi).2 (by omega)
theorem goodB_len66 {n : Int} {l : List S105} (h : goodB n l = true) : l.length ≤ 66 := by
  have h1 := goodB_len h
  have h2 := goodB_people h
  obtain ⟨m, rfl⟩ := Int.eq_ofNat_of_zero_le h2.1
  obtain rfl | rfl | rfl | rfl | rfl | rfl | rfl | rfl | rfl | rfl | rfl | rfl | rfl : m = 0 ∨ m = 1 ∨ m = 2 ∨ m = 3 ∨ m = 4 ∨ m = 5 ∨ m = 6 ∨ m = 7 ∨ m = 8 ∨ m = 9 ∨ m = 10 ∨ m = 11 ∨ m = 12 := by omega
  all_goals omega
-- pairnat
theorem stepB_eq (n : Int) (l : List S105) (i : Nat) (hi : i < l.length) : stepB n l i = (decide (0 ≤ l[i].f0 ∧ l[i].f0 < l[i].f1 ∧ l[i].f1 < n) && (i == 0 || lessB l[i - 1] l[i])) := by
  unfold stepB
  simp only [List.getD, List.getElem?_eq_getElem hi, List.getElem?_eq_getElem (show i - 1 < l.length by omega), Option.getD_some]
theorem half (n : Int) (h0 : 0 ≤ n) (h1 : n ≤ 12) : wrap64 (Int.tdiv (wrap64 (n * (wrap64 (n - 1)))) 2) = n * (n - 1) / 2 := by
  obtain ⟨m, rfl⟩ := Int.eq_ofNat_of_zero_le h0
  have : m ≤ 12 := by omega
  obtain rfl | rfl | rfl | rfl | rfl | rfl | rfl | rfl | rfl | rfl | rfl | rfl | rfl : m = 0 ∨ m = 1 ∨ m = 2 ∨ m = 3 ∨ m = 4 ∨ m = 5 ∨ m = 6 ∨ m = 7 ∨ m = 8 ∨ m = 9 ∨ m = 10 ∨ m = 11 ∨ m = 12 := by omega
  all_goals (unfold wrap64; decide)
theorem spec_paGood.ok (n : Int) (l : List S105) (k : Nat) (hk : 70 ≤ k) : spec_paGood.f k n l = some (goodB n l) := by
  obtain ⟨k, rfl⟩ : ∃ m, k = m + 1 := ⟨k - 1, by omega⟩
  unfold spec_paGood.f
  rw [spec_paPeople.ok]
  simp only [Option.bind_some]
  by_cases hn : crowd n = true
  · have hc : 0 ≤ n ∧ n ≤ 12 := by simpa [crowd] using hn
    rw [if_pos hn, half n hc.1 hc.2]
    simp only [spec_paGood.j0]
    by_cases hl : (l.length : Int) > n * (n - 1) / 2
    · rw [if_pos (by simpa using hl)]
      congr 1
      symm
      rw [Bool.eq_false_iff]
      intro h
      have := goodB_len h
      omega
    · rw [if_neg (by simpa using hl)]
      have h66 : l.length ≤ 66 := by
        obtain ⟨m, rfl⟩ := Int.eq_ofNat_of_zero_le hc.1
        have : m ≤ 12 := by omega
        obtain rfl | rfl | rfl | rfl | rfl | rfl | rfl | rfl | rfl | rfl | rfl | rfl | rfl : m = 0 ∨ m = 1 ∨ m = 2 ∨ m = 3 ∨ m = 4 ∨ m = 5 ∨ m = 6 ∨ m = 7 ∨ m = 8 ∨ m = 9 ∨ m = 10 ∨ m = 11 ∨ m = 12 := by omega
        all_goals omega
      rw [all_loop (fun k i => spec_paGood.l0 k l (l.length : Int) i n l) l.length (stepB n l) (by omega) 0 ?_ ?_ k (by omega)]
      · unfold goodB; rw [hn]; rfl
      · intro k i h _
        have e1 : wrap64 (n - 1) = n - 1 := wrap_id (by omega) (by omega)
        simp only [spec_paGood.l0]
        rw [if_pos (by omega), if_pos (by omega), if_pos (by omega), rd_T105_nat l i h, spec_l1In.ok]
        simp only [Option.bind_some, e1]
        rw [stepB_eq n l i h]
        by_cases hA : 0 ≤ l[i].f0 ∧ l[i].f0 ≤ n - 1
        · have e2 : wrap64 (l[i].f0 + 1) = l[i].f0 + 1 := wrap_id (by omega) (by omega)
          rw [if_pos (by simpa using hA), spec_l1In.ok, e2]
          simp only [Option.bind_some]
          by_cases hB : l[i].f0 + 1 ≤ l[i].f1 ∧ l[i].f1 ≤ n - 1
          · rw [if_pos (by simpa using hB), decide_eq_true (show 0 ≤ l[i].f0 ∧ l[i].f0 < l[i].f1 ∧ l[i].f1 < n from ⟨by omega, by omega, by omega⟩)]
            simp only [Bool.true_and]
            rcases Nat.eq_zero_or_pos i with rfl | hi
            · rw [if_neg (by simp)]; simp
            · have e3 : wrap64 ((i : Int) - 1) = ((i - 1 : Nat) : Int) := by rw [wrap_id (by omega) (by omega)]; omega
              rw [if_pos (by omega), e3, if_pos (by omega), if_pos (by omega), rd_T105_nat l (i - 1) (by omega), spec_paLess.ok]
              simp only [Option.bind_some]
              rw [show (i == 0) = false from by simp; omega, Bool.false_or]
          · rw [if_neg (by simpa using hB), decide_eq_false (show ¬ (0 ≤ l[i].f0 ∧ l[i].f0 < l[i].f1 ∧ l[i].f1 < n) from by omega)]; simp
        · rw [if_neg (by simpa using hA), decide_eq_false (show ¬ (0 ≤ l[i].f0 ∧ l[i].f0 < l[i].f1 ∧ l[i].f1 < n) from by omega)]; simp
      · intro k
        simp only [spec_paGood.l0]
        rw [if_neg (by omega)]
  · have hn : crowd n = false := by simpa using hn
    rw [hn, if_neg (by simp)]
    simp [spec_paGood.j0, goodB, hn]

theorem rdL_tabB (n : Nat) (F : Nat → Nat → Bool) (a : Nat) (h : a < n) : rd_L4 (tabB n F) (a : Int) = (List.range n).map (F a) := by
  simp only [rd_L4, Int.toNat_natCast]
  exact tabB_getD n F a h
/-- Two people are friends. -/
def adj (l : List S105) (a b : Nat) : Bool := l.any fun x => decide (x.f0.toNat = a ∧ x.f1.toNat = b ∨ x.f1.toNat = a ∧ x.f0.toNat = b)
theorem adj_symm (l : List S105) (a b : Nat) : adj l a b = adj l b a := by
  unfold adj
  congr 1
  funext x
  rw [decide_eq_decide]
  constructor <;> intro h <;> omega
/-- All pairs are of people below n. -/
def pin (n : Nat) (l : List S105) : Prop := ∀ x ∈ l, 0 ≤ x.f0 ∧ x.f0 < n ∧ 0 ≤ x.f1 ∧ x.f1 < n
-- pairnat
theorem adj_take (l : List S105) (i : Nat) (hi : i < l.length) : adj (l.take (i + 1)) = upd (upd (adj (l.take i)) l[i].f0.toNat l[i].f1.toNat true) l[i].f1.toNat l[i].f0.toNat true := by
  funext x y
  unfold adj upd
  rw [List.take_succ_eq_append_getElem hi, List.any_append]
  simp only [List.any_cons, List.any_nil, Bool.or_false]
  by_cases h1 : x = l[i].f1.toNat ∧ y = l[i].f0.toNat
  · rw [if_pos h1, decide_eq_true (by omega), Bool.or_true]
  · by_cases h2 : x = l[i].f0.toNat ∧ y = l[i].f1.toNat
    · rw [if_neg h1, if_pos h2, decide_eq_true (by omega), Bool.or_true]
    · rw [if_neg h1, if_neg h2, decide_eq_false (by omega), Bool.or_false]
theorem tabB_none (n : Nat) : List.replicate n (List.replicate n false) = tabB n (adj []) := by
  apply List.ext_getElem (by simp [tabB])
  intro i h1 h2
  simp only [List.getElem_replicate, tabB, List.getElem_map]
  apply List.ext_getElem (by simp)
  intro j g1 g2
  simp [adj]
theorem spec_paTable.ok (n : Nat) (hn : n ≤ 12) (l : List S105) (hl : l.length ≤ 1048576) (hp : pin n l) : Ev (fun k => spec_paTable.f k (n : Int) l) (tabB n (adj l)) := by
  have h1 : Ev (fun k => spec_paTable.l1 k (tabB n (adj (l.take 0))) l (l.length : Int) ((0 : Nat) : Int)) (tabB n (adj l)) := by
    refine up_loop (P := fun i => Ev (fun k => spec_paTable.l1 k (tabB n (adj (l.take i))) l (l.length : Int) (i : Int)) (tabB n (adj l))) (n := l.length) ?_ ?_ 0 (Nat.zero_le _)
    · refine Ev.step (f := fun _ => some (tabB n (adj l))) (fun k => ?_) (Ev.now _)
      simp only [spec_paTable.l1]
      rw [if_neg (by omega), List.take_length]
    · intro i hi h
      refine Ev.step (fun k => ?_) h
      obtain ⟨q0, q1, q2, q3⟩ := hp l[i] (List.getElem_mem hi)
      obtain ⟨a, ea⟩ := Int.eq_ofNat_of_zero_le q0
      obtain ⟨b, eb⟩ := Int.eq_ofNat_of_zero_le q2
      have ha : a < n := by omega
      have hb : b < n := by omega
      simp only [spec_paTable.l1, Option.bind_some]
      rw [if_pos (by omega), if_pos (by omega), if_pos (by omega), rd_T105_nat l i hi, ea, eb, rdL_tabB n _ a ha, if_pos (by omega), if_pos (by rw [tabB_length]; omega), if_pos (by omega), if_pos (by simp; omega), if_pos (by rw [tabB_length]; omega)]
      simp only [Int.toNat_natCast]
      rw [tabB_set n _ a b true ha, rdL_tabB n _ b hb, if_pos (by simp; omega), tabB_set n _ b a true hb, nat_succ i (by omega), adj_take l i hi, ea, eb]
      simp only [Int.toNat_natCast]
  unfold spec_paTable.f
  have h0 := up_loop (P := fun i => Ev (fun k => spec_paTable.l0 k (List.replicate i (List.replicate n false)) (i : Int) (n : Int) l) (tabB n (adj l))) (n := n) (by
      refine Ev.step (fun k => ?_) h1
      simp only [spec_paTable.l0]
      rw [if_neg (by omega), tabB_none]
      rfl) (by
      intro i hi h
      refine Ev.step (fun k => ?_) h
      simp only [spec_paTable.l0]
      rw [if_pos (by omega), if_pos (by omega), if_pos (by omega), if_pos (by simp; omega), nat_succ i (by omega), List.replicate_succ']
      rfl) 0 (Nat.zero_le _)
  exact h0

/-- What is left of a set without two. -/
def rem2 (p : Nat → Bool) (a b : Nat) : Nat → Bool := fun i => p i && (i != a) && (i != b)
/-- How many pairings the people of a set have. -/
def pmc (n : Nat) (F : Nat → Nat → Bool) : Nat → (Nat → Bool) → Nat
  | 0, _ => 1
  | m + 1, p => match (List.range n).filter p with
    | [] => 1
    | a :: _ => (((List.range n).filter fun y => F a y && p y).map fun b => pmc n F m (rem2 p a b)).sum
theorem least (p : Nat → Bool) : ∀ n : Nat, (∃ a, a < n ∧ p a = true ∧ ∀ i, i < a → p i = false) ∨ (∀ i, i < n → p i = false)
  | 0 => .inr (fun i h => absurd h (Nat.not_lt_zero i))
  | n + 1 => by
    rcases least p n with ⟨a, h1, h2, h3⟩ | h
    · exact .inl ⟨a, by omega, h2, h3⟩
    · cases hp : p n with
      | true => exact .inl ⟨n, by omega, hp, h⟩
      | false =>
        refine .inr (fun i hi => ?_)
        by_cases e : i = n
        · rw [e]; exact hp
        · exact h i (by omega)
theorem filter_none (p : Nat → Bool) (n : Nat) (h : ∀ i, i < n → p i = false) : (List.range n).filter p = [] := by
  rw [List.filter_eq_nil_iff]
  intro i hi
  rw [h i (List.mem_range.1 hi)]
  simp
theorem pmc_none (n : Nat) (F : Nat → Nat → Bool) (m : Nat) (p : Nat → Bool) (h : ∀ i, i < n → p i = false) : pmc n F m p = 1 := by
  cases m with
  | zero => rfl
  | succ m => unfold pmc; rw [filter_none p n h]
theorem pmc_some (n : Nat) (F : Nat → Nat → Bool) (m : Nat) (p : Nat → Bool) (a : Nat) (ha : a < n) (hp : p a = true) (hl : ∀ i, i < a → p i = false) : pmc n F (m + 1) p = (((List.range n).filter fun y => F a y && p y).map fun b => pmc n F m (rem2 p a b)).sum := by
  rw [pmc, filter_least p a hp hl n ha]
theorem filter_behind (q : Nat → Bool) (n a : Nat) (ha : a < n) (h : ∀ y, y ≤ a → q y = false) : (List.range n).filter q = (List.range' (a + 1) (n - (a + 1))).filter q := by
  have e : List.range n = List.range' 0 (a + 1) ++ List.range' (a + 1) (n - (a + 1)) := by
    rw [List.range_eq_range', show n = (a + 1) + (n - (a + 1)) from by omega]
    rw [show List.range' (a + 1) (a + 1 + (n - (a + 1)) - (a + 1)) = List.range' (0 + (a + 1)) (n - (a + 1)) from by rw [Nat.zero_add, Nat.add_sub_cancel_left]]
    rw [List.range'_append_1]
  rw [e, List.filter_append]
  have : (List.range' 0 (a + 1)).filter q = [] := by
    rw [List.filter_eq_nil_iff]
    intro i hi
    rw [h i (by have := List.mem_range'_1.1 hi; omega)]
    simp
  rw [this, List.nil_append]
theorem rem2_len (n : Nat) (p : Nat → Bool) (a b m : Nat) (ha : a < n) (hp : p a = true) (hl : ∀ i, i < a → p i = false) (h : ((List.range n).filter p).length ≤ m + 1) : ((List.range n).filter (rem2 p a b)).length ≤ m := by
  rw [filter_least p a hp hl n ha] at h
  have e : (List.range n).filter (rem2 p a b) = ((List.range n).filter fun i => p i && (i != a)).filter fun i => i != b := by
    rw [List.filter_filter]
    apply List.filter_congr
    intro i _
    unfold rem2
    rw [Bool.and_comm]
  rw [e]
  have := List.length_filter_le (fun i => i != b) ((List.range n).filter fun i => p i && (i != a))
  simp at h
  omega
theorem wrap_wrap (x y : Int) : wrap64 (wrap64 x + y) = wrap64 (x + y) := by unfold wrap64; omega
theorem wrap_twice (x : Int) : wrap64 (wrap64 x) = wrap64 x := by unfold wrap64; omega
-- pmc
/-- Who is in a pair: all that a set does not have. -/
def dn (n : Nat) (p : Nat → Bool) : List Bool := (List.range n).map fun i => !p i
theorem dn_congr (n : Nat) (p q : Nat → Bool) (h : ∀ i, i < n → p i = q i) : dn n p = dn n q := by
  unfold dn
  apply List.map_congr_left
  intro i hi
  rw [h i (List.mem_range.1 hi)]
theorem dn_set (n : Nat) (p : Nat → Bool) (a : Nat) (v : Bool) : (dn n p).set a v = dn n (fun i => if i = a then !v else p i) := by
  unfold dn
  apply List.ext_getElem (by simp)
  intro i h1 h2
  rw [List.getElem_set]
  simp only [List.getElem_map, List.getElem_range]
  by_cases e : a = i
  · subst e; simp
  · rw [if_neg e, if_neg (fun h => e h.symm)]
theorem dn_get (n : Nat) (p : Nat → Bool) (b : Nat) (h : b < n) : rdOf false (dn n p) (b : Int) = !p b := row_get n (fun i => !p i) b h
theorem spec_taPair.la_ok (n : Nat) (hn : n ≤ 12) (p : Nat → Bool) (x : Nat) (hx : x ≤ n) (hp : x < n → p x = true) (hl : ∀ i, i < x → p i = false) : ∀ i, i ≤ x → Ev (fun k => spec_taPair.la k n (dn n p) (i : Int)) (x : Int) :=
  up_loop (P := fun i => Ev (fun k => spec_taPair.la k n (dn n p) (i : Int)) (x : Int)) (by
    refine Ev.step (f := fun _ => some (x : Int)) (fun k => ?_) (Ev.now _)
    rw [spec_taPair.la]
    by_cases h : x < n
    · rw [if_pos (by omega), if_pos (by omega), dn_get n p x h, hp h, if_neg (by simp)]
    · rw [if_neg (by omega), if_pos (by omega)]) (by
    intro i hi h
    refine Ev.step (fun k => ?_) h
    rw [spec_taPair.la, if_pos (by omega), if_pos (by omega), dn_get n p i (by omega), hl i hi, if_pos (by simp), nat_succ i (by omega)])
theorem spec_taPair.step (n : Nat) (F : Nat → Nat → Bool) (p : Nat → Bool) (ps : List S105) (c : Int) (Fs : List S105) (k : Nat) : spec_taPair.f (k + 1) n (tabB n F) (dn n p) ps c Fs = (spec_taPair.la k n (dn n p) ((0 : Nat) : Int)).bind fun a => if a = (n : Int) then (if c = 0 then (if ps.length < 8796093022206 then some (dn n p, wrap64 (c + 1), ps) else none) else some (dn n p, wrap64 (c + 1), Fs)) else spec_taPair.l1 k n (tabB n F) ((dn n p).set a.toNat true) ps a (wrap64 (a + 1)) c Fs := by
  rw [spec_taPair.f]
  rfl
theorem spec_taPair.leaf (n : Nat) (hn : n ≤ 12) (F : Nat → Nat → Bool) (p : Nat → Bool) (ps : List S105) (c : Int) (Fs : List S105) (hps : ps.length ≤ 1000) (hnone : ∀ i, i < n → p i = false) : ∃ F', Ev (fun k => spec_taPair.f k n (tabB n F) (dn n p) ps c Fs) (dn n p, wrap64 (c + 1), F') := by
  have h1 := spec_taPair.la_ok n hn p n (Nat.le_refl _) (fun h => absurd h (Nat.lt_irrefl n)) hnone 0 (Nat.zero_le _)
  by_cases c0 : c = 0
  · exact ⟨ps, Ev.step (spec_taPair.step n F p ps c Fs) (Ev.bind h1 (Ev.ite_pos rfl (Ev.ite_pos c0 (Ev.ite_pos (by omega) (Ev.now _)))))⟩
  · exact ⟨Fs, Ev.step (spec_taPair.step n F p ps c Fs) (Ev.bind h1 (Ev.ite_pos rfl (Ev.ite_neg c0 (Ev.now _))))⟩
theorem spec_taPair.ok (n : Nat) (hn : n ≤ 12) (F : Nat → Nat → Bool) (hF : ∀ a, F a a = false) : ∀ (m : Nat) (p : Nat → Bool) (ps : List S105) (c : Int) (Fs : List S105), ((List.range n).filter p).length ≤ m → ps.length + m ≤ 1000 → wrap64 c = c →
    ∃ F', Ev (fun k => spec_taPair.f k n (tabB n F) (dn n p) ps c Fs) (dn n p, wrap64 (c + ((pmc n F m p : Nat) : Int)), F') := by
  intro m
  induction m with
  | zero =>
    intro p ps c Fs hm hps hc
    have hnone : ∀ i, i < n → p i = false := by
      intro i hi
      cases hp : p i with
      | false => rfl
      | true =>
        have : i ∈ (List.range n).filter p := List.mem_filter.2 ⟨List.mem_range.2 hi, hp⟩
        rw [List.length_eq_zero_iff.1 (Nat.le_zero.1 hm)] at this
        cases this
    have h2 := spec_taPair.leaf n hn F p ps c Fs (by omega) hnone
    rw [pmc_none n F 0 p hnone]
    exact h2
  | succ m ih =>
    intro p ps c Fs hm hps hc
    rcases least p n with ⟨a, ha, hpa, hla⟩ | hnone
    · have h1 := spec_taPair.la_ok n hn p a (by omega) (fun _ => hpa) hla 0 (Nat.zero_le _)
      rw [pmc_some n F m p a ha hpa hla, filter_behind (fun y => F a y && p y) n a ha (by
        intro y hy
        by_cases e : y = a
        · subst e; simp [hF]
        · simp [hla y (by omega)])]
      have loop := up_loop (P := fun b => a + 1 ≤ b → ∀ (c : Int) (Fs : List S105), wrap64 c = c → ∃ F', Ev (fun k => spec_taPair.l1 k n (tabB n F) (dn n (fun i => p i && (i != a))) ps (a : Int) (b : Int) c Fs) (dn n p, wrap64 (c + (((((List.range' b (n - b)).filter fun y => F a y && p y).map fun b => pmc n F m (rem2 p a b)).sum : Nat) : Int)), F')) (n := n) (by
          intro _ c Fs hc
          refine ⟨Fs, Ev.step (f := fun _ => some (dn n p, c, Fs)) (fun k => ?_) ?_⟩
          · rw [spec_taPair.l1, if_neg (by omega), Int.toNat_natCast, dn_set]
            congr 2
            apply dn_congr
            intro i hi
            by_cases e : i = a
            · subst e; simp [hpa]
            · simp [e]
          · rw [Nat.sub_self]
            simp only [List.range'_zero, List.filter_nil, List.map_nil, List.sum_nil]
            rw [show c + ((0 : Nat) : Int) = c from by omega, hc]
            exact Ev.now _) (by
          intro b hb h hab c Fs hc
          have hl1 : ∀ k, spec_taPair.l1 (k + 1) n (tabB n F) (dn n (fun i => p i && (i != a))) ps (a : Int) (b : Int) c Fs = if F a b = true then (if (!p b) = true then spec_taPair.l1 k n (tabB n F) (dn n (fun i => p i && (i != a))) ps (a : Int) ((b + 1 : Nat) : Int) c Fs else ((spec_taPair.f k n (tabB n F) (dn n (rem2 p a b)) (ps ++ [⟨(a : Int), (b : Int)⟩]) c Fs).bind fun r => spec_taPair.l1 k n (tabB n F) (r.1.set b false) ps (a : Int) ((b + 1 : Nat) : Int) r.2.1 r.2.2)) else spec_taPair.l1 k n (tabB n F) (dn n (fun i => p i && (i != a))) ps (a : Int) ((b + 1 : Nat) : Int) c Fs := by
            intro k
            have er : (dn n (fun i => p i && (i != a))).set b true = dn n (rem2 p a b) := by
              rw [dn_set]
              apply dn_congr
              intro i _
              unfold rem2
              by_cases e : i = b
              · subst e; simp
              · simp [e]
            have hab2 : (b != a) = true := by simp; omega
            rw [spec_taPair.l1, if_pos (by omega), if_pos (by omega), if_pos (by rw [tabB_length]; omega), Int.toNat_natCast, Int.toNat_natCast, tabB_getD n F a ha, if_pos (by simp; omega), row_get n (F a) b hb, dn_get n _ b hb, nat_succ b (by omega), hab2, Bool.and_true, if_pos (show ps.length < 8796093022206 by omega), er]
          rw [range'_cons b n hb]
          cases hFb : F a b with
          | false =>
            obtain ⟨F', hF'⟩ := h (by omega) c Fs hc
            refine ⟨F', Ev.step hl1 ?_⟩
            rw [hFb, List.filter_cons_of_neg (by simp [hFb])]
            exact Ev.ite_neg (by simp) hF'
          | true =>
            cases hpb : p b with
            | false =>
              obtain ⟨F', hF'⟩ := h (by omega) c Fs hc
              refine ⟨F', Ev.step hl1 ?_⟩
              rw [hFb, hpb, List.filter_cons_of_neg (by simp [hpb])]
              exact Ev.ite_pos rfl (Ev.ite_pos rfl hF')
            | true =>
              obtain ⟨F1, hF1⟩ := ih (rem2 p a b) (ps ++ [⟨(a : Int), (b : Int)⟩]) c Fs (rem2_len n p a b m ha hpa hla hm) (by simp; omega) hc
              obtain ⟨F', hF'⟩ := h (by omega) (wrap64 (c + ((pmc n F m (rem2 p a b) : Nat) : Int))) F1 (wrap_twice _)
              refine ⟨F', Ev.step hl1 ?_⟩
              rw [hFb, hpb, List.filter_cons_of_pos (by simp [hFb, hpb])]
              refine Ev.ite_pos rfl (Ev.ite_neg (by simp) (Ev.bind hF1 ?_))
              have er : (dn n (rem2 p a b)).set b false = dn n (fun i => p i && (i != a)) := by
                rw [dn_set]
                apply dn_congr
                intro i _
                unfold rem2
                by_cases e : i = b
                · subst e; simp [hpb]; omega
                · simp [e]
              simp only [er]
              rw [List.map_cons, List.sum_cons]
              rw [wrap_wrap] at hF'
              rw [show c + ((pmc n F m (rem2 p a b) + (((List.range' (b + 1) (n - (b + 1))).filter fun y => F a y && p y).map fun b => pmc n F m (rem2 p a b)).sum : Nat) : Int) = c + ((pmc n F m (rem2 p a b) : Nat) : Int) + (((((List.range' (b + 1) (n - (b + 1))).filter fun y => F a y && p y).map fun b => pmc n F m (rem2 p a b)).sum : Nat) : Int) from by omega]
              exact hF')
      obtain ⟨F', hF'⟩ := loop (a + 1) (by omega) (Nat.le_refl _) c Fs hc
      refine ⟨F', Ev.step (spec_taPair.step n F p ps c Fs) (Ev.bind h1 ?_)⟩
      refine Ev.ite_neg (by omega) ?_
      have er : (dn n p).set a true = dn n (fun i => p i && (i != a)) := by
        rw [dn_set]
        apply dn_congr
        intro i _
        by_cases e : i = a
        · subst e; simp
        · simp [e]
      rw [Int.toNat_natCast, er, nat_succ a (by omega)]
      exact hF'
    · have h2 := spec_taPair.leaf n hn F p ps c Fs (by omega) hnone
      rw [pmc_none n F (m + 1) p hnone]
      exact h2

theorem spec_taPairs.ok (n : Nat) (hn : n ≤ 12) (l : List S105) (hl : l.length ≤ 1048576) (hp : pin n l) (hF : ∀ a, adj l a a = false) : ∃ F', Ev (fun k => spec_taPairs.f k (n : Int) l) (wrap64 ((pmc n (adj l) n (fun _ => true) : Nat) : Int), F') := by
  obtain ⟨F', h⟩ := spec_taPair.ok n hn (adj l) hF n (fun _ => true) [] 0 [] (Nat.le_trans (List.length_filter_le _ _) (by simp)) (by simp; omega) wrap_zero
  have h1 := spec_paTable.ok n hn l hl hp
  refine ⟨F', ?_⟩
  unfold spec_taPairs.f
  refine Ev.bind h1 (Ev.ite_pos (by omega) (Ev.ite_pos (by omega) ?_))
  have e : List.replicate ((n : Int)).toNat false = dn n (fun _ => true) := by
    rw [Int.toNat_natCast]
    apply List.ext_getElem (by simp [dn])
    intro i h1 h2
    simp [dn]
  rw [e, Int.toNat_natCast]
  refine Ev.bind h ?_
  simp only [Int.zero_add]
  exact Ev.now _

theorem goodB_pin {n : Int} {l : List S105} (h : goodB n l = true) : pin n.toNat l := by
  intro x hx
  obtain ⟨i, hi, rfl⟩ := List.getElem_of_mem hx
  have := (goodB_step h i hi).1
  have := goodB_people h
  omega
theorem adj_irr {n : Int} {l : List S105} (h : goodB n l = true) (a : Nat) : adj l a a = false := by
  unfold adj
  rw [List.any_eq_false]
  intro x hx
  obtain ⟨i, hi, rfl⟩ := List.getElem_of_mem hx
  have := (goodB_step h i hi).1
  simp only [decide_eq_true_eq]
  omega
def countP (n : Int) (l : List S105) : Int × Bool := if goodB n l = true then (wrap64 ((pmc n.toNat (adj l) n.toNat (fun _ => true) : Nat) : Int), true) else (0, false)
theorem spec_CountPairings.ok (n : Int) (l : List S105) : Ev (fun k => spec_CountPairings.f k n l) (countP n l) := by
  unfold spec_CountPairings.f countP
  refine Ev.bind (ev_of 70 fun k hk => spec_paGood.ok n l k hk) ?_
  by_cases hg : goodB n l = true
  · rw [if_pos hg]
    refine Ev.ite_pos hg ?_
    have hp := goodB_people hg
    have h66 := goodB_len66 hg
    obtain ⟨F', h1⟩ := spec_taPairs.ok n.toNat (by omega) l (by omega) (goodB_pin hg) (adj_irr hg)
    rw [Int.toNat_of_nonneg hp.1] at h1
    exact Ev.bind h1 (Ev.now _)
  · rw [if_neg hg]
    exact Ev.ite_neg hg (Ev.now _)

theorem tabI_none (n : Nat) : List.replicate n (0 : Int) = tabI n (adj []) := by
  apply List.ext_getElem (by simp [tabI])
  intro i h1 h2
  have : msk (adj [] i) n = 0 := by
    apply Nat.eq_of_testBit_eq
    intro j
    rw [msk_testBit]
    simp [adj]
  simp [tabI, this]
-- pairnat
theorem impl_Party_table.ok (n : Nat) (hn : n ≤ 12) (l : List S105) (hl : l.length ≤ 1048576) (hp : pin n l) : Ev (fun k => impl_Party_table.f k (n : Int) l) (tabI n (adj l)) := by
  have h1 : Ev (fun k => impl_Party_table.l0 k (tabI n (adj (l.take 0))) l (l.length : Int) ((0 : Nat) : Int)) (tabI n (adj l)) := by
    refine up_loop (P := fun i => Ev (fun k => impl_Party_table.l0 k (tabI n (adj (l.take i))) l (l.length : Int) (i : Int)) (tabI n (adj l))) (n := l.length) ?_ ?_ 0 (Nat.zero_le _)
    · refine Ev.step (f := fun _ => some (tabI n (adj l))) (fun k => ?_) (Ev.now _)
      simp only [impl_Party_table.l0]
      rw [if_neg (by omega), List.take_length]
    · intro i hi h
      refine Ev.step (fun k => ?_) h
      obtain ⟨q0, q1, q2, q3⟩ := hp l[i] (List.getElem_mem hi)
      obtain ⟨a, ea⟩ := Int.eq_ofNat_of_zero_le q0
      obtain ⟨b, eb⟩ := Int.eq_ofNat_of_zero_le q2
      have ha : a < n := by omega
      have hb : b < n := by omega
      simp only [impl_Party_table.l0, Option.bind_some]
      rw [if_pos (by omega), if_pos (by omega), if_pos (by omega), rd_T105_nat l i hi, ea, eb, tabI_rd n _ a ha, if_pos (by omega), if_pos (by rw [tabI_length]; omega), if_pos (by omega), if_pos (by rw [tabI_length]; omega)]
      simp only [Int.toNat_natCast]
      rw [tabI_set n _ a b (by omega) ha hb, tabI_rd n _ b hb, tabI_set n _ b a (by omega) hb ha, nat_succ i (by omega), adj_take l i hi, ea, eb]
      simp only [Int.toNat_natCast]
  unfold impl_Party_table.f
  refine Ev.congr (fun k => ?_) h1
  rw [if_pos (by omega), if_pos (by omega)]
  simp only [Int.toNat_natCast, tabI_none, List.take_zero]
  rfl

theorem cmp_Compare_int.ok (a b : Int) : cmp_Compare_int.f a b = some (if a < b then -1 else if a > b then 1 else 0) := by
  unfold cmp_Compare_int.f cmp_isNaN_int.f
  simp only [Option.bind_some, bne_self_eq_false]
  rw [if_neg (by simp), if_neg (by simp)]
  split <;> (try split) <;> rfl
def cmpI (a b c d : Int) : Int := if a < c then -1 else if a > c then 1 else if b < d then -1 else if b > d then 1 else 0
theorem cmp_Or_int.two (k : Nat) (x y : Int) : cmp_Or_int.f (k + 3) [x, y] = some (if x = 0 then y else x) := by
  unfold cmp_Or_int.f
  simp only [cmp_Or_int.l0, List.length_cons, List.length_nil, rd]
  by_cases hx : x = 0
  · by_cases hy : y = 0
    · simp [hx, hy, wrap_one, wrap_two]
    · simp [hx, hy, wrap_one]
  · simp [hx]
theorem impl_comparePairs.ok (k : Nat) (hk : 3 ≤ k) (a b c d : Int) : impl_comparePairs.f k a b c d = some (cmpI a b c d) := by
  obtain ⟨k, rfl⟩ : ∃ m, k = m + 3 := ⟨k - 3, by omega⟩
  unfold impl_comparePairs.f cmpI
  simp only [cmp_Compare_int.ok, Option.bind_some, cmp_Or_int.two]
  split
  · simp
  · split <;> simp
theorem cmpI_neg (x y : S105) : (cmpI x.f0 x.f1 y.f0 y.f1 ≥ 0) = (lessB x y = false) := by
  unfold cmpI lessB
  rw [eq_iff_iff, decide_eq_false_iff_not]
  split
  · constructor <;> intro h <;> omega
  · split
    · constructor <;> intro h <;> omega
    · split
      · constructor <;> intro h <;> omega
      · split <;> constructor <;> intro h <;> omega

theorem impl_areCrowd.ok (n : Int) : impl_areCrowd.f n = some (crowd n) := by unfold impl_areCrowd.f crowd; simp [impl_within.ok]

theorem impl_IsParty.ok (n : Int) (l : List S105) (hl : l.length ≤ 1048576) (k : Nat) (hk : l.length + 4 < k) : impl_IsParty.f k n l = some (goodB n l) := by
  unfold impl_IsParty.f
  rw [all_loop_fin (fun k i => impl_IsParty.l0 k l (l.length : Int) i n l) l.length (stepB n l) (crowd n) (by omega) 3 ?_ ?_ k (by omega)]
  · unfold goodB; rw [Bool.and_comm]
  · intro k i h hk3
    simp only [impl_IsParty.l0]
    rw [if_pos (by omega), if_pos (by omega), if_pos (by omega), rd_T105_nat l i h, stepB_eq n l i h]
    by_cases h1 : 0 ≤ l[i].f0 ∧ l[i].f0 < l[i].f1 ∧ l[i].f1 < n
    · rw [if_neg (by omega), if_neg (by omega), if_neg (by omega), decide_eq_true h1, Bool.true_and]
      rcases Nat.eq_zero_or_pos i with rfl | hi
      · rw [if_neg (by simp)]; simp
      · have e3 : wrap64 ((i : Int) - 1) = ((i - 1 : Nat) : Int) := by rw [wrap_id (by omega) (by omega)]; omega
        rw [if_pos (by omega), e3, if_pos (by omega), if_pos (by omega), rd_T105_nat l (i - 1) (by omega), impl_comparePairs.ok _ hk3]
        simp only [Option.bind_some, cmpI_neg]
        rw [show (i == 0) = false from by simp; omega, Bool.false_or]
        cases lessB l[i - 1] l[i] <;> rfl
    · rw [decide_eq_false h1, Bool.false_and]
      simp only [Bool.false_eq_true, if_false]
      by_cases a1 : l[i].f0 < 0
      · rw [if_pos a1]
      · rw [if_neg a1]
        by_cases a2 : l[i].f0 ≥ l[i].f1
        · rw [if_pos a2]
        · rw [if_neg a2, if_pos (by omega)]
  · intro k hk3
    simp only [impl_IsParty.l0]
    rw [if_neg (by omega), impl_areCrowd.ok]; rfl

def ints (bs : List Nat) : List Int := bs.map fun (b : Nat) => (b : Int)
theorem ints_length (bs : List Nat) : (ints bs).length = bs.length := by simp [ints]
theorem rd_ints (bs : List Nat) (i : Nat) (h : i < bs.length) : rd (ints bs) (i : Int) = ((bs[i] : Nat) : Int) := by simp [rd, ints, List.getD, h]
-- ints
theorem impl_listed.go : ∀ (m s : Nat) (acc : List Int), (bof s).length = m → s < 65536 → acc.length + m ≤ 1000 → Ev (fun k => impl_listed.l0 k (s : Int) acc) (acc ++ ints (bof s)) := by
  intro m
  induction m with
  | zero =>
    intro s acc hm hs _
    have e := bof_nil s hs (List.length_eq_zero_iff.1 hm)
    rw [List.length_eq_zero_iff.1 hm]
    subst e
    refine Ev.step (f := fun _ => some acc) (fun k => ?_) (by rw [show acc ++ ints [] = acc from by simp [ints]]; exact Ev.now _)
    rw [impl_listed.l0, if_neg (by simp)]
  | succ m ih =>
    intro s acc hm hs ha
    have h0 : s ≠ 0 := by rintro rfl; rw [bof_zero] at hm; simp at hm
    have es := bof_step s h0 hs
    rw [es] at hm ⊢
    have h1 := ih (s &&& (s - 1)) (acc ++ [((Go.Lib.ctz 16 s : Nat) : Int)]) (by simpa using hm) (Nat.lt_of_le_of_lt Nat.and_le_left hs) (by simp; omega)
    have ec : ctz16 (s : Int) = ((Go.Lib.ctz 16 s : Nat) : Int) := by simp [ctz16]
    refine Ev.step (fun k => ?_) (by rw [show acc ++ ints (Go.Lib.ctz 16 s :: bof (s &&& (s - 1))) = (acc ++ [((Go.Lib.ctz 16 s : Nat) : Int)]) ++ ints (bof (s &&& (s - 1))) from by simp [ints]]; exact h1)
    rw [impl_listed.l0, if_pos (by omega), bits_TrailingZeros16.f, if_pos (by omega), Option.bind_some, if_pos (by omega), low_bits s hs h0, ec]
theorem impl_listed.ok (s : Nat) (hs : s < 65536) : Ev (fun k => impl_listed.f k (s : Int)) (ints (bof s)) := by
  have h := impl_listed.go _ s [] rfl hs (by
    have : (bof s).length ≤ 16 := by unfold bof; exact Nat.le_trans (List.length_filter_le _ _) (by simp)
    simp; omega)
  rw [List.nil_append] at h
  exact h
theorem impl_listed.msk (p : Nat → Bool) (n : Nat) (h : n ≤ 16) : Ev (fun k => impl_listed.f k ((msk p n : Nat) : Int)) (ints ((List.range n).filter p)) := by
  have := impl_listed.ok (Base.msk p n) (msk_lt16 p n h)
  rwa [bof_msk p n h] at this

-- pmc
theorem msk_ext (p : Nat → Bool) (n s : Nat) (h : ∀ i, s.testBit i = (decide (i < n) && p i)) : s = msk p n := by
  apply Nat.eq_of_testBit_eq
  intro i
  rw [h, msk_testBit]
theorem and_msk (p q : Nat → Bool) (n : Nat) (h : n ≤ 16) : Go.bits .and .u16 ((msk p n : Nat) : Int) ((msk q n : Nat) : Int) = ((msk (fun y => p y && q y) n : Nat) : Int) := by
  rw [u16_and_nat _ _ (msk_lt16 p n h) (msk_lt16 q n h)]
  congr 1
  apply msk_ext
  intro i
  rw [Nat.testBit_and, msk_testBit, msk_testBit]
  cases decide (i < n) <;> simp
theorem rem_msk (p : Nat → Bool) (n a b : Nat) (h : n ≤ 16) (ha : a < n) (hb : b < n) : Go.bits .andNot .u16 ((msk p n : Nat) : Int) (Go.bits .or .u16 (shl .u16 1 (a : Int)) (shl .u16 1 (b : Int))) = ((msk (rem2 p a b) n : Nat) : Int) := by
  have hA := pow_lt16 a (by omega)
  have hB := pow_lt16 b (by omega)
  have hor : 2 ^ a ||| 2 ^ b < 65536 := Nat.or_lt_two_pow (n := 16) hA hB
  rw [shl_one a (by omega), shl_one b (by omega), u16_or_nat _ _ hA hB, u16_andNot_nat _ _ (msk_lt16 p n h) hor]
  congr 1
  apply msk_ext
  intro i
  have := Nat.testBit_two_pow_sub_succ (n := 16) (x := 2 ^ a ||| 2 ^ b) hor i
  rw [Nat.testBit_and, show 65535 - (2 ^ a ||| 2 ^ b) = 2 ^ 16 - ((2 ^ a ||| 2 ^ b) + 1) from by omega, this, msk_testBit, Nat.testBit_or, Nat.testBit_two_pow, Nat.testBit_two_pow]
  unfold rem2
  by_cases hi : i < n
  · have h16 : i < 16 := by omega
    simp only [hi, h16, decide_true, Bool.true_and]
    by_cases e1 : a = i
    · subst e1; simp
    · by_cases e2 : b = i
      · subst e2; simp
      · have e3 : ¬ i = a := fun h => e1 h.symm
        have e4 : ¬ i = b := fun h => e2 h.symm
        have e5 : (i != a) = true := by simpa using e3
        have e6 : (i != b) = true := by simpa using e4
        simp [e1, e2, e5, e6]
  · simp [hi]
theorem impl_CountPairings_1.ok (n : Nat) (hn : n ≤ 12) (F : Nat → Nat → Bool) : ∀ (m : Nat) (p : Nat → Bool), ((List.range n).filter p).length ≤ m → Ev (fun k => impl_CountPairings_1.f k (tabI n F) ((msk p n : Nat) : Int)) (wrap64 ((pmc n F m p : Nat) : Int)) := by
  intro m
  have hnone : ∀ (m : Nat) (p : Nat → Bool), (∀ i, i < n → p i = false) → Ev (fun k => impl_CountPairings_1.f k (tabI n F) ((msk p n : Nat) : Int)) (wrap64 ((pmc n F m p : Nat) : Int)) := by
    intro m p h
    have e : msk p n = 0 := by
      symm
      apply msk_ext
      intro i
      rw [Nat.zero_testBit]
      by_cases hi : i < n
      · simp [h i hi]
      · simp [hi]
    rw [pmc_none n F m p h, e, show wrap64 ((1 : Nat) : Int) = 1 from wrap_one]
    refine Ev.step (f := fun _ => some 1) (fun k => ?_) (Ev.now _)
    rw [impl_CountPairings_1.f, if_pos (by rfl)]
  induction m with
  | zero =>
    intro p hm
    refine hnone 0 p (fun i hi => ?_)
    cases hp : p i with
    | false => rfl
    | true =>
      have : i ∈ (List.range n).filter p := List.mem_filter.2 ⟨List.mem_range.2 hi, hp⟩
      rw [List.length_eq_zero_iff.1 (Nat.le_zero.1 hm)] at this
      cases this
  | succ m ih =>
    intro p hm
    rcases least p n with ⟨a, ha, hpa, hla⟩ | hno
    · have hfl := filter_least p a hpa hla n ha
      have h0 : msk p n ≠ 0 := by
        intro h
        have := msk_testBit p n a
        rw [h, Nat.zero_testBit, hpa] at this
        simp [ha] at this
      rw [pmc_some n F m p a ha hpa hla]
      have h1 := impl_listed.msk p n (by omega)
      have h2 := impl_listed.msk (fun y => F a y && p y) n (by omega)
      generalize hL : (List.range n).filter (fun y => F a y && p y) = L at h2 ⊢
      have hLm : ∀ b ∈ L, b < n := by
        intro b hb
        rw [← hL] at hb
        exact List.mem_range.1 (List.mem_filter.1 hb).1
      have hLl : L.length ≤ 12 := by
        rw [← hL]
        exact Nat.le_trans (List.length_filter_le _ _) (by simpa using hn)
      have loop := up_loop (P := fun i => ∀ c : Int, wrap64 c = c → Ev (fun k => impl_CountPairings_1.l0 k (tabI n F) ((msk p n : Nat) : Int) (a : Int) (ints L) (i : Int) c) (wrap64 (c + ((((L.drop i).map fun b => pmc n F m (rem2 p a b)).sum : Nat) : Int)))) (n := L.length) (by
          intro c hc
          refine Ev.step (f := fun _ => some c) (fun k => ?_) (by
            rw [List.drop_length]
            simp only [List.map_nil, List.sum_nil]
            rw [show c + ((0 : Nat) : Int) = c from by omega, hc]
            exact Ev.now _)
          rw [impl_CountPairings_1.l0, if_neg (by rw [ints_length]; omega)]) (by
          intro i hi h c hc
          have hb := hLm L[i] (List.getElem_mem hi)
          rw [List.drop_eq_getElem_cons hi]
          generalize hbe : L[i] = b at hb ⊢
          have h3 := ih (rem2 p a b) (rem2_len n p a b m ha hpa hla hm)
          have h4 := h (wrap64 (c + wrap64 ((pmc n F m (rem2 p a b) : Nat) : Int))) (wrap_twice _)
          rw [wrap_wrap] at h4
          refine Ev.step (fun k => ?_) (Ev.bind h3 (f := fun k r => impl_CountPairings_1.l0 k (tabI n F) ((msk p n : Nat) : Int) (a : Int) (ints L) ((i + 1 : Nat) : Int) (wrap64 (c + r))) ?_)
          · rw [impl_CountPairings_1.l0, if_pos (by rw [ints_length]; omega), if_pos (by omega), if_pos (by omega), rd_ints L i hi, hbe, if_pos (by omega), rem_msk p n a b (by omega) ha hb, nat_succ i (by omega)]
          · rw [List.map_cons, List.sum_cons]
            rw [show c + ((pmc n F m (rem2 p a b) + ((L.drop (i + 1)).map fun b => pmc n F m (rem2 p a b)).sum : Nat) : Int) = c + ((pmc n F m (rem2 p a b) : Nat) : Int) + ((((L.drop (i + 1)).map fun b => pmc n F m (rem2 p a b)).sum : Nat) : Int) from by omega]
            have e : wrap64 (c + wrap64 ((pmc n F m (rem2 p a b) : Nat) : Int) + ((((L.drop (i + 1)).map fun b => pmc n F m (rem2 p a b)).sum : Nat) : Int)) = wrap64 (c + ((pmc n F m (rem2 p a b) : Nat) : Int) + ((((L.drop (i + 1)).map fun b => pmc n F m (rem2 p a b)).sum : Nat) : Int)) := by unfold wrap64; omega
            rw [e] at h4
            exact h4)
      have h5 := loop 0 (Nat.zero_le _) 0 wrap_zero
      rw [List.drop_zero, Int.zero_add] at h5
      refine Ev.step (fun k => ?_) (Ev.bind h1 (f := fun k q => if 0 < (q.length : Int) then (if 0 ≤ rd q 0 then (if rd q 0 < ((tabI n F).length : Int) then ((impl_listed.f k (Go.bits .and .u16 (rd (tabI n F) (rd q 0)) ((msk p n : Nat) : Int))).bind fun z => impl_CountPairings_1.l0 k (tabI n F) ((msk p n : Nat) : Int) (rd q 0) z 0 0) else none) else none) else none) ?_)
      · rw [impl_CountPairings_1.f, if_neg (by omega)]
      · have e0 : rd (ints ((List.range n).filter p)) 0 = (a : Int) := by rw [hfl]; rfl
        rw [e0, tabI_length, tabI_rd n F a ha, and_msk (F a) p n (by omega)]
        refine Ev.ite_pos (by rw [hfl]; simp [ints]) (Ev.ite_pos (by omega) (Ev.ite_pos (by omega) ?_))
        exact Ev.bind h2 h5
    · exact hnone (m + 1) p hno

theorem impl_table_all.ok (n : Nat) (hn : n ≤ 12) (F : Nat → Nat → Bool) : impl_table_all.f (tabI n F) = some ((msk (fun _ => true) n : Nat) : Int) := by
  unfold impl_table_all.f
  rw [tabI_length, all_bits n hn]

theorem impl_CountPairings.ok (n : Int) (l : List S105) (hl : l.length ≤ 1048576) : Ev (fun k => impl_CountPairings.f k n l) (countP n l) := by
  unfold impl_CountPairings.f countP
  refine Ev.bind (ev_of (l.length + 5) fun k hk => impl_IsParty.ok n l hl k (by omega)) ?_
  by_cases hg : goodB n l = true
  · rw [if_pos hg]
    refine Ev.ite_pos hg ?_
    have hp := goodB_people hg
    have h66 := goodB_len66 hg
    have h1 := impl_Party_table.ok n.toNat (by omega) l (by omega) (goodB_pin hg)
    rw [Int.toNat_of_nonneg hp.1] at h1
    refine Ev.bind h1 ?_
    rw [impl_table_all.ok n.toNat (by omega)]
    simp only [Option.bind_some]
    exact Ev.bind (impl_CountPairings_1.ok n.toNat (by omega) (adj l) n.toNat (fun _ => true) (Nat.le_trans (List.length_filter_le _ _) (by simp))) (Ev.now _)
  · rw [if_neg hg]
    exact Ev.ite_neg hg (Ev.now _)

end Go.Proofs.YtjpfbkkikcpmhaaDoor.PFnExactCountPairings
namespace Go.Proofs.YtjpfbkkikcpmhaaDoor
open Go.RowKit Go.Proofs.YtjpfbkkikcpmhaaDoor.Base Go.Proofs.YtjpfbkkikcpmhaaDoor.PFnExactCountPairings Go.Proofs.YtjpfbkkikcpmhaaDoorW.PrintWords Go.Proofs.YtjpfbkkikcpmhaaDoorW.PrintLast Go.Proofs.YtjpfbkkikcpmhaaDoorW.PrintMore
theorem fnExactCountPairings_pure : fnExactCountPairings.Pure := by
  intro n l hn hl
  refine Ev.rounds (g := fun k => laws_FnExactCountPairings.f k n l) ?_
  unfold laws_FnExactCountPairings.f
  rw [laws_szParty.ok n l _ (by omega) (by omega) hl.1]
  simp only [Option.bind_some]
  by_cases h0 : (1048576 : Int) - l.length < 0
  · rw [if_pos h0]
    exact Ev.ite_pos (by omega) (Ev.now _)
  · rw [if_neg h0]
    refine Ev.ite_neg (by omega) ?_
    have hlen : l.length ≤ 1048576 := by omega
    have hpl : (prs l).length ≤ 1048576 := by rw [prs_length]; exact hlen
    have ht : Ev (fun k => laws_toParty.f k n l) (n, prs l) := ev_of (l.length + 1) fun k hk => laws_toParty.ok n l hlen k (by omega)
    refine Ev.bind ht ?_
    refine Ev.bind (spec_CountPairings.ok n (prs l)) ?_
    refine Ev.bind ht ?_
    refine Ev.bind (impl_CountPairings.ok n (prs l) hpl) ?_
    refine Ev.ite_pos rfl (Ev.ite_neg (by simp) (Ev.bind ht ?_))
    refine Ev.bind (ev_of ((prs l).length + 1) fun k hk => laws_eqParty.refl n (prs l) hpl k (by omega)) ?_
    exact Ev.ite_pos rfl (Ev.now _)
theorem fnExactCountPairings_holds : Rows.FnExactCountPairingsCardSaid := fnExactCountPairings.proved fnExactCountPairings_pure
end Go.Proofs.YtjpfbkkikcpmhaaDoor
