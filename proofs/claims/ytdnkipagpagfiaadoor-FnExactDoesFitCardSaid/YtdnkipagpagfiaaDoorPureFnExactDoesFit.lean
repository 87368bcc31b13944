/- FnExactDoesFit: whatever the clue and the party, the program says whether they fit as the reference does, and leaves the party as it was. Condition: the table of math/bits lies as its initialiser lays it (the card's own). -/
import Derived.Test.YtdnkipagpagfiaaDoorLawFnExactDoesFit
import Derived.Test.YtdnkipagpagfiaaDoorPBase
import Derived.Test.YtdnkipagpagfiaaDoorGraph
set_option linter.unusedVariables false
set_option linter.unusedSimpArgs false
namespace Go.Proofs.YtdnkipagpagfiaaDoor.PFnExactDoesFit
open Go.RowKit Go.Proofs.YtdnkipagpagfiaaDoor.Base Go.Proofs.YtdnkipagpagfiaaDoor.PFnExactDoesFit Go.Proofs.YtdnkipagpagfiaaDoorW.PrintWords Go.Proofs.YtdnkipagpagfiaaDoorW.PrintLast Go.Proofs.YtdnkipagpagfiaaDoorW.PrintMore
theorem laws_szPairS.ok (l : List S112) (n : Int) (h0 : 0 ≤ n) (h1 : n ≤ 1048576) (hl : l.length ≤ maxLen) : laws_szPairS.f l n = some (if n - l.length < 0 then -1 else n - l.length) := by
  unfold maxLen at hl
  unfold laws_szPairS.f
  rw [wrap_id (by omega) (by omega)]
  split <;> rfl

theorem laws_szParty.ok (p : Int) (l : List S112) (n : Int) (h0 : 0 ≤ n) (h1 : n ≤ 1048576) (hl : l.length ≤ maxLen) : laws_szParty.f p l n = some (if n - l.length < 0 then -1 else n - l.length) := by
  unfold laws_szParty.f
  rw [laws_szPairS.ok l n h0 h1 hl]
  simp only [Option.bind_some]
  by_cases h : n - (l.length : Int) < 0
  · simp [h]
  · simp [h]

theorem spec_l1In.ok (n lo hi : Int) : spec_l1In.f n lo hi = some (decide (lo ≤ n ∧ n ≤ hi)) := by
  unfold spec_l1In.f
  by_cases h : lo ≤ n <;> simp [h]

theorem spec_paPeople.ok (n : Int) : spec_paPeople.f n = some (crowd n) := by unfold spec_paPeople.f crowd; simp [spec_l1In.ok]

def lessB (x y : S110) : Bool := decide (x.f0 < y.f0 ∨ x.f0 = y.f0 ∧ x.f1 < y.f1)
theorem spec_paLess.ok (a b c d : Int) : spec_paLess.f a b c d = some (lessB ⟨a, b⟩ ⟨c, d⟩) := by
  unfold spec_paLess.f lessB
  by_cases h : a < c
  · simp [h]
  · by_cases h2 : a = c
    · subst h2; simp
    · simp [h, h2]

theorem rd_T110_nat (l : List S110) (i : Nat) (h : i < l.length) : rd_T110 l (i : Int) = l[i] := by simp [rd_T110, List.getD, h]
-- pairnat
/-- What is asked of pair number i of a party of n people. -/
def stepB (n : Int) (l : List S110) (i : Nat) : Bool := decide (0 ≤ (l.getD i z110).f0 ∧ (l.getD i z110).f0 < (l.getD i z110).f1 ∧ (l.getD i z110).f1 < n) && (i == 0 || lessB (l.getD (i - 1) z110) (l.getD i z110))
/-- n and l are a party. -/
def goodB (n : Int) (l : List S110) : Bool := crowd n && (List.range l.length).all (stepB n l)
theorem goodB_people {n : Int} {l : List S110} (h : goodB n l = true) : 0 ≤ n ∧ n ≤ 12 := by
  unfold goodB crowd at h
  simp only [Bool.and_eq_true, decide_eq_true_eq] at h
  exact h.1
theorem goodB_step {n : Int} {l : List S110} (h : goodB n l = true) (i : Nat) (hi : i < l.length) : (0 ≤ l[i].f0 ∧ l[i].f0 < l[i].f1 ∧ l[i].f1 < n) ∧ (∀ h0 : 0 < i, l[i - 1].f0 < l[i].f0 ∨ l[i - 1].f0 = l[i].f0 ∧ l[i - 1].f1 < l[i].f1) := by
  unfold goodB at h
  simp only [Bool.and_eq_true, List.all_eq_true] at h
  have := h.2 i (List.mem_range.2 hi)
  unfold stepB lessB at this
  simp only [List.getD, List.getElem?_eq_getElem hi, List.getElem?_eq_getElem (show i - 1 < l.length by omega), Option.getD_some, Bool.and_eq_true, Bool.or_eq_true, decide_eq_true_eq, beq_iff_eq] at this
  refine ⟨this.1, fun h0 => ?_⟩
  rcases this.2 with h | h
  · omega
  · exact h
theorem goodB_len {n : Int} {l : List S110} (h : goodB n l = true) : 2 * (l.length : Int) ≤ n * (n - 1) := by
  refine pairs_bound n l.length (fun i => (l.getD i z110).f0) (fun i => (l.getD i z110).f1) ?_ ?_ (goodB_people h).1
  · intro i hi
    simp only [List.getD, List.getElem?_eq_getElem hi, Option.getD_some]
    exact (goodB_step h i hi).1
  · intro i hi
    simp only [List.getD, List.getElem?_eq_getElem hi, List.getElem?_eq_getElem (show i < l.length by omega), Option.getD_some]
    exact (goodB_step h (i + 1) hi).2 (by omega)
theorem goodB_len66 {n : Int} {l : List S110} (h : goodB n l = true) : l.length ≤ 66 := by
  have h1 := goodB_len h
  have h2 := goodB_people h
  obtain ⟨m, rfl⟩ := Int.eq_ofNat_of_zero_le h2.1
  obtain rfl | rfl | rfl | rfl | rfl | rfl | rfl | rfl | rfl | rfl | rfl | rfl | rfl : m = 0 ∨ m = 1 ∨ m = 2 ∨ m = 3 ∨ m = 4 ∨ m = 5 ∨ m = 6 ∨ m = 7 ∨ m = 8 ∨ m = 9 ∨ m = 10 ∨ m = 11 ∨ m = 12 := by omega
  all_goals omega
theorem stepB_eq (n : Int) (l : List S110) (i : Nat) (hi : i < l.length) : stepB n l i = (decide (0 ≤ l[i].f0 ∧ l[i].f0 < l[i].f1 ∧ l[i].f1 < n) && (i == 0 || lessB l[i - 1] l[i])) := by
  unfold stepB
  simp only [List.getD, List.getElem?_eq_getElem hi, List.getElem?_eq_getElem (show i - 1 < l.length by omega), Option.getD_some]
theorem half (n : Int) (h0 : 0 ≤ n) (h1 : n ≤ 12) : wrap64 (Int.tdiv (wrap64 (n * (wrap64 (n - 1)))) 2) = n * (n - 1) / 2 := by
  obtain ⟨m, rfl⟩ := Int.eq_ofNat_of_zero_le h0
  have : m ≤ 12 := by omega
  obtain rfl | rfl | rfl | rfl | rfl | rfl | rfl | rfl | rfl | rfl | rfl | rfl | rfl : m = 0 ∨ m = 1 ∨ m = 2 ∨ m = 3 ∨ m = 4 ∨ m = 5 ∨ m = 6 ∨ m = 7 ∨ m = 8 ∨ m = 9 ∨ m = 10 ∨ m = 11 ∨ m = 12 := by omega
  all_goals (unfold wrap64; decide)
theorem spec_paGood.ok (n : Int) (l : List S110) (k : Nat) (hk : 70 ≤ k) : spec_paGood.f k n l = some (goodB n l) := by
  obtain ⟨k, rfl⟩ : ∃ m, k = m + 1 := ⟨k - 1, by omega⟩
  unfold spec_paGood.f
  rw [spec_paPeople.ok]
  simp only [Option.bind_some]
  by_cases hn : crowd n = true
  · have hc : 0 ≤ n ∧ n ≤ 12 := by simpa [crowd] using hn
    rw [if_pos hn, half n hc.1 hc.2]
    simp only [spec_paGood.j0]
    by_cases hl : (l.length : Int) > n * (n - 1) / 2
    · rw [if_pos (by simpa using hl)]
      congr 1
      symm
      rw [Bool.eq_false_iff]
      intro h
      have := goodB_len h
      omega
    · rw [if_neg (by simpa using hl)]
      have h66 : l.length ≤ 66 := by
        obtain ⟨m, rfl⟩ := Int.eq_ofNat_of_zero_le hc.1
        have : m ≤ 12 := by omega
        obtain rfl | rfl | rfl | rfl | rfl | rfl | rfl | rfl | rfl | rfl | rfl | rfl | rfl : m = 0 ∨ m = 1 ∨ m = 2 ∨ m = 3 ∨ m = 4 ∨ m = 5 ∨ m = 6 ∨ m = 7 ∨ m = 8 ∨ m = 9 ∨ m = 10 ∨ m = 11 ∨ m = 12 := by omega
        all_goals omega
      rw [all_loop (fun k i => spec_paGood.l0 k l (l.length : Int) i n l) l.length (stepB n l) (by omega) 0 ?_ ?_ k (by omega)]
      · unfold goodB; rw [hn]; rfl
      · intro k i h _
        have e1 : wrap64 (n - 1) = n - 1 := wrap_id (by omega) (by omega)
        simp only [spec_paGood.l0]
        rw [if_pos (by omega), if_pos (by omega), if_pos (by omega), rd_T110_nat l i h, spec_l1In.ok]
        simp only [Option.bind_some, e1]
        rw [stepB_eq n l i h]
        by_cases hA : 0 ≤ l[i].f0 ∧ l[i].f0 ≤ n - 1
        · have e2 : wrap64 (l[i].f0 + 1) = l[i].f0 + 1 := wrap_id (by omega) (by omega)
          rw [if_pos (by simpa using hA), spec_l1In.ok, e2]
          simp only [Option.bind_some]
          by_cases hB : l[i].f0 + 1 ≤ l[i].f1 ∧ l[i].f1 ≤ n - 1
          · rw [if_pos (by simpa using hB), decide_eq_true (show 0 ≤ l[i].f0 ∧ l[i].f0 < l[i].f1 ∧ l[i].f1 < n from ⟨by omega, by omega, by omega⟩)]
            simp only [Bool.true_and]
            rcases Nat.eq_zero_or_pos i with rfl | hi
            · rw [if_neg (by simp)]; simp
            · have e3 : wrap64 ((i : Int) - 1) = ((i - 1 : Nat) : Int) := by rw [wrap_id (by omega) (by omega)]; omega
              rw [if_pos (by omega), e3, if_pos (by omega), if_pos (by omega), rd_T110_nat l (i - 1) (by omega), spec_paLess.ok]
              simp only [Option.bind_some]
              rw [show (i == 0) = false from by simp; omega, Bool.false_or]
          · rw [if_neg (by simpa using hB), decide_eq_false (show ¬ (0 ≤ l[i].f0 ∧ l[i].f0 < l[i].f1 ∧ l[i].f1 < n) from by omega)]; simp
        · rw [if_neg (by simpa using hA), decide_eq_false (show ¬ (0 ≤ l[i].f0 ∧ l[i].f0 < l[i].f1 ∧ l[i].f1 < n) from by omega)]; simp
      · intro k
        simp only [spec_paGood.l0]
        rw [if_neg (by omega)]
  · have hn : crowd n = false := by simpa using hn
    rw [hn, if_neg (by simp)]
    simp [spec_paGood.j0, goodB, hn]

theorem spec_pzPeople.ok (n : Int) : spec_pzPeople.f n = some (guests n) := by unfold spec_pzPeople.f guests; simp [spec_l1In.ok]

theorem spec_pzClue.ok (k : Nat) (n kd a b : Int) (h1 : 1 ≤ n) (h2 : n ≤ 5) : spec_pzClue.f (k + 1) n kd a b = some (clueI n kd a b) := by
  have e1 : wrap64 (n - 1) = n - 1 := wrap_id (by omega) (by omega)
  have e2 : wrap64 (Int.tdiv (wrap64 (n * (wrap64 (n - 1)))) 2) = n * (n - 1) / 2 := by
    obtain rfl | rfl | rfl | rfl | rfl : n = 1 ∨ n = 2 ∨ n = 3 ∨ n = 4 ∨ n = 5 := by omega
    all_goals (unfold wrap64; decide)
  rw [e1] at e2
  have e3 : 0 ≤ a → a ≤ n - 1 → wrap64 (a + 1) = a + 1 := fun h h' => wrap_id (by omega) (by omega)
  have e4 : n * (n - 1) / 2 ≤ 10 := by
    obtain rfl | rfl | rfl | rfl | rfl : n = 1 ∨ n = 2 ∨ n = 3 ∨ n = 4 ∨ n = 5 := by omega
    all_goals decide
  unfold spec_pzClue.f clueI
  simp only [spec_pzClue.j0, spec_l1In.ok, e1, e2, Option.bind_some]
  generalize n * (n - 1) / 2 = m at *
  clear e1 e2
  have key : ∀ x : Bool, (if x = true then (some (decide (wrap64 (a + 1) ≤ b ∧ b ≤ n - 1)) : Option Bool) else some false) = some (x && decide (wrap64 (a + 1) ≤ b ∧ b ≤ n - 1)) := fun x => by cases x <;> rfl
  by_cases k0 : kd = 0
  · simp only [k0, if_true, beq_self_eq_true, true_or, key]
    rw [Option.some_inj, Bool.eq_iff_iff]
    simp only [Bool.and_eq_true, decide_eq_true_eq]
    by_cases ha : 0 ≤ a ∧ a ≤ n - 1
    · rw [e3 ha.1 ha.2]; omega
    · omega
  · by_cases k1 : kd = 1
    · subst k1
      simp only [show ((1 : Int) = 0) = False from by simp, if_true, if_false, beq_self_eq_true, or_true, key]
      rw [Option.some_inj, Bool.eq_iff_iff]
      simp only [Bool.and_eq_true, decide_eq_true_eq]
      by_cases ha : 0 ≤ a ∧ a ≤ n - 1
      · rw [e3 ha.1 ha.2]; omega
      · omega
    · simp only [k0, k1, if_false, or_self, beq_iff_eq]
      repeat' split
      all_goals (rw [Option.some_inj, Bool.eq_iff_iff]; first | done | (simp_all; done) | (simp_all; omega))

theorem rdL_tabB (n : Nat) (F : Nat → Nat → Bool) (a : Nat) (h : a < n) : rd_L4 (tabB n F) (a : Int) = (List.range n).map (F a) := by
  simp only [rd_L4, Int.toNat_natCast]
  exact tabB_getD n F a h
/-- Two people are friends. -/
def adj (l : List S110) (a b : Nat) : Bool := l.any fun x => decide (x.f0.toNat = a ∧ x.f1.toNat = b ∨ x.f1.toNat = a ∧ x.f0.toNat = b)
theorem adj_symm (l : List S110) (a b : Nat) : adj l a b = adj l b a := by
  unfold adj
  congr 1
  funext x
  rw [decide_eq_decide]
  constructor <;> intro h <;> omega
/-- All pairs are of people below n. -/
def pin (n : Nat) (l : List S110) : Prop := ∀ x ∈ l, 0 ≤ x.f0 ∧ x.f0 < n ∧ 0 ≤ x.f1 ∧ x.f1 < n
-- pairnat
theorem adj_take (l : List S110) (i : Nat) (hi : i < l.length) : adj (l.take (i + 1)) = upd (upd (adj (l.take i)) l[i].f0.toNat l[i].f1.toNat true) l[i].f1.toNat l[i].f0.toNat true := by
  funext x y
  unfold adj upd
  rw [List.take_succ_eq_append_getElem hi, List.any_append]
  simp only [List.any_cons, List.any_nil, Bool.or_false]
  by_cases h1 : x = l[i].f1.toNat ∧ y = l[i].f0.toNat
  · rw [if_pos h1, decide_eq_true (by omega), Bool.or_true]
  · by_cases h2 : x = l[i].f0.toNat ∧ y = l[i].f1.toNat
    · rw [if_neg h1, if_pos h2, decide_eq_true (by omega), Bool.or_true]
    · rw [if_neg h1, if_neg h2, decide_eq_false (by omega), Bool.or_false]
theorem tabB_none (n : Nat) : List.replicate n (List.replicate n false) = tabB n (adj []) := by
  apply List.ext_getElem (by simp [tabB])
  intro i h1 h2
  simp only [List.getElem_replicate, tabB, List.getElem_map]
  apply List.ext_getElem (by simp)
  intro j g1 g2
  simp [adj]
theorem spec_paTable.ok (n : Nat) (hn : n ≤ 12) (l : List S110) (hl : l.length ≤ 1048576) (hp : pin n l) : Ev (fun k => spec_paTable.f k (n : Int) l) (tabB n (adj l)) := by
  have h1 : Ev (fun k => spec_paTable.l1 k (tabB n (adj (l.take 0))) l (l.length : Int) ((0 : Nat) : Int)) (tabB n (adj l)) := by
    refine up_loop (P := fun i => Ev (fun k => spec_paTable.l1 k (tabB n (adj (l.take i))) l (l.length : Int) (i : Int)) (tabB n (adj l))) (n := l.length) ?_ ?_ 0 (Nat.zero_le _)
    · refine Ev.step (f := fun _ => some (tabB n (adj l))) (fun k => ?_) (Ev.now _)
      simp only [spec_paTable.l1]
      rw [if_neg (by omega), List.take_length]
    · intro i hi h
      refine Ev.step (fun k => ?_) h
      obtain ⟨q0, q1, q2, q3⟩ := hp l[i] (List.getElem_mem hi)
      obtain ⟨a, ea⟩ := Int.eq_ofNat_of_zero_le q0
      obtain ⟨b, eb⟩ := Int.eq_ofNat_of_zero_le q2
      have ha : a < n := by omega
      have hb : b < n := by omega
      simp only [spec_paTable.l1, Option.bind_some]
      rw [if_pos (by omega), if_pos (by omega), if_pos (by omega), rd_T110_nat l i hi, ea, eb, rdL_tabB n _ a ha, if_pos (by omega), if_pos (by rw [tabB_length]; omega), if_pos (by omega), if_pos (by simp; omega), if_pos (by rw [tabB_length]; omega)]
      simp only [Int.toNat_natCast]
      rw [tabB_set n _ a b true ha, rdL_tabB n _ b hb, if_pos (by simp; omega), tabB_set n _ b a true hb, nat_succ i (by omega), adj_take l i hi, ea, eb]
      simp only [Int.toNat_natCast]
  unfold spec_paTable.f
  have h0 := up_loop (P := fun i => Ev (fun k => spec_paTable.l0 k (List.replicate i (List.replicate n false)) (i : Int) (n : Int) l) (tabB n (adj l))) (n := n) (by
      refine Ev.step (fun k => ?_) h1
      simp only [spec_paTable.l0]
      rw [if_neg (by omega), tabB_none]
      rfl) (by
      intro i hi h
      refine Ev.step (fun k => ?_) h
      simp only [spec_paTable.l0]
      rw [if_pos (by omega), if_pos (by omega), if_pos (by omega), if_pos (by simp; omega), nat_succ i (by omega), List.replicate_succ']
      rfl) 0 (Nat.zero_le _)
  exact h0

theorem spec_l1Own.ok (l : List Int) (h : l.length < 17592186044416) : spec_l1Own.f l = some l := by
  unfold spec_l1Own.f
  simp only [Option.bind_some, List.nil_append]
  rw [if_pos (by simpa using h)]

def ints (bs : List Nat) : List Int := bs.map fun (b : Nat) => (b : Int)
theorem ints_length (bs : List Nat) : (ints bs).length = bs.length := by simp [ints]
theorem rd_ints (bs : List Nat) (i : Nat) (h : i < bs.length) : rd (ints bs) (i : Int) = ((bs[i] : Nat) : Int) := by simp [rd, ints, List.getD, h]
/-- x is a friend of all of some people. -/
def know (F : Nat → Nat → Bool) (bs : List Nat) (x : Nat) : Bool := bs.all (F x)
theorem spec_grJoins.ok (n : Nat) (_hn : n ≤ 12) (F : Nat → Nat → Bool) (bs : List Nat) (a : Nat) (ha : a < n) (hb : ∀ b ∈ bs, b < n) (hl : bs.length ≤ 1048576) : Ev (fun k => spec_grJoins.f k (tabB n F) (ints bs) (a : Int)) (know F bs a) := by
  unfold spec_grJoins.f know
  rw [ints_length]
  refine up_loop (P := fun i => Ev (fun k => spec_grJoins.l0 k (tabB n F) (a : Int) (ints bs) (bs.length : Int) (i : Int)) ((bs.drop i).all (F a))) (n := bs.length) ?_ ?_ 0 (Nat.zero_le _)
  · refine Ev.step (f := fun _ => some true) (fun k => ?_) (by rw [List.drop_length]; exact Ev.now _)
    simp only [spec_grJoins.l0]
    rw [if_neg (by omega)]
  · intro i hi h
    have e : (bs.drop i).all (F a) = (F a bs[i] && (bs.drop (i + 1)).all (F a)) := by rw [List.drop_eq_getElem_cons hi]; rfl
    have hbi := hb bs[i] (List.getElem_mem hi)
    rw [e]
    cases hF : F a bs[i] with
    | false =>
      rw [Bool.false_and]
      refine Ev.step (f := fun _ => some false) (fun k => ?_) (Ev.now _)
      simp only [spec_grJoins.l0]
      rw [if_pos (by omega), if_pos (by omega), if_pos (by rw [ints_length]; omega), if_pos (by omega), if_pos (by rw [tabB_length]; omega), rd_ints bs i hi, if_pos (by omega), rdL_tabB n F a ha, if_pos (by simp; omega), row_get n _ _ hbi, hF, if_neg (by simp)]
    | true =>
      rw [Bool.true_and]
      refine Ev.step (fun k => ?_) h
      simp only [spec_grJoins.l0]
      rw [if_pos (by omega), if_pos (by omega), if_pos (by rw [ints_length]; omega), if_pos (by omega), if_pos (by rw [tabB_length]; omega), rd_ints bs i hi, if_pos (by omega), rdL_tabB n F a ha, if_pos (by simp; omega), row_get n _ _ hbi, hF, if_pos rfl, nat_succ i (by omega)]

theorem two_pow_step (n i : Nat) (h : i < n) : 2 ^ (n - i) = 2 * 2 ^ (n - (i + 1)) := by
  rw [show n - i = (n - (i + 1)) + 1 from by omega, Nat.pow_succ, Nat.mul_comm]
theorem spec_grLook.ok (n : Nat) (hn : n ≤ 12) (F : Nat → Nat → Bool) (hF : ∀ a b, F a b = F b a) : ∀ (m : Nat) (bs : List Nat) (fr : Nat) (xs : List (List Int)), n - fr = m → fr ≤ n → bs.length ≤ fr → (∀ b ∈ bs, b < n) → xs.length + 2 ^ (n - fr) ≤ 4096 →
    ∃ out, Ev (fun k => spec_grLook.f k (tabB n F) (ints bs) (fr : Int) xs) (xs ++ out) ∧ out.length ≤ 2 ^ (n - fr) ∧ (∀ p ∈ out, bs.length ≤ p.length) ∧ ∀ d, (∃ p ∈ out, p.length = bs.length + d) ↔ cl F d ((List.range' fr (n - fr)).filter (know F bs)) = true := by
  intro m
  induction m using Nat.strongRecOn with
  | ind m ih =>
    intro bs fr xs hm hfn hbl hb hx
    have loop := up_loop (P := fun i => fr ≤ i → ∀ acc : List (List Int), acc.length + 2 ^ (n - i) ≤ 4097 → ∃ out, Ev (fun k => spec_grLook.l0 k (tabB n F) (ints bs) (i : Int) acc) (acc ++ out) ∧ out.length + 1 ≤ 2 ^ (n - i) ∧ (∀ p ∈ out, bs.length + 1 ≤ p.length) ∧ ∀ d, (∃ p ∈ out, p.length = bs.length + (d + 1)) ↔ clGo F (cl F d) ((List.range' i (n - i)).filter (know F bs)) = true) (n := n) (by
        intro _ acc _
        refine ⟨[], ?_, by simp, by simp, by simp [clGo]⟩
        rw [List.append_nil]
        refine Ev.step (f := fun _ => some acc) (fun k => ?_) (Ev.now _)
        rw [spec_grLook.l0, if_neg (by rw [tabB_length]; omega)]) (by
        intro i hi h hfi acc hacc
        have hk := spec_grJoins.ok n hn F bs i hi hb (by omega)
        have h2 := two_pow_step n i hi
        have hpos := Nat.two_pow_pos (n - (i + 1))
        rw [range'_cons i n hi]
        have hl0 : ∀ k, spec_grLook.l0 (k + 1) (tabB n F) (ints bs) (i : Int) acc = (spec_grJoins.f k (tabB n F) (ints bs) (i : Int)).bind fun j => if j = true then ((spec_l1Own.f (ints bs)).bind fun q => if q.length < 17592186044416 then ((spec_grLook.f k (tabB n F) (q ++ [(i : Int)]) (wrap64 ((i : Int) + 1)) acc).bind fun ys => spec_grLook.l0 k (tabB n F) (ints bs) (wrap64 ((i : Int) + 1)) ys) else none) else spec_grLook.l0 k (tabB n F) (ints bs) (wrap64 ((i : Int) + 1)) acc := by
          intro k
          rw [spec_grLook.l0, if_pos (by rw [tabB_length]; omega)]
        cases hki : know F bs i with
        | false =>
          obtain ⟨out, o1, o2, o3, o4⟩ := h (by omega) acc (by omega)
          refine ⟨out, ?_, by omega, o3, ?_⟩
          · refine Ev.step hl0 (Ev.bind hk ?_)
            rw [hki]
            refine Ev.ite_neg (by simp) ?_
            rw [nat_succ i (by omega)]
            exact o1
          · rw [List.filter_cons_of_neg (by simp [hki])]
            exact o4
        | true =>
          obtain ⟨oa, a1, a2, a4, a3⟩ := ih (n - (i + 1)) (by omega) (bs ++ [i]) (i + 1) acc rfl (by omega) (by simp; omega) (by
            intro b hbm
            rcases List.mem_append.1 hbm with h | h
            · exact hb b h
            · obtain rfl := List.mem_singleton.1 h
              exact hi) (by omega)
          obtain ⟨out, o1, o2, o3, o4⟩ := h (by omega) (acc ++ oa) (by rw [List.length_append]; omega)
          have hlen : (bs ++ [i]).length = bs.length + 1 := by simp
          have e : (List.range' (i + 1) (n - (i + 1))).filter (know F (bs ++ [i])) = ((List.range' (i + 1) (n - (i + 1))).filter (know F bs)).filter (F i) := by
            rw [List.filter_filter]
            apply List.filter_congr
            intro x _
            simp only [know, List.all_append, List.all_cons, List.all_nil, Bool.and_true]
            rw [hF x i, Bool.and_comm]
          rw [hlen] at a4
          rw [hlen, e] at a3
          refine ⟨oa ++ out, ?_, by rw [List.length_append]; omega, ?_, ?_⟩
          · refine Ev.step hl0 (Ev.bind hk ?_)
            rw [hki, spec_l1Own.ok _ (by rw [ints_length]; omega)]
            refine Ev.ite_pos rfl ?_
            simp only [Option.bind_some]
            refine Ev.ite_pos (by rw [ints_length]; omega) ?_
            have e : ints bs ++ [(i : Int)] = ints (bs ++ [i]) := by simp [ints]
            rw [e, nat_succ i (by omega)]
            refine Ev.bind a1 ?_
            rw [← List.append_assoc]
            exact o1
          · intro p hp
            rcases List.mem_append.1 hp with hp | hp
            · exact a4 p hp
            · exact o3 p hp
          · intro d
            rw [List.filter_cons_of_pos hki]
            simp only [clGo, Bool.or_eq_true]
            rw [← o4 d, ← a3 d]
            constructor
            · rintro ⟨p, hp, hl⟩
              rcases List.mem_append.1 hp with hp | hp
              · exact .inl ⟨p, hp, by omega⟩
              · exact .inr ⟨p, hp, hl⟩
            · rintro (⟨p, hp, hl⟩ | ⟨p, hp, hl⟩)
              · exact ⟨p, List.mem_append_left _ hp, by omega⟩
              · exact ⟨p, List.mem_append_right _ hp, hl⟩)
    obtain ⟨out, o1, o2, o3, o4⟩ := loop fr hfn (Nat.le_refl _) (xs ++ [ints bs]) (by rw [List.length_append, List.length_singleton]; omega)
    refine ⟨[ints bs] ++ out, ?_, by rw [List.length_append, List.length_singleton]; omega, ?_, ?_⟩
    · rw [← List.append_assoc]
      refine Ev.step (fun k => ?_) o1
      rw [spec_grLook.f, spec_l1Own.ok _ (by rw [ints_length]; omega), Option.bind_some, if_pos (by omega)]
    · intro p hp
      rcases List.mem_append.1 hp with hp | hp
      · rw [List.mem_singleton.1 hp, ints_length]; omega
      · have := o3 p hp
        omega
    · intro d
      cases d with
      | zero =>
        refine ⟨fun _ => rfl, fun _ => ⟨ints bs, by simp, by rw [ints_length]; rfl⟩⟩
      | succ d =>
        rw [show cl F (d + 1) ((List.range' fr (n - fr)).filter (know F bs)) = clGo F (cl F d) ((List.range' fr (n - fr)).filter (know F bs)) from rfl, ← o4 d]
        constructor
        · rintro ⟨p, hp, hl⟩
          rcases List.mem_append.1 hp with hp | hp
          · rw [List.mem_singleton.1 hp, ints_length] at hl; omega
          · exact ⟨p, hp, hl⟩
        · rintro ⟨p, hp, hl⟩
          exact ⟨p, List.mem_append_right _ hp, hl⟩
theorem spec_grGroups.ok (n : Nat) (hn : n ≤ 12) (F : Nat → Nat → Bool) (hF : ∀ a b, F a b = F b a) : ∃ out, Ev (fun k => spec_grGroups.f k (tabB n F)) out ∧ out.length ≤ 4096 ∧ ∀ d, (∃ p ∈ out, p.length = d) ↔ cl F d (List.range n) = true := by
  have hp : 2 ^ (n - 0) ≤ 2 ^ 12 := Nat.pow_le_pow_right (by omega) (by omega)
  obtain ⟨out, h1, h2, _, h3⟩ := spec_grLook.ok n hn F hF (n - 0) [] 0 [] rfl (by omega) (by simp) (by simp) (by simpa using hp)
  refine ⟨out, ?_, Nat.le_trans h2 hp, fun d => ?_⟩
  · rw [List.nil_append] at h1
    exact h1
  · have := h3 d
    have e : (List.range' 0 (n - 0)).filter (know F []) = List.range n := by
      rw [Nat.sub_zero, List.range_eq_range', List.filter_eq_self]
      intro a _; rfl
    rw [e] at this
    simpa using this

/-- All lists that are left of a list. -/
def subs {α : Type} : List α → List (List α)
  | [] => [[]]
  | x :: t => (subs t).map (x :: ·) ++ subs t
theorem nil_subs {α : Type} : ∀ l : List α, [] ∈ subs l
  | [] => by simp [subs]
  | x :: t => by simp [subs, nil_subs t]
theorem sorted_subs {α : Type} (R : α → α → Prop) (ha : ∀ x y, R x y → ¬ R y x) : ∀ P L : List α, P.Pairwise R → L.Pairwise R → (∀ x ∈ L, x ∈ P) → L ∈ subs P := by
  intro P
  induction P with
  | nil =>
    intro L _ _ h
    cases L with
    | nil => simp [subs]
    | cons x L => exact absurd (h x (by simp)) (by simp)
  | cons p P ih =>
    intro L hP hL h
    obtain ⟨hp, hP2⟩ := List.pairwise_cons.1 hP
    cases L with
    | nil => exact nil_subs _
    | cons x L =>
      obtain ⟨hx, hL'⟩ := List.pairwise_cons.1 hL
      simp only [subs, List.mem_append, List.mem_map]
      rcases List.mem_cons.1 (h x (by simp)) with rfl | hxP
      · refine .inl ⟨L, ih L hP2 hL' (fun y hy => ?_), rfl⟩
        rcases List.mem_cons.1 (h y (by simp [hy])) with rfl | hy'
        · exact absurd (hx y hy) (fun g => ha _ _ g g)
        · exact hy'
      · refine .inr (ih (x :: L) hP2 hL (fun y hy => ?_))
        rcases List.mem_cons.1 (h y hy) with rfl | hy'
        · rcases List.mem_cons.1 hy with rfl | hy
          · exact absurd (hp y hxP) (fun g => ha _ _ g g)
          · exact absurd (hx y hy) (ha _ _ (hp x hxP))
        · exact hy'
theorem pw_steps {α : Type} (R : α → α → Prop) (tr : ∀ x y z, R x y → R y z → R x z) (l : List α) (h : ∀ i (hi : i + 1 < l.length), R (l[i]'(by omega)) l[i + 1]) : l.Pairwise R := by
  rw [List.pairwise_iff_getElem]
  intro i j hi hj hij
  obtain ⟨d, rfl⟩ : ∃ d, j = i + 1 + d := ⟨j - (i + 1), by omega⟩
  clear hij
  induction d with
  | zero => exact h i hj
  | succ d ih => exact tr _ _ _ (ih (by omega)) (h (i + 1 + d) hj)
/-- All pairs of n people, in order. -/
def prsN (n : Nat) : List (Nat × Nat) := (List.range' 0 n).flatMap fun a => (List.range' (a + 1) (n - (a + 1))).map fun b => (a, b)
theorem prsN_facts (n : Nat) (h : n ≤ 6) : (prsN n).length ≤ 15 ∧ (∀ p ∈ prsN n, p.1 < p.2 ∧ p.2 < n) ∧ (prsN n).Pairwise (fun p q => p.1 < q.1 ∨ p.1 = q.1 ∧ p.2 < q.2) := by
  obtain rfl | rfl | rfl | rfl | rfl | rfl | rfl : n = 0 ∨ n = 1 ∨ n = 2 ∨ n = 3 ∨ n = 4 ∨ n = 5 ∨ n = 6 := by omega
  all_goals decide
theorem mem_prsN (n a b : Nat) : (a, b) ∈ prsN n ↔ a < b ∧ b < n := by
  unfold prsN
  simp only [List.mem_flatMap, List.mem_map, List.mem_range'_1, Prod.mk.injEq]
  constructor
  · rintro ⟨x, hx, y, hy, rfl, rfl⟩; omega
  · rintro ⟨h1, h2⟩; exact ⟨a, by omega, b, by omega, rfl, rfl⟩
def pI (p : Nat × Nat) : S110 := ⟨(p.1 : Int), (p.2 : Int)⟩
theorem rd_pI (ps : List (Nat × Nat)) (i : Nat) (h : i < ps.length) : rd_T110 (ps.map pI) (i : Int) = pI ps[i] := by simp [rd_T110, List.getD, h]
def lexS (p q : S110) : Prop := p.f0 < q.f0 ∨ p.f0 = q.f0 ∧ p.f1 < q.f1
theorem goodB_sorted {n : Int} {l : List S110} (h : goodB n l = true) : l.Pairwise lexS :=
  pw_steps lexS (fun x y z h1 h2 => by unfold lexS at *; omega) l (fun i hi => (goodB_step h (i + 1) hi).2 (by omega))
theorem goodB_subs {n : Nat} (hn : n ≤ 6) {l : List S110} (h : goodB n l = true) : l ∈ subs ((prsN n).map pI) := by
  refine sorted_subs lexS (fun x y h1 => by unfold lexS at *; omega) _ l ?_ (goodB_sorted h) (fun x hx => ?_)
  · rw [List.pairwise_map]
    refine (prsN_facts n hn).2.2.imp (fun {a b} hab => ?_)
    unfold lexS pI
    simp only
    omega
  · obtain ⟨i, hi, rfl⟩ := List.getElem_of_mem hx
    have g := (goodB_step h i hi).1
    refine List.mem_map.2 ⟨(l[i].f0.toNat, l[i].f1.toNat), (mem_prsN n _ _).2 ⟨by omega, by omega⟩, ?_⟩
    obtain ⟨x, hx⟩ : ∃ x, x = l[i] := ⟨_, rfl⟩
    rw [← hx] at g ⊢
    obtain ⟨u, v⟩ := x
    simp only at g
    have e1 := Int.toNat_of_nonneg g.1
    have e2 := Int.toNat_of_nonneg (show 0 ≤ v by omega)
    simp only [pI, e1, e2]
def sides (r s : Int) : Bool := decide (1 ≤ r ∧ r ≤ 4) && decide (1 ≤ s ∧ s ≤ 4)
/-- What is told of a party by clues of the kinds 2 to 5, on both sides. -/
def chk (n : Nat) (l : List S110) : Bool :=
  let T := tabI n (adj l)
  (match spec_paNumbers.f 100 n l with
    | some ms => ms.length == n && (List.range n).all fun (a : Nat) => impl_toldOf.f 100 2 (a : Int) T == some (rd ms a)
    | none => false) &&
  (impl_toldOf.f 100 3 0 T == some (l.length : Int)) &&
  (match spec_pzThrees.f 100 n l with
    | some m => impl_toldOf.f 100 4 0 T == some m
    | none => false) &&
  (match spec_paParts.f 100 n l with
    | some m => impl_toldOf.f 100 5 0 T == some (m.length : Int)
    | none => false)
theorem chk0 : ((subs ((prsN 0).map pI)).all (chk 0)) = true := by decide +kernel
theorem chk1 : ((subs ((prsN 1).map pI)).all (chk 1)) = true := by decide +kernel
theorem chk2 : ((subs ((prsN 2).map pI)).all (chk 2)) = true := by decide +kernel
theorem chk3 : ((subs ((prsN 3).map pI)).all (chk 3)) = true := by decide +kernel
theorem chk4 : ((subs ((prsN 4).map pI)).all (chk 4)) = true := by decide +kernel
theorem chk5_0 : ((((subs ((prsN 5).map pI)).drop 0).take 128).all (chk 5)) = true := by decide +kernel
theorem chk5_1 : ((((subs ((prsN 5).map pI)).drop 128).take 128).all (chk 5)) = true := by decide +kernel
theorem chk5_2 : ((((subs ((prsN 5).map pI)).drop 256).take 128).all (chk 5)) = true := by decide +kernel
theorem chk5_3 : ((((subs ((prsN 5).map pI)).drop 384).take 128).all (chk 5)) = true := by decide +kernel
theorem chk5_4 : ((((subs ((prsN 5).map pI)).drop 512).take 128).all (chk 5)) = true := by decide +kernel
theorem chk5_5 : ((((subs ((prsN 5).map pI)).drop 640).take 128).all (chk 5)) = true := by decide +kernel
theorem chk5_6 : ((((subs ((prsN 5).map pI)).drop 768).take 128).all (chk 5)) = true := by decide +kernel
theorem chk5_7 : ((((subs ((prsN 5).map pI)).drop 896).take 128).all (chk 5)) = true := by decide +kernel
theorem subs_length {α : Type} : ∀ l : List α, (subs l).length = 2 ^ l.length
  | [] => rfl
  | x :: t => by
    have := subs_length t
    simp only [subs, List.length_append, List.length_map, List.length_cons, this, Nat.pow_succ]
    omega
theorem all_chunks {α : Type} (p : α → Bool) (L : List α) (hL : L.length ≤ 1024) (h : ∀ i, i < 8 → ((L.drop (128 * i)).take 128).all p = true) : ∀ l ∈ L, p l = true := by
  intro l hl
  obtain ⟨j, hj, rfl⟩ := List.getElem_of_mem hl
  refine List.all_eq_true.1 (h (j / 128) (by omega)) _ (List.mem_of_getElem? (i := j % 128) ?_)
  rw [List.getElem?_take_of_lt (Nat.mod_lt _ (by omega)), List.getElem?_drop, Nat.div_add_mod, List.getElem?_eq_getElem hj]
theorem chk_good {n : Nat} (hn : n ≤ 5) {l : List S110} (h : goodB n l = true) : chk n l = true := by
  have hm := goodB_subs (show n ≤ 6 by omega) h
  obtain rfl | rfl | rfl | rfl | rfl | rfl : n = 0 ∨ n = 1 ∨ n = 2 ∨ n = 3 ∨ n = 4 ∨ n = 5 := by omega
  · exact List.all_eq_true.1 chk0 l hm
  · exact List.all_eq_true.1 chk1 l hm
  · exact List.all_eq_true.1 chk2 l hm
  · exact List.all_eq_true.1 chk3 l hm
  · exact List.all_eq_true.1 chk4 l hm
  · refine all_chunks (chk 5) _ (by rw [subs_length, List.length_map]; decide) (fun i hi => ?_) l hm
    obtain rfl | rfl | rfl | rfl | rfl | rfl | rfl | rfl : i = 0 ∨ i = 1 ∨ i = 2 ∨ i = 3 ∨ i = 4 ∨ i = 5 ∨ i = 6 ∨ i = 7 := by omega
    · exact chk5_0
    · exact chk5_1
    · exact chk5_2
    · exact chk5_3
    · exact chk5_4
    · exact chk5_5
    · exact chk5_6
    · exact chk5_7
/-- What is told of a party. -/
def told (n : Nat) (l : List S110) (kd a : Int) : Int := (impl_toldOf.f 100 kd a (tabI n (adj l))).getD 0
/-- The party fits the clue. -/
def fitB (n : Nat) (l : List S110) (kd a b : Int) : Bool :=
  if kd = 0 then adj l a.toNat b.toNat else if kd = 1 then !adj l a.toNat b.toNat else if kd = 2 then told n l 2 a == b else told n l kd 0 == a
theorem chk_facts {n : Nat} (hn : n ≤ 5) {l : List S110} (h : goodB n l = true) :
    (∃ ms, spec_paNumbers.f 100 n l = some ms ∧ ms.length = n ∧ ∀ a : Nat, a < n → impl_toldOf.f 100 2 a (tabI n (adj l)) = some (rd ms a)) ∧ impl_toldOf.f 100 3 0 (tabI n (adj l)) = some (l.length : Int) ∧
    (∃ m, spec_pzThrees.f 100 n l = some m ∧ impl_toldOf.f 100 4 0 (tabI n (adj l)) = some m) ∧ (∃ m, spec_paParts.f 100 n l = some m ∧ impl_toldOf.f 100 5 0 (tabI n (adj l)) = some (m.length : Int)) := by
  have hc := chk_good hn h
  unfold chk at hc
  simp only [Bool.and_eq_true, beq_iff_eq] at hc
  obtain ⟨⟨⟨h1, h2⟩, h3⟩, h4⟩ := hc
  refine ⟨?_, h2, ?_, ?_⟩
  · cases e : spec_paNumbers.f 100 n l with
    | none => rw [e] at h1; cases h1
    | some ms =>
      rw [e] at h1
      simp only [Bool.and_eq_true, beq_iff_eq, List.all_eq_true] at h1
      exact ⟨ms, rfl, h1.1, fun a ha => h1.2 a (List.mem_range.2 ha)⟩
  · cases e : spec_pzThrees.f 100 n l with
    | none => rw [e] at h3; cases h3
    | some m => rw [e] at h3; exact ⟨m, rfl, by simpa using h3⟩
  · cases e : spec_paParts.f 100 n l with
    | none => rw [e] at h4; cases h4
    | some m => rw [e] at h4; exact ⟨m, rfl, by simpa using h4⟩
theorem toldOf_ok {n : Nat} (hn : n ≤ 5) {l : List S110} (h : goodB n l = true) (kd a : Int) (hk : kd = 2 ∧ 0 ≤ a ∧ a < n ∨ (kd = 3 ∨ kd = 4 ∨ kd = 5) ∧ a = 0) : Ev (fun k => impl_toldOf.f k kd a (tabI n (adj l))) (told n l kd a) := by
  have : ∃ r, impl_toldOf.f 100 kd a (tabI n (adj l)) = some r := by
    obtain ⟨⟨ms, _, _, h2⟩, h3, ⟨m, _, h4⟩, ⟨q, _, h5⟩⟩ := chk_facts hn h
    rcases hk with ⟨rfl, ha, hb⟩ | ⟨rfl | rfl | rfl, rfl⟩
    · obtain ⟨x, rfl⟩ := Int.eq_ofNat_of_zero_le ha
      exact ⟨_, h2 x (by omega)⟩
    · exact ⟨_, h3⟩
    · exact ⟨_, h4⟩
    · exact ⟨_, h5⟩
  obtain ⟨r, hr⟩ := this
  unfold told
  rw [hr]
  exact Ev.of (fun k => impl_toldOf.mono _ _ _ k) hr
theorem goodB_pin {n : Int} {l : List S110} (h : goodB n l = true) : pin n.toNat l := by
  intro x hx
  obtain ⟨i, hi, rfl⟩ := List.getElem_of_mem hx
  have := (goodB_step h i hi).1
  have := goodB_people h
  omega
theorem spec_pzFits.ok (n : Nat) (hn : n ≤ 5) (l : List S110) (h : goodB n l = true) (kd a b : Int) (hc : clueI n kd a b = true) : Ev (fun k => spec_pzFits.f k kd a b n l) (fitB n l kd a b) := by
  have h66 := goodB_len66 h
  have ht := spec_paTable.ok n (by omega) l (by omega) (goodB_pin h)
  obtain ⟨⟨ms, e2, hml, h2⟩, h3, ⟨m, e4, h4⟩, ⟨q, e5, h5⟩⟩ := chk_facts hn h
  unfold spec_pzFits.f fitB
  unfold clueI at hc
  by_cases k0 : kd = 0
  · subst k0
    simp only [true_or, if_true, decide_eq_true_eq] at hc
    obtain ⟨x, rfl⟩ := Int.eq_ofNat_of_zero_le hc.1
    obtain ⟨y, rfl⟩ := Int.eq_ofNat_of_zero_le (show 0 ≤ b by omega)
    rw [if_pos rfl]
    refine Ev.ite_pos rfl (Ev.bind ht (Ev.ite_pos (by omega) (Ev.ite_pos (by rw [tabB_length]; omega) (Ev.ite_pos (by omega) ?_))))
    rw [rdL_tabB n _ x (by omega)]
    refine Ev.ite_pos (by simp; omega) ?_
    rw [row_get n _ y (by omega)]
    exact Ev.now _
  · refine Ev.ite_neg k0 ?_
    rw [if_neg k0]
    by_cases k1 : kd = 1
    · subst k1
      simp only [or_true, if_true, decide_eq_true_eq] at hc
      obtain ⟨x, rfl⟩ := Int.eq_ofNat_of_zero_le hc.1
      obtain ⟨y, rfl⟩ := Int.eq_ofNat_of_zero_le (show 0 ≤ b by omega)
      rw [if_pos rfl]
      refine Ev.ite_pos rfl (Ev.bind ht (Ev.ite_pos (by omega) (Ev.ite_pos (by rw [tabB_length]; omega) (Ev.ite_pos (by omega) ?_))))
      rw [rdL_tabB n _ x (by omega)]
      refine Ev.ite_pos (by simp; omega) ?_
      rw [row_get n _ y (by omega)]
      exact Ev.now _
    · refine Ev.ite_neg k1 ?_
      rw [if_neg k1]
      rw [if_neg (by omega)] at hc
      by_cases k2 : kd = 2
      · subst k2
        simp only [if_true, decide_eq_true_eq] at hc
        obtain ⟨x, rfl⟩ := Int.eq_ofNat_of_zero_le hc.1
        rw [if_pos rfl]
        have e := h2 x (by omega)
        refine Ev.ite_pos rfl (Ev.bind (Ev.of (fun k => spec_paNumbers.mono _ _ k) e2) (Ev.ite_pos (by omega) (Ev.ite_pos (by omega) ?_)))
        unfold told
        rw [e]
        exact Ev.now _
      · refine Ev.ite_neg k2 ?_
        rw [if_neg k2] at hc ⊢
        by_cases k3 : kd = 3
        · subst k3
          refine Ev.ite_pos rfl ?_
          unfold told
          rw [h3]
          exact Ev.now _
        · refine Ev.ite_neg k3 ?_
          rw [if_neg k3] at hc
          by_cases k4 : kd = 4
          · subst k4
            refine Ev.ite_pos rfl ?_
            unfold told
            rw [h4]
            exact Ev.bind (Ev.of (fun k => spec_pzThrees.mono _ _ k) e4) (Ev.now _)
          · refine Ev.ite_neg k4 ?_
            rw [if_neg k4] at hc
            by_cases k5 : kd = 5
            · subst k5
              unfold told
              rw [h5]
              exact Ev.bind (Ev.of (fun k => spec_paParts.mono _ _ k) e5) (Ev.now _)
            · rw [if_neg k5] at hc; cases hc

def doesFit (kd a b n : Int) (l : List S110) : Bool × Bool := if goodB n l = true ∧ guests n = true ∧ clueI n kd a b = true then (fitB n.toNat l kd a b, true) else (false, false)
theorem spec_DoesFit.ok (kd a b n : Int) (l : List S110) : Ev (fun k => spec_DoesFit.f k kd a b n l) (doesFit kd a b n l) := by
  unfold spec_DoesFit.f doesFit
  refine Ev.bind (ev_of 70 fun k hk => spec_paGood.ok n l k hk) ?_
  by_cases hg : goodB n l = true
  · refine Ev.ite_pos hg ?_
    rw [spec_pzPeople.ok]
    simp only [Option.bind_some]
    by_cases hp : guests n = true
    · refine Ev.ite_pos hp ?_
      have hn : 1 ≤ n ∧ n ≤ 5 := by simpa [guests] using hp
      refine Ev.bind (ev_of 5 fun k hk => by obtain ⟨m, rfl⟩ : ∃ m, k = m + 1 := ⟨k - 1, by omega⟩; exact spec_pzClue.ok m n kd a b (by omega) (by omega)) ?_
      by_cases hc : clueI n kd a b = true
      · refine Ev.ite_pos hc ?_
        rw [if_pos ⟨hg, hp, hc⟩]
        obtain ⟨N, rfl⟩ := Int.eq_ofNat_of_zero_le (show 0 ≤ n by omega)
        exact Ev.bind (spec_pzFits.ok N (by omega) l hg kd a b hc) (Ev.now _)
      · refine Ev.ite_neg hc ?_
        rw [if_neg (fun h => hc h.2.2)]
        exact Ev.now _
    · refine Ev.ite_neg hp ?_
      rw [if_neg (fun h => hp h.2.1)]
      exact Ev.now _
  · refine Ev.ite_neg hg ?_
    rw [if_neg (fun h => hg h.1)]
    exact Ev.now _

theorem rd_T112_nat (l : List S112) (i : Nat) (h : i < l.length) : rd_T112 l (i : Int) = l[i] := by simp [rd_T112, List.getD, h]
def prs (l : List S112) : List S110 := l.map fun x => ⟨x.f0, x.f1⟩
theorem prs_length (l : List S112) : (prs l).length = l.length := by simp [prs]
theorem laws_toPairS.ok (l : List S112) (hl : l.length ≤ 1048576) (k : Nat) (hk : l.length < k) : laws_toPairS.f k l = some (prs l) := by
  unfold laws_toPairS.f
  rw [if_pos (by omega), if_pos (by omega)]
  refine fill_loop (fun k acc i => laws_toPairS.l0 k l acc i) _ l _ (by omega) 0 ?_ ?_ k hk
  · intro k acc i h _ ha
    simp only [laws_toPairS.l0, laws_toPair.f, Option.bind_some]
    rw [if_pos (by omega), if_pos (by omega), if_pos (by omega), rd_T112_nat l i h]
    rfl
  · intro k acc ha
    simp only [laws_toPairS.l0]
    rw [if_neg (by omega)]

theorem laws_toParty.ok (n : Int) (l : List S112) (hl : l.length ≤ 1048576) (k : Nat) (hk : l.length < k) : laws_toParty.f k n l = some (n, prs l) := by
  unfold laws_toParty.f
  rw [laws_toPairS.ok l hl k hk]; rfl

theorem cmp_Compare_int.ok (a b : Int) : cmp_Compare_int.f a b = some (if a < b then -1 else if a > b then 1 else 0) := by
  unfold cmp_Compare_int.f cmp_isNaN_int.f
  simp only [Option.bind_some, bne_self_eq_false]
  rw [if_neg (by simp), if_neg (by simp)]
  split <;> (try split) <;> rfl
def cmpI (a b c d : Int) : Int := if a < c then -1 else if a > c then 1 else if b < d then -1 else if b > d then 1 else 0
theorem cmp_Or_int.two (k : Nat) (x y : Int) : cmp_Or_int.f (k + 3) [x, y] = some (if x = 0 then y else x) := by
  unfold cmp_Or_int.f
  simp only [cmp_Or_int.l0, List.length_cons, List.length_nil, rd]
  by_cases hx : x = 0
  · by_cases hy : y = 0
    · simp [hx, hy, wrap_one, wrap_two]
    · simp [hx, hy, wrap_one]
  · simp [hx]
theorem impl_comparePairs.ok (k : Nat) (hk : 3 ≤ k) (a b c d : Int) : impl_comparePairs.f k a b c d = some (cmpI a b c d) := by
  obtain ⟨k, rfl⟩ : ∃ m, k = m + 3 := ⟨k - 3, by omega⟩
  unfold impl_comparePairs.f cmpI
  simp only [cmp_Compare_int.ok, Option.bind_some, cmp_Or_int.two]
  split
  · simp
  · split <;> simp
theorem cmpI_neg (x y : S110) : (cmpI x.f0 x.f1 y.f0 y.f1 ≥ 0) = (lessB x y = false) := by
  unfold cmpI lessB
  rw [eq_iff_iff, decide_eq_false_iff_not]
  split
  · constructor <;> intro h <;> omega
  · split
    · constructor <;> intro h <;> omega
    · split
      · constructor <;> intro h <;> omega
      · split <;> constructor <;> intro h <;> omega

theorem impl_areCrowd.ok (n : Int) : impl_areCrowd.f n = some (crowd n) := by unfold impl_areCrowd.f crowd; simp [impl_within.ok]

theorem impl_IsParty.ok (n : Int) (l : List S110) (hl : l.length ≤ 1048576) (k : Nat) (hk : l.length + 4 < k) : impl_IsParty.f k n l = some (goodB n l) := by
  unfold impl_IsParty.f
  rw [all_loop_fin (fun k i => impl_IsParty.l0 k l (l.length : Int) i n l) l.length (stepB n l) (crowd n) (by omega) 3 ?_ ?_ k (by omega)]
  · unfold goodB; rw [Bool.and_comm]
  · intro k i h hk3
    simp only [impl_IsParty.l0]
    rw [if_pos (by omega), if_pos (by omega), if_pos (by omega), rd_T110_nat l i h, stepB_eq n l i h]
    by_cases h1 : 0 ≤ l[i].f0 ∧ l[i].f0 < l[i].f1 ∧ l[i].f1 < n
    · rw [if_neg (by omega), if_neg (by omega), if_neg (by omega), decide_eq_true h1, Bool.true_and]
      rcases Nat.eq_zero_or_pos i with rfl | hi
      · rw [if_neg (by simp)]; simp
      · have e3 : wrap64 ((i : Int) - 1) = ((i - 1 : Nat) : Int) := by rw [wrap_id (by omega) (by omega)]; omega
        rw [if_pos (by omega), e3, if_pos (by omega), if_pos (by omega), rd_T110_nat l (i - 1) (by omega), impl_comparePairs.ok _ hk3]
        simp only [Option.bind_some, cmpI_neg]
        rw [show (i == 0) = false from by simp; omega, Bool.false_or]
        cases lessB l[i - 1] l[i] <;> rfl
    · rw [decide_eq_false h1, Bool.false_and]
      simp only [Bool.false_eq_true, if_false]
      by_cases a1 : l[i].f0 < 0
      · rw [if_pos a1]
      · rw [if_neg a1]
        by_cases a2 : l[i].f0 ≥ l[i].f1
        · rw [if_pos a2]
        · rw [if_neg a2, if_pos (by omega)]
  · intro k hk3
    simp only [impl_IsParty.l0]
    rw [if_neg (by omega), impl_areCrowd.ok]; rfl

theorem u16_bit (m i : Nat) (hm : m < 65536) (h : i ≤ 16) : (Go.bits .and .u16 (shr .u16 (m : Int) (i : Int)) 1 == 1) = m.testBit i := by
  unfold shr
  rw [Int.toNat_natCast, Nat.min_eq_left (by simpa [IntKind.bits] using h)]
  have e : ((m : Int) / 2 ^ i) = ((m / 2 ^ i : Nat) : Int) := by simp
  have hl : m / 2 ^ i < 65536 := Nat.lt_of_le_of_lt (Nat.div_le_self _ _) hm
  rw [e, show (1 : Int) = ((1 : Nat) : Int) from rfl, u16_and_nat _ _ hl (by omega), Nat.testBit_eq_decide_div_mod_eq, Nat.and_one_is_mod]
  rw [Bool.eq_iff_iff, beq_iff_eq, decide_eq_true_eq]
  omega
theorem impl_table_has.ok (n : Nat) (hn : n ≤ 12) (F : Nat → Nat → Bool) (a b : Nat) (ha : a < n) (hb : b < n) : impl_table_has.f (tabI n F) (a : Int) (b : Int) = some (F a b) := by
  unfold impl_table_has.f
  rw [if_pos (by omega), if_pos (by rw [tabI_length]; omega), if_pos (by omega), tabI_rd n F a ha, u16_bit _ _ (msk_lt16 _ _ (by omega)) (by omega), msk_testBit, decide_eq_true hb]
  rfl

theorem impl_fits.ok (n : Nat) (hn : n ≤ 5) (l : List S110) (h : goodB n l = true) (kd a b : Int) (hc : clueI n kd a b = true) : Ev (fun k => impl_Clue_fits.f k kd a b (tabI n (adj l))) (fitB n l kd a b) := by
  unfold impl_Clue_fits.f fitB
  unfold clueI at hc
  by_cases k0 : kd = 0
  · subst k0
    simp only [true_or, if_true, decide_eq_true_eq] at hc
    obtain ⟨x, rfl⟩ := Int.eq_ofNat_of_zero_le hc.1
    obtain ⟨y, rfl⟩ := Int.eq_ofNat_of_zero_le (show 0 ≤ b by omega)
    rw [if_pos rfl]
    refine Ev.ite_pos rfl (Ev.step (f := fun _ => some (adj l x y)) (fun k => ?_) (Ev.now _))
    simp only [impl_Clue_fits.j0]
    rw [if_pos (by decide), impl_table_has.ok n (by omega) _ x y (by omega) (by omega)]
    simp
  · by_cases k1 : kd = 1
    · subst k1
      simp only [or_true, if_true, decide_eq_true_eq] at hc
      obtain ⟨x, rfl⟩ := Int.eq_ofNat_of_zero_le hc.1
      obtain ⟨y, rfl⟩ := Int.eq_ofNat_of_zero_le (show 0 ≤ b by omega)
      rw [if_neg (by omega), if_pos rfl]
      refine Ev.ite_neg (by omega) (Ev.step (f := fun _ => some (!adj l x y)) (fun k => ?_) (Ev.now _))
      simp only [impl_Clue_fits.j0]
      rw [if_pos (by decide), impl_table_has.ok n (by omega) _ x y (by omega) (by omega)]
      simp
    · rw [if_neg k0, if_neg k1]
      refine Ev.ite_neg k0 ?_
      rw [if_neg (by omega)] at hc
      by_cases k2 : kd = 2
      · subst k2
        simp only [if_true, decide_eq_true_eq] at hc
        rw [if_pos rfl]
        refine Ev.step (f := fun k => (impl_toldOf.f k 2 a (tabI n (adj l))).bind fun t => some (t == b)) (fun k => ?_) (Ev.bind (toldOf_ok hn h 2 a (.inl ⟨rfl, hc.1, by omega⟩)) (Ev.now _))
        simp only [impl_Clue_fits.j0]
        rw [if_neg (by decide), if_pos trivial]
      · have k3 : kd = 3 ∨ kd = 4 ∨ kd = 5 := by
          rw [if_neg k2] at hc
          by_cases k3 : kd = 3
          · exact .inl k3
          · rw [if_neg k3] at hc
            by_cases k4 : kd = 4
            · exact .inr (.inl k4)
            · rw [if_neg k4] at hc
              by_cases k5 : kd = 5
              · exact .inr (.inr k5)
              · rw [if_neg k5] at hc; cases hc
        rw [if_neg k2]
        refine Ev.step (f := fun k => (impl_toldOf.f k kd 0 (tabI n (adj l))).bind fun t => some (t == a)) (fun k => ?_) (Ev.bind (toldOf_ok hn h kd 0 (.inr ⟨k3, rfl⟩)) (Ev.now _))
        simp only [impl_Clue_fits.j0]
        rw [if_neg (by simp; omega), if_neg k2]

theorem tabI_none (n : Nat) : List.replicate n (0 : Int) = tabI n (adj []) := by
  apply List.ext_getElem (by simp [tabI])
  intro i h1 h2
  have : msk (adj [] i) n = 0 := by
    apply Nat.eq_of_testBit_eq
    intro j
    rw [msk_testBit]
    simp [adj]
  simp [tabI, this]
-- pairnat
theorem impl_Party_table.ok (n : Nat) (hn : n ≤ 12) (l : List S110) (hl : l.length ≤ 1048576) (hp : pin n l) : Ev (fun k => impl_Party_table.f k (n : Int) l) (tabI n (adj l)) := by
  have h1 : Ev (fun k => impl_Party_table.l0 k (tabI n (adj (l.take 0))) l (l.length : Int) ((0 : Nat) : Int)) (tabI n (adj l)) := by
    refine up_loop (P := fun i => Ev (fun k => impl_Party_table.l0 k (tabI n (adj (l.take i))) l (l.length : Int) (i : Int)) (tabI n (adj l))) (n := l.length) ?_ ?_ 0 (Nat.zero_le _)
    · refine Ev.step (f := fun _ => some (tabI n (adj l))) (fun k => ?_) (Ev.now _)
      simp only [impl_Party_table.l0]
      rw [if_neg (by omega), List.take_length]
    · intro i hi h
      refine Ev.step (fun k => ?_) h
      obtain ⟨q0, q1, q2, q3⟩ := hp l[i] (List.getElem_mem hi)
      obtain ⟨a, ea⟩ := Int.eq_ofNat_of_zero_le q0
      obtain ⟨b, eb⟩ := Int.eq_ofNat_of_zero_le q2
      have ha : a < n := by omega
      have hb : b < n := by omega
      simp only [impl_Party_table.l0, Option.bind_some]
      rw [if_pos (by omega), if_pos (by omega), if_pos (by omega), rd_T110_nat l i hi, ea, eb, tabI_rd n _ a ha, if_pos (by omega), if_pos (by rw [tabI_length]; omega), if_pos (by omega), if_pos (by rw [tabI_length]; omega)]
      simp only [Int.toNat_natCast]
      rw [tabI_set n _ a b (by omega) ha hb, tabI_rd n _ b hb, tabI_set n _ b a (by omega) hb ha, nat_succ i (by omega), adj_take l i hi, ea, eb]
      simp only [Int.toNat_natCast]
  unfold impl_Party_table.f
  refine Ev.congr (fun k => ?_) h1
  rw [if_pos (by omega), if_pos (by omega)]
  simp only [Int.toNat_natCast, tabI_none, List.take_zero]
  rfl

theorem impl_DoesFit.ok (kd a b n : Int) (l : List S110) (hl : l.length ≤ 1048576) : Ev (fun k => impl_DoesFit.f k kd a b n l) (doesFit kd a b n l) := by
  unfold impl_DoesFit.f doesFit impl_isGuestParty.f
  have hgs : impl_areGuests.f n = some (guests n) := by unfold impl_areGuests.f guests; simp [impl_within.ok]
  have h1 : Ev (fun k => (impl_IsParty.f k n l).bind fun t => if t = true then (impl_areGuests.f n).bind fun u => some u else some false) (goodB n l && guests n) := by
    refine Ev.bind (ev_of (l.length + 5) fun k hk => impl_IsParty.ok n l hl k (by omega)) ?_
    by_cases hg : goodB n l = true
    · refine Ev.ite_pos hg ?_
      rw [hgs, hg]
      exact Ev.now _
    · refine Ev.ite_neg hg ?_
      rw [show goodB n l = false from by simpa using hg]
      exact Ev.now _
  refine Ev.bind h1 ?_
  have hfalse : Ev (fun k => impl_DoesFit.j0 k true kd a b n l) (false, false) := Ev.step (f := fun _ => some (false, false)) (fun k => by simp [impl_DoesFit.j0]) (Ev.now _)
  by_cases hg : goodB n l = true ∧ guests n = true
  · refine Ev.ite_pos (by rw [hg.1, hg.2]; rfl) ?_
    refine Ev.bind (ev_of 5 fun k hk => by obtain ⟨m, rfl⟩ : ∃ m, k = m + 4 := ⟨k - 4, by omega⟩; exact impl_IsClue.ok m n kd a b) ?_
    by_cases hc : clueI n kd a b = true
    · rw [if_pos ⟨hg.1, hg.2, hc⟩, hg.2, hc]
      have hn : 1 ≤ n ∧ n ≤ 5 := by simpa [guests] using hg.2
      obtain ⟨N, rfl⟩ := Int.eq_ofNat_of_zero_le (show 0 ≤ n by omega)
      have h66 := goodB_len66 hg.1
      refine Ev.step (f := fun k => (impl_Party_table.f k (N : Int) l).bind fun t => (impl_Clue_fits.f k kd a b t).bind fun u => some (u, true)) (fun k => by simp [impl_DoesFit.j0]) ?_
      exact Ev.bind (impl_Party_table.ok N (by omega) l (by omega) (goodB_pin hg.1)) (Ev.bind (impl_fits.ok N (by omega) l hg.1 kd a b hc) (Ev.now _))
    · rw [if_neg (fun h => hc h.2.2), hg.2, show clueI n kd a b = false from by simpa using hc]
      exact hfalse
  · refine Ev.ite_neg (by simpa using hg) ?_
    rw [if_neg (fun h => hg ⟨h.1, h.2.1⟩)]
    exact hfalse

theorem laws_eqPairS.refl (l : List S110) (hl : l.length ≤ 1048576) (k : Nat) (hk : l.length < k) : laws_eqPairS.f k l l = some true := by
  unfold laws_eqPairS.f
  rw [if_pos rfl]
  rw [all_loop (fun k i => laws_eqPairS.l0 k l l i) l.length (fun _ => true) (by omega) 0 ?_ ?_ k hk]
  · simp
  · intro k i h _
    simp only [laws_eqPairS.l0, laws_eqPair.f]
    rw [if_pos (by omega), if_pos (by omega), if_pos (by omega)]
    simp
  · intro k
    simp only [laws_eqPairS.l0]
    rw [if_neg (by omega)]

theorem laws_eqParty.refl (n : Int) (l : List S110) (hl : l.length ≤ 1048576) (k : Nat) (hk : l.length < k) : laws_eqParty.f k n l n l = some true := by
  unfold laws_eqParty.f
  rw [if_pos rfl, laws_eqPairS.refl l hl k hk]; rfl

end Go.Proofs.YtdnkipagpagfiaaDoor.PFnExactDoesFit
namespace Go.Proofs.YtdnkipagpagfiaaDoor
open Go.RowKit Go.Proofs.YtdnkipagpagfiaaDoor.Base Go.Proofs.YtdnkipagpagfiaaDoor.PFnExactDoesFit Go.Proofs.YtdnkipagpagfiaaDoorW.PrintWords Go.Proofs.YtdnkipagpagfiaaDoorW.PrintLast Go.Proofs.YtdnkipagpagfiaaDoorW.PrintMore
theorem fnExactDoesFit_pure : fnExactDoesFit.Pure := by
  intro kd a b n l hkd ha hb hn hl
  have hm := hl.1
  refine Ev.rounds (g := fun k => laws_FnExactDoesFit.f k kd a b n l) ?_
  unfold laws_FnExactDoesFit.f
  rw [laws_szParty.ok n l _ (by omega) (by omega) hl.1]
  simp only [Option.bind_some]
  by_cases h0 : (1048576 : Int) - l.length < 0
  · rw [if_pos h0]
    exact Ev.ite_pos (by omega) (Ev.now _)
  · rw [if_neg h0]
    refine Ev.ite_neg (by omega) ?_
    have hlen : l.length ≤ 1048576 := by omega
    have hpl : (prs l).length ≤ 1048576 := by rw [prs_length]; exact hlen
    have ht : Ev (fun k => laws_toParty.f k n l) (n, prs l) := ev_of (l.length + 1) fun k hk => laws_toParty.ok n l hlen k (by omega)
    simp only [laws_toClue.f, Option.bind_some]
    refine Ev.bind ht ?_
    refine Ev.bind (spec_DoesFit.ok kd a b n (prs l)) ?_
    refine Ev.bind ht ?_
    refine Ev.bind (impl_DoesFit.ok kd a b n (prs l) hpl) ?_
    refine Ev.ite_neg (by simp) (Ev.ite_neg (by simp) (Ev.bind ht ?_))
    refine Ev.bind (ev_of ((prs l).length + 1) fun k hk => laws_eqParty.refl n (prs l) hpl k (by omega)) ?_
    exact Ev.ite_pos rfl (Ev.now _)
theorem fnExactDoesFit_holds : Rows.FnExactDoesFitCardSaid := fnExactDoesFit.proved fnExactDoesFit_pure
end Go.Proofs.YtdnkipagpagfiaaDoor
