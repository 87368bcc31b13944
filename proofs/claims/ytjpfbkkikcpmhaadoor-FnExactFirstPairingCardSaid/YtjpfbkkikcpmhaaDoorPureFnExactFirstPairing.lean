import Derived.Test.YtjpfbkkikcpmhaaDoorLawFnExactFirstPairing
import Derived.Test.YtjpfbkkikcpmhaaDoorPBase
import Derived.Test.YtjpfbkkikcpmhaaDoorGraph
namespace Go.Proofs.YtjpfbkkikcpmhaaDoor.PFnExactFirstPairing
set_option linter.unusedVariables false
set_option linter.unusedSimpArgs false
open Go.RowKit Go.Proofs.YtjpfbkkikcpmhaaDoor.Base Go.Proofs.YtjpfbkkikcpmhaaDoor.PFnExactFirstPairing Go.Proofs.YtjpfbkkikcpmhaaDoorW.PrintWords Go.Proofs.YtjpfbkkikcpmhaaDoorW.PrintLast Go.Proofs.YtjpfbkkikcpmhaaDoorW.PrintMore
theorem laws_szPairS.ok (l : List S118) (n : Int) (h0 : 0 ≤ n) (h1 : n ≤ 1048576) (hl : l.length ≤ maxLen) : laws_szPairS.f l n = some (if n - l.length < 0 then -1 else n - l.length) := by
  unfold maxLen at hl
  unfold laws_szPairS.f
  rw [wrap_id (by omega) (by omega)]
  split <;> rfl

theorem laws_szParty.ok (p : Int) (l : List S118) (n : Int) (h0 : 0 ≤ n) (h1 : n ≤ 1048576) (hl : l.length ≤ maxLen) : laws_szParty.f p l n = some (if n - l.length < 0 then -1 else n - l.length) := by
  unfold laws_szParty.f
  rw [laws_szPairS.ok l n h0 h1 hl]
  simp only [Option.bind_some]
  by_cases h : n - (l.length : Int) < 0
  · simp [h]
  · simp [h]

theorem rd_T118_nat (l : List S118) (i : Nat) (h : i < l.length) : rd_T118 l (i : Int) = l[i] := by simp [rd_T118, List.getD, h]
def prs (l : List S118) : List S105 := l.map fun x => ⟨x.f0, x.f1⟩
theorem prs_length (l : List S118) : (prs l).length = l.length := by simp [prs]
theorem laws_toPairS.ok (l : List S118) (hl : l.length ≤ 1048576) (k : Nat) (hk : l.length < k) : laws_toPairS.f k l = some (prs l) := by
  unfold laws_toPairS.f
  rw [if_pos (by omega), if_pos (by omega)]
  refine fill_loop (fun k acc i => laws_toPairS.l0 k l acc i) _ l _ (by omega) 0 ?_ ?_ k hk
  · intro k acc i h _ ha
    simp only [laws_toPairS.l0, laws_toPair.f, Option.bind_some]
    rw [if_pos (by omega), if_pos (by omega), if_pos (by omega), rd_T118_nat l i h]
    rfl
  · intro k acc ha
    simp only [laws_toPairS.l0]
    rw [if_neg (by omega)]

theorem laws_toParty.ok (n : Int) (l : List S118) (hl : l.length ≤ 1048576) (k : Nat) (hk : l.length < k) : laws_toParty.f k n l = some (n, prs l) := by
  unfold laws_toParty.f
  rw [laws_toPairS.ok l hl k hk]; rfl

theorem laws_eqPairS.refl (l : List S105) (hl : l.length ≤ 1048576) (k : Nat) (hk : l.length < k) : laws_eqPairS.f k l l = some true := by
  unfold laws_eqPairS.f
  rw [if_pos rfl]
  rw [all_loop (fun k i => laws_eqPairS.l0 k l l i) l.length (fun _ => true) (by omega) 0 ?_ ?_ k hk]
  · simp
  · intro k i h _
    simp only [laws_eqPairS.l0, laws_eqPair.f]
    rw [if_pos (by omega), if_pos (by omega), if_pos (by omega)]
    simp
  · intro k
    simp only [laws_eqPairS.l0]
    rw [if_neg (by omega)]

theorem laws_eqParty.refl (n : Int) (l : List S105) (hl : l.length ≤ 1048576) (k : Nat) (hk : l.length < k) : laws_eqParty.f k n l n l = some true := by
  unfold laws_eqParty.f
  rw [if_pos rfl, laws_eqPairS.refl l hl k hk]; rfl

theorem rd_T105_nat (l : List S105) (i : Nat) (h : i < l.length) : rd_T105 l (i : Int) = l[i] := by simp [rd_T105, List.getD, h]
/-- Pairs marked from a number on. -/
def mkp : Nat → Nat → List S105
  | _, 0 => []
  | m, n + 1 => ⟨(m : Int), ((m + 1 : Nat) : Int)⟩ :: mkp (m + 2) n
theorem set_mid {α : Type} (pre : List α) (x y : α) (post : List α) : (pre ++ x :: post).set pre.length y = pre ++ y :: post := by
  rw [List.set_append_right _ _ (Nat.le_refl _), Nat.sub_self, List.set_cons_zero]
theorem getD_mid {α : Type} (pre : List α) (x z : α) (post : List α) : (pre ++ x :: post).getD pre.length z = x := by
  rw [List.getD_eq_getElem?_getD, List.getElem?_append_right (Nat.le_refl _), Nat.sub_self]
  rfl
theorem snoc_mid {α : Type} (pre : List α) (x : α) (post : List α) : pre ++ x :: post = (pre ++ [x]) ++ post := by simp
-- mkp
theorem laws_markPairS.go : ∀ (l pre : List S105) (m : Nat), m + 2 * l.length ≤ 1000000000 → pre.length + l.length ≤ 1000000000 → Ev (fun k => laws_markPairS.l0 k (pre ++ l) (m : Int) (pre.length : Int)) (((m + 2 * l.length : Nat) : Int), pre ++ mkp m l.length)
  | [], pre, m, hm, hp => by
    refine Ev.step (f := fun _ => some (((m + 2 * ([] : List S105).length : Nat) : Int), pre ++ mkp m ([] : List S105).length)) (fun k => ?_) (Ev.now _)
    rw [laws_markPairS.l0, if_neg (by simp)]
    simp [mkp]
  | x :: l, pre, m, hm, hp => by
    simp only [List.length_cons] at hm hp
    have h := laws_markPairS.go l (pre ++ [⟨(m : Int), ((m + 1 : Nat) : Int)⟩]) (m + 2) (by omega) (by simp; omega)
    rw [List.length_append, List.length_singleton] at h
    refine Ev.step (fun k => ?_) (by
      rw [show (pre ++ [(⟨(m : Int), ((m + 1 : Nat) : Int)⟩ : S105)]) ++ mkp (m + 2) l.length = pre ++ mkp m (x :: l).length from by rw [List.length_cons, mkp]; simp, show m + 2 + 2 * l.length = m + 2 * (x :: l).length from by rw [List.length_cons]; omega] at h
      exact h)
    have e2 : wrap64 ((wrap64 ((m : Int) + 1)) + 1) = ((m + 2 : Nat) : Int) := by rw [wrap_id (x := (m : Int) + 1) (by omega) (by omega), wrap_id (by omega) (by omega)]; omega
    have e1 : wrap64 ((m : Int) + 1) = ((m + 1 : Nat) : Int) := by rw [wrap_id (by omega) (by omega)]; omega
    rw [laws_markPairS.l0, if_pos (by simp; omega), if_pos (by omega), Int.toNat_natCast, set_mid, Option.bind_some, set_mid, e2, e1, nat_succ pre.length (by omega), ← snoc_mid]
    rw [show rd_T105 (pre ++ (⟨(m : Int), (rd_T105 (pre ++ x :: l) (pre.length : Int)).f1⟩ : S105) :: l) (pre.length : Int) = ⟨(m : Int), (rd_T105 (pre ++ x :: l) (pre.length : Int)).f1⟩ from getD_mid _ _ _ _]
theorem laws_markPairS.any (l : List S105) (m : Nat) (hm : m + 2 * l.length ≤ 1000000000) : Ev (fun k => laws_markPairS.f k l (m : Int)) (((m + 2 * l.length : Nat) : Int), mkp m l.length) := laws_markPairS.go l [] m hm (by simp; omega)
-- pairnat
def mkPair (i : Nat) : S105 := ⟨1 + 2 * i, 2 + 2 * i⟩
theorem laws_markPairS.ok (l : List S105) (hl : l.length ≤ 1048576) (k : Nat) (hk : l.length < k) : laws_markPairS.f k l 1 = some (1 + 2 * (l.length : Int), (List.range l.length).map mkPair) := by
  unfold laws_markPairS.f
  refine mark_loop (fun k acc m i => laws_markPairS.l0 k acc m i) mkPair 2 l.length ?_ ?_ k l rfl hk
  · intro k acc i h ha
    have e1 : wrap64 (1 + ((2 : Nat) : Int) * i + 1) = 2 + 2 * i := by rw [wrap_id (by omega) (by omega)]; omega
    have e3 : wrap64 (2 + 2 * (i : Int) + 1) = 1 + ((2 : Nat) : Int) * ((i + 1 : Nat) : Int) := by rw [wrap_id (by omega) (by omega)]; omega
    have e4 : wrap64 ((i : Int) + 1) = ((i + 1 : Nat) : Int) := by rw [wrap_id (by omega) (by omega)]; omega
    have hr : ∀ (q : List S105) (x : S105), q.length = l.length → rd_T105 (q.set i x) (i : Int) = x := by
      intro q x hq
      rw [rd_T105_nat _ i (by simp; omega)]; simp
    simp only [laws_markPairS.l0, e1, e3, e4, Int.toNat_natCast, Option.bind_some]
    rw [if_pos (by omega), if_pos (by omega), hr acc _ ha]
    simp only [List.set_set]
    simp only [mkPair]
    rfl
  · intro k acc m ha
    simp only [laws_markPairS.l0]
    rw [if_neg (by omega)]

theorem laws_markParty.ok (n : Int) (l : List S105) (hl : l.length ≤ 1048576) (k : Nat) (hk : l.length < k) : laws_markParty.f k n l 1 = some (1 + 2 * (l.length : Int), (List.range l.length).map mkPair) := by
  unfold laws_markParty.f
  rw [laws_markPairS.ok l hl k hk]; rfl

theorem spec_l1In.ok (n lo hi : Int) : spec_l1In.f n lo hi = some (decide (lo ≤ n ∧ n ≤ hi)) := by
  unfold spec_l1In.f
  by_cases h : lo ≤ n <;> simp [h]

theorem spec_paPeople.ok (n : Int) : spec_paPeople.f n = some (crowd n) := by unfold spec_paPeople.f crowd; simp [spec_l1In.ok]

def lessB (x y : S105) : Bool := decide (x.f0 < y.f0 ∨ x.f0 = y.f0 ∧ x.f1 < y.f1)
theorem spec_paLess.ok (a b c d : Int) : spec_paLess.f a b c d = some (lessB ⟨a, b⟩ ⟨c, d⟩) := by
  unfold spec_paLess.f lessB
  by_cases h : a < c
  · simp [h]
  · by_cases h2 : a = c
    · subst h2; simp
    · simp [h, h2]

-- pairnat
/-- What is asked of pair number i of a party of n people. -/
def stepB (n : Int) (l : List S105) (i : Nat) : Bool := decide (0 ≤ (l.getD i z105).f0 ∧ (l.getD i z105).f0 < (l.getD i z105).f1 ∧ (l.getD i z105).f1 < n) && (i == 0 || lessB (l.getD (i - 1) z105) (l.getD i z105))
/-- n and l are a party. -/
def goodB (n : Int) (l : List S105) : Bool := crowd n && (List.range l.length).all (stepB n l)
theorem goodB_people {n : Int} {l : List S105} (h : goodB n l = true) : 0 ≤ n ∧ n ≤ 12 := by
  unfold goodB crowd at h
  simp only [Bool.and_eq_true, decide_eq_true_eq] at h
  exact h.1
theorem goodB_step {n : Int} {l : List S105} (h : goodB n l = true) (i : Nat) (hi : i < l.length) : (0 ≤ l[i].f0 ∧ l[i].f0 < l[i].f1 ∧ l[i].f1 < n) ∧ (∀ h0 : 0 < i, l[i - 1].f0 < l[i].f0 ∨ l[i - 1].f0 = l[i].f0 ∧ l[i - 1].f1 < l[i].f1) := by
  unfold goodB at h
  simp only [Bool.and_eq_true, List.all_eq_true] at h
  have := h.2 i (List.mem_range.2 hi)
  unfold stepB lessB at this
  simp only [List.getD, List.getElem?_eq_getElem hi, List.getElem?_eq_getElem (show i - 1 < l.length by omega), Option.getD_some, Bool.and_eq_true, Bool.or_eq_true, decide_eq_true_eq, beq_iff_eq] at this
  refine ⟨this.1, fun h0 => ?_⟩
  rcases this.2 with h | h
  · omega
  · exact h
theorem goodB_len {n : Int} {l : List S105} (h : goodB n l = true) : 2 * (l.length : Int) ≤ n * (n - 1) := by
  refine pairs_bound n l.length (fun i => (l.getD i z105).f0) (fun i => (l.getD i z105).f1) ?_ ?_ (goodB_people h).1
  · intro i hi
    simp only [List.getD, List.getElem?_eq_getElem hi, Option.getD_some]
    exact (goodB_step h i hi).1
  · intro i hi
    simp only [List.getD, List.getElem?_eq_getElem hi, List.getElem?_eq_getElem (show i < l.length by omega), Option.getD_some]
    exact (goodB_step h (i + 1) hi).2 (by omega)
theorem goodB_len66 {n : Int} {l : List S105} (h : goodB n l = true) : l.length ≤ 66 := by
  have h1 := goodB_len h
  have h2 := goodB_people h
  obtain ⟨m, rfl⟩ := Int.eq_ofNat_of_zero_le h2.1
  obtain rfl | rfl | rfl | rfl | rfl | rfl | rfl | rfl | rfl | rfl | rfl | rfl | rfl : m = 0 ∨ m = 1 ∨ m = 2 ∨ m = 3 ∨ m = 4 ∨ m = 5 ∨ m = 6 ∨ m = 7 ∨ m = 8 ∨ m = 9 ∨ m = 10 ∨ m = 11 ∨ m = 12 := by omega
  all_goals omega
-- pairnat
theorem stepB_eq (n : Int) (l : List S105) (i : Nat) (hi : i < l.length) : stepB n l i = (decide (0 ≤ l[i].f0 ∧ l[i].f0 < l[i].f1 ∧ l[i].f1 < n) && (i == 0 || lessB l[i - 1] l[i])) := by
  unfold stepB
  simp only [List.getD, List.getElem?_eq_getElem hi, List.getElem?_eq_getElem (show i - 1 < l.length by omega), Option.getD_some]
theorem half (n : Int) (h0 : 0 ≤ n) (h1 : n ≤ 12) : wrap64 (Int.tdiv (wrap64 (n * (wrap64 (n - 1)))) 2) = n * (n - 1) / 2 := by
  obtain ⟨m, rfl⟩ := Int.eq_ofNat_of_zero_le h0
  have : m ≤ 12 := by omega
  obtain rfl | rfl | rfl | rfl | rfl | rfl | rfl | rfl | rfl | rfl | rfl | rfl | rfl : m = 0 ∨ m = 1 ∨ m = 2 ∨ m = 3 ∨ m = 4 ∨ m = 5 ∨ m = 6 ∨ m = 7 ∨ m = 8 ∨ m = 9 ∨ m = 10 ∨ m = 11 ∨ m = 12 := by omega
  all_goals (unfold wrap64; decide)
theorem spec_paGood.ok (n : Int) (l : List S105) (k : Nat) (hk : 70 ≤ k) : spec_paGood.f k n l = some (goodB n l) := by
  obtain ⟨k, rfl⟩ : ∃ m, k = m + 1 := ⟨k - 1, by omega⟩
  unfold spec_paGood.f
  rw [spec_paPeople.ok]
  simp only [Option.bind_some]
  by_cases hn : crowd n = true
  · have hc : 0 ≤ n ∧ n ≤ 12 := by simpa [crowd] using hn
    rw [if_pos hn, half n hc.1 hc.2]
    simp only [spec_paGood.j0]
    by_cases hl : (l.length : Int) > n * (n - 1) / 2
    · rw [if_pos (by simpa using hl)]
      congr 1
      symm
      rw [Bool.eq_false_iff]
      intro h
      have := goodB_len h
      omega
    · rw [if_neg (by simpa using hl)]
      have h66 : l.length ≤ 66 := by
        obtain ⟨m, rfl⟩ := Int.eq_ofNat_of_zero_le hc.1
        have : m ≤ 12 := by omega
        obtain rfl | rfl | rfl | rfl | rfl | rfl | rfl | rfl | rfl | rfl | rfl | rfl | rfl : m = 0 ∨ m = 1 ∨ m = 2 ∨ m = 3 ∨ m = 4 ∨ m = 5 ∨ m = 6 ∨ m = 7 ∨ m = 8 ∨ m = 9 ∨ m = 10 ∨ m = 11 ∨ m = 12 := by omega
        all_goals omega
      rw [all_loop (fun k i => spec_paGood.l0 k l (l.length : Int) i n l) l.length (stepB n l) (by omega) 0 ?_ ?_ k (by omega)]
      · unfold goodB; rw [hn]; rfl
      · intro k i h _
        have e1 : wrap64 (n - 1) = n - 1 := wrap_id (by omega) (by omega)
        simp only [spec_paGood.l0]
        rw [if_pos (by omega), if_pos (by omega), if_pos (by omega), rd_T105_nat l i h, spec_l1In.ok]
        simp only [Option.bind_some, e1]
        rw [stepB_eq n l i h]
        by_cases hA : 0 ≤ l[i].f0 ∧ l[i].f0 ≤ n - 1
        · have e2 : wrap64 (l[i].f0 + 1) = l[i].f0 + 1 := wrap_id (by omega) (by omega)
          rw [if_pos (by simpa using hA), spec_l1In.ok, e2]
          simp only [Option.bind_some]
          by_cases hB : l[i].f0 + 1 ≤ l[i].f1 ∧ l[i].f1 ≤ n - 1
          · rw [if_pos (by simpa using hB), decide_eq_true (show 0 ≤ l[i].f0 ∧ l[i].f0 < l[i].f1 ∧ l[i].f1 < n from ⟨by omega, by omega, by omega⟩)]
            simp only [Bool.true_and]
            rcases Nat.eq_zero_or_pos i with rfl | hi
            · rw [if_neg (by simp)]; simp
            · have e3 : wrap64 ((i : Int) - 1) = ((i - 1 : Nat) : Int) := by rw [wrap_id (by omega) (by omega)]; omega
              rw [if_pos (by omega), e3, if_pos (by omega), if_pos (by omega), rd_T105_nat l (i - 1) (by omega), spec_paLess.ok]
              simp only [Option.bind_some]
              rw [show (i == 0) = false from by simp; omega, Bool.false_or]
          · rw [if_neg (by simpa using hB), decide_eq_false (show ¬ (0 ≤ l[i].f0 ∧ l[i].f0 < l[i].f1 ∧ l[i].f1 < n) from by omega)]; simp
        · rw [if_neg (by simpa using hA), decide_eq_false (show ¬ (0 ≤ l[i].f0 ∧ l[i].f0 < l[i].f1 ∧ l[i].f1 < n) from by omega)]; simp
      · intro k
        simp only [spec_paGood.l0]
        rw [if_neg (by omega)]
  · have hn : crowd n = false := by simpa using hn
    rw [hn, if_neg (by simp)]
    simp [spec_paGood.j0, goodB, hn]

theorem rdL_tabB (n : Nat) (F : Nat → Nat → Bool) (a : Nat) (h : a < n) : rd_L4 (tabB n F) (a : Int) = (List.range n).map (F a) := by
  simp only [rd_L4, Int.toNat_natCast]
  exact tabB_getD n F a h
/-- Two people are friends. -/
def adj (l : List S105) (a b : Nat) : Bool := l.any fun x => decide (x.f0.toNat = a ∧ x.f1.toNat = b ∨ x.f1.toNat = a ∧ x.f0.toNat = b)
theorem adj_symm (l : List S105) (a b : Nat) : adj l a b = adj l b a := by
  unfold adj
  congr 1
  funext x
  rw [decide_eq_decide]
  constructor <;> intro h <;> omega
/-- All pairs are of people below n. -/
def pin (n : Nat) (l : List S105) : Prop := ∀ x ∈ l, 0 ≤ x.f0 ∧ x.f0 < n ∧ 0 ≤ x.f1 ∧ x.f1 < n
-- pairnat
theorem adj_take (l : List S105) (i : Nat) (hi : i < l.length) : adj (l.take (i + 1)) = upd (upd (adj (l.take i)) l[i].f0.toNat l[i].f1.toNat true) l[i].f1.toNat l[i].f0.toNat true := by
  funext x y
  unfold adj upd
  rw [List.take_succ_eq_append_getElem hi, List.any_append]
  simp only [List.any_cons, List.any_nil, Bool.or_false]
  by_cases h1 : x = l[i].f1.toNat ∧ y = l[i].f0.toNat
  · rw [if_pos h1, decide_eq_true (by omega), Bool.or_true]
  · by_cases h2 : x = l[i].f0.toNat ∧ y = l[i].f1.toNat
    · rw [if_neg h1, if_pos h2, decide_eq_true (by omega), Bool.or_true]
    · rw [if_neg h1, if_neg h2, decide_eq_false (by omega), Bool.or_false]
theorem tabB_none (n : Nat) : List.replicate n (List.replicate n false) = tabB n (adj []) := by
  apply List.ext_getElem (by simp [tabB])
  intro i h1 h2
  simp only [List.getElem_replicate, tabB, List.getElem_map]
  apply List.ext_getElem (by simp)
  intro j g1 g2
  simp [adj]
theorem spec_paTable.ok (n : Nat) (hn : n ≤ 12) (l : List S105) (hl : l.length ≤ 1048576) (hp : pin n l) : Ev (fun k => spec_paTable.f k (n : Int) l) (tabB n (adj l)) := by
  have h1 : Ev (fun k => spec_paTable.l1 k (tabB n (adj (l.take 0))) l (l.length : Int) ((0 : Nat) : Int)) (tabB n (adj l)) := by
    refine up_loop (P := fun i => Ev (fun k => spec_paTable.l1 k (tabB n (adj (l.take i))) l (l.length : Int) (i : Int)) (tabB n (adj l))) (n := l.length) ?_ ?_ 0 (Nat.zero_le _)
    · refine Ev.step (f := fun _ => some (tabB n (adj l))) (fun k => ?_) (Ev.now _)
      simp only [spec_paTable.l1]
      rw [if_neg (by omega), List.take_length]
    · intro i hi h
      refine Ev.step (fun k => ?_) h
      obtain ⟨q0, q1, q2, q3⟩ := hp l[i] (List.getElem_mem hi)
      obtain ⟨a, ea⟩ := Int.eq_ofNat_of_zero_le q0
      obtain ⟨b, eb⟩ := Int.eq_ofNat_of_zero_le q2
      have ha : a < n := by omega
      have hb : b < n := by omega
      simp only [spec_paTable.l1, Option.bind_some]
      rw [if_pos (by omega), if_pos (by omega), if_pos (by omega), rd_T105_nat l i hi, ea, eb, rdL_tabB n _ a ha, if_pos (by omega), if_pos (by rw [tabB_length]; omega), if_pos (by omega), if_pos (by simp; omega), if_pos (by rw [tabB_length]; omega)]
      simp only [Int.toNat_natCast]
      rw [tabB_set n _ a b true ha, rdL_tabB n _ b hb, if_pos (by simp; omega), tabB_set n _ b a true hb, nat_succ i (by omega), adj_take l i hi, ea, eb]
      simp only [Int.toNat_natCast]
  unfold spec_paTable.f
  have h0 := up_loop (P := fun i => Ev (fun k => spec_paTable.l0 k (List.replicate i (List.replicate n false)) (i : Int) (n : Int) l) (tabB n (adj l))) (n := n) (by
      refine Ev.step (fun k => ?_) h1
      simp only [spec_paTable.l0]
      rw [if_neg (by omega), tabB_none]
      rfl) (by
      intro i hi h
      refine Ev.step (fun k => ?_) h
      simp only [spec_paTable.l0]
      rw [if_pos (by omega), if_pos (by omega), if_pos (by omega), if_pos (by simp; omega), nat_succ i (by omega), List.replicate_succ']
      rfl) 0 (Nat.zero_le _)
  exact h0

/-- What is left of a set without two. -/
def rem2 (p : Nat → Bool) (a b : Nat) : Nat → Bool := fun i => p i && (i != a) && (i != b)
/-- How many pairings the people of a set have. -/
def pmc (n : Nat) (F : Nat → Nat → Bool) : Nat → (Nat → Bool) → Nat
  | 0, _ => 1
  | m + 1, p => match (List.range n).filter p with
    | [] => 1
    | a :: _ => (((List.range n).filter fun y => F a y && p y).map fun b => pmc n F m (rem2 p a b)).sum
theorem least (p : Nat → Bool) : ∀ n : Nat, (∃ a, a < n ∧ p a = true ∧ ∀ i, i < a → p i = false) ∨ (∀ i, i < n → p i = false)
  | 0 => .inr (fun i h => absurd h (Nat.not_lt_zero i))
  | n + 1 => by
    rcases least p n with ⟨a, h1, h2, h3⟩ | h
    · exact .inl ⟨a, by omega, h2, h3⟩
    · cases hp : p n with
      | true => exact .inl ⟨n, by omega, hp, h⟩
      | false =>
        refine .inr (fun i hi => ?_)
        by_cases e : i = n
        · rw [e]; exact hp
        · exact h i (by omega)
theorem filter_none (p : Nat → Bool) (n : Nat) (h : ∀ i, i < n → p i = false) : (List.range n).filter p = [] := by
  rw [List.filter_eq_nil_iff]
  intro i hi
  rw [h i (List.mem_range.1 hi)]
  simp
theorem pmc_none (n : Nat) (F : Nat → Nat → Bool) (m : Nat) (p : Nat → Bool) (h : ∀ i, i < n → p i = false) : pmc n F m p = 1 := by
  cases m with
  | zero => rfl
  | succ m => unfold pmc; rw [filter_none p n h]
theorem pmc_some (n : Nat) (F : Nat → Nat → Bool) (m : Nat) (p : Nat → Bool) (a : Nat) (ha : a < n) (hp : p a = true) (hl : ∀ i, i < a → p i = false) : pmc n F (m + 1) p = (((List.range n).filter fun y => F a y && p y).map fun b => pmc n F m (rem2 p a b)).sum := by
  rw [pmc, filter_least p a hp hl n ha]
theorem filter_behind (q : Nat → Bool) (n a : Nat) (ha : a < n) (h : ∀ y, y ≤ a → q y = false) : (List.range n).filter q = (List.range' (a + 1) (n - (a + 1))).filter q := by
  have e : List.range n = List.range' 0 (a + 1) ++ List.range' (a + 1) (n - (a + 1)) := by
    rw [List.range_eq_range', show n = (a + 1) + (n - (a + 1)) from by omega]
    rw [show List.range' (a + 1) (a + 1 + (n - (a + 1)) - (a + 1)) = List.range' (0 + (a + 1)) (n - (a + 1)) from by rw [Nat.zero_add, Nat.add_sub_cancel_left]]
    rw [List.range'_append_1]
  rw [e, List.filter_append]
  have : (List.range' 0 (a + 1)).filter q = [] := by
    rw [List.filter_eq_nil_iff]
    intro i hi
    rw [h i (by have := List.mem_range'_1.1 hi; omega)]
    simp
  rw [this, List.nil_append]
theorem rem2_len (n : Nat) (p : Nat → Bool) (a b m : Nat) (ha : a < n) (hp : p a = true) (hl : ∀ i, i < a → p i = false) (h : ((List.range n).filter p).length ≤ m + 1) : ((List.range n).filter (rem2 p a b)).length ≤ m := by
  rw [filter_least p a hp hl n ha] at h
  have e : (List.range n).filter (rem2 p a b) = ((List.range n).filter fun i => p i && (i != a)).filter fun i => i != b := by
    rw [List.filter_filter]
    apply List.filter_congr
    intro i _
    unfold rem2
    rw [Bool.and_comm]
  rw [e]
  have := List.length_filter_le (fun i => i != b) ((List.range n).filter fun i => p i && (i != a))
  simp at h
  omega
theorem wrap_wrap (x y : Int) : wrap64 (wrap64 x + y) = wrap64 (x + y) := by unfold wrap64; omega
theorem wrap_twice (x : Int) : wrap64 (wrap64 x) = wrap64 x := by unfold wrap64; omega
/-- Who is in a pair: all that a set does not have. -/
def dn (n : Nat) (p : Nat → Bool) : List Bool := (List.range n).map fun i => !p i
theorem dn_congr (n : Nat) (p q : Nat → Bool) (h : ∀ i, i < n → p i = q i) : dn n p = dn n q := by
  unfold dn
  apply List.map_congr_left
  intro i hi
  rw [h i (List.mem_range.1 hi)]
theorem dn_set (n : Nat) (p : Nat → Bool) (a : Nat) (v : Bool) : (dn n p).set a v = dn n (fun i => if i = a then !v else p i) := by
  unfold dn
  apply List.ext_getElem (by simp)
  intro i h1 h2
  rw [List.getElem_set]
  simp only [List.getElem_map, List.getElem_range]
  by_cases e : a = i
  · subst e; simp
  · rw [if_neg e, if_neg (fun h => e h.symm)]
theorem dn_get (n : Nat) (p : Nat → Bool) (b : Nat) (h : b < n) : rdOf false (dn n p) (b : Int) = !p b := row_get n (fun i => !p i) b h
-- pmc
-- dn
theorem spec_taPair.la_ok (n : Nat) (hn : n ≤ 12) (p : Nat → Bool) (x : Nat) (hx : x ≤ n) (hp : x < n → p x = true) (hl : ∀ i, i < x → p i = false) : ∀ i, i ≤ x → Ev (fun k => spec_taPair.la k n (dn n p) (i : Int)) (x : Int) :=
  up_loop (P := fun i => Ev (fun k => spec_taPair.la k n (dn n p) (i : Int)) (x : Int)) (by
    refine Ev.step (f := fun _ => some (x : Int)) (fun k => ?_) (Ev.now _)
    rw [spec_taPair.la]
    by_cases h : x < n
    · rw [if_pos (by omega), if_pos (by omega), dn_get n p x h, hp h, if_neg (by simp)]
    · rw [if_neg (by omega), if_pos (by omega)]) (by
    intro i hi h
    refine Ev.step (fun k => ?_) h
    rw [spec_taPair.la, if_pos (by omega), if_pos (by omega), dn_get n p i (by omega), hl i hi, if_pos (by simp), nat_succ i (by omega)])
theorem spec_taPair.step (n : Nat) (F : Nat → Nat → Bool) (p : Nat → Bool) (ps : List S105) (c : Int) (Fs : List S105) (k : Nat) : spec_taPair.f (k + 1) n (tabB n F) (dn n p) ps c Fs = (spec_taPair.la k n (dn n p) ((0 : Nat) : Int)).bind fun a => if a = (n : Int) then (if c = 0 then (if ps.length < 8796093022206 then some (dn n p, wrap64 (c + 1), ps) else none) else some (dn n p, wrap64 (c + 1), Fs)) else spec_taPair.l1 k n (tabB n F) ((dn n p).set a.toNat true) ps a (wrap64 (a + 1)) c Fs := by
  rw [spec_taPair.f]
  rfl
theorem spec_taPair.leaf (n : Nat) (hn : n ≤ 12) (F : Nat → Nat → Bool) (p : Nat → Bool) (ps : List S105) (c : Int) (Fs : List S105) (hps : ps.length ≤ 1000) (hnone : ∀ i, i < n → p i = false) : ∃ F', Ev (fun k => spec_taPair.f k n (tabB n F) (dn n p) ps c Fs) (dn n p, wrap64 (c + 1), F') := by
  have h1 := spec_taPair.la_ok n hn p n (Nat.le_refl _) (fun h => absurd h (Nat.lt_irrefl n)) hnone 0 (Nat.zero_le _)
  by_cases c0 : c = 0
  · exact ⟨ps, Ev.step (spec_taPair.step n F p ps c Fs) (Ev.bind h1 (Ev.ite_pos rfl (Ev.ite_pos c0 (Ev.ite_pos (by omega) (Ev.now _)))))⟩
  · exact ⟨Fs, Ev.step (spec_taPair.step n F p ps c Fs) (Ev.bind h1 (Ev.ite_pos rfl (Ev.ite_neg c0 (Ev.now _))))⟩
theorem spec_taPair.ok (n : Nat) (hn : n ≤ 12) (F : Nat → Nat → Bool) (hF : ∀ a, F a a = false) : ∀ (m : Nat) (p : Nat → Bool) (ps : List S105) (c : Int) (Fs : List S105), ((List.range n).filter p).length ≤ m → ps.length + m ≤ 1000 → wrap64 c = c →
    ∃ F', Ev (fun k => spec_taPair.f k n (tabB n F) (dn n p) ps c Fs) (dn n p, wrap64 (c + ((pmc n F m p : Nat) : Int)), F') := by
  intro m
  induction m with
  | zero =>
    intro p ps c Fs hm hps hc
    have hnone : ∀ i, i < n → p i = false := by
      intro i hi
      cases hp : p i with
      | false => rfl
      | true =>
        have : i ∈ (List.range n).filter p := List.mem_filter.2 ⟨List.mem_range.2 hi, hp⟩
        rw [List.length_eq_zero_iff.1 (Nat.le_zero.1 hm)] at this
        cases this
    have h2 := spec_taPair.leaf n hn F p ps c Fs (by omega) hnone
    rw [pmc_none n F 0 p hnone]
    exact h2
  | succ m ih =>
    intro p ps c Fs hm hps hc
    rcases least p n with ⟨a, ha, hpa, hla⟩ | hnone
    · have h1 := spec_taPair.la_ok n hn p a (by omega) (fun _ => hpa) hla 0 (Nat.zero_le _)
      rw [pmc_some n F m p a ha hpa hla, filter_behind (fun y => F a y && p y) n a ha (by
        intro y hy
        by_cases e : y = a
        · subst e; simp [hF]
        · simp [hla y (by omega)])]
      have loop := up_loop (P := fun b => a + 1 ≤ b → ∀ (c : Int) (Fs : List S105), wrap64 c = c → ∃ F', Ev (fun k => spec_taPair.l1 k n (tabB n F) (dn n (fun i => p i && (i != a))) ps (a : Int) (b : Int) c Fs) (dn n p, wrap64 (c + (((((List.range' b (n - b)).filter fun y => F a y && p y).map fun b => pmc n F m (rem2 p a b)).sum : Nat) : Int)), F')) (n := n) (by
          intro _ c Fs hc
          refine ⟨Fs, Ev.step (f := fun _ => some (dn n p, c, Fs)) (fun k => ?_) ?_⟩
          · rw [spec_taPair.l1, if_neg (by omega), Int.toNat_natCast, dn_set]
            congr 2
            apply dn_congr
            intro i hi
            by_cases e : i = a
            · subst e; simp [hpa]
            · simp [e]
          · rw [Nat.sub_self]
            simp only [List.range'_zero, List.filter_nil, List.map_nil, List.sum_nil]
            rw [show c + ((0 : Nat) : Int) = c from by omega, hc]
            exact Ev.now _) (by
          intro b hb h hab c Fs hc
          have hl1 : ∀ k, spec_taPair.l1 (k + 1) n (tabB n F) (dn n (fun i => p i && (i != a))) ps (a : Int) (b : Int) c Fs = if F a b = true then (if (!p b) = true then spec_taPair.l1 k n (tabB n F) (dn n (fun i => p i && (i != a))) ps (a : Int) ((b + 1 : Nat) : Int) c Fs else ((spec_taPair.f k n (tabB n F) (dn n (rem2 p a b)) (ps ++ [⟨(a : Int), (b : Int)⟩]) c Fs).bind fun r => spec_taPair.l1 k n (tabB n F) (r.1.set b false) ps (a : Int) ((b + 1 : Nat) : Int) r.2.1 r.2.2)) else spec_taPair.l1 k n (tabB n F) (dn n (fun i => p i && (i != a))) ps (a : Int) ((b + 1 : Nat) : Int) c Fs := by
            intro k
            have er : (dn n (fun i => p i && (i != a))).set b true = dn n (rem2 p a b) := by
              rw [dn_set]
              apply dn_congr
              intro i _
              unfold rem2
              by_cases e : i = b
              · subst e; simp
              · simp [e]
            have hab2 : (b != a) = true := by simp; omega
            rw [spec_taPair.l1, if_pos (by omega), if_pos (by omega), if_pos (by rw [tabB_length]; omega), Int.toNat_natCast, Int.toNat_natCast, tabB_getD n F a ha, if_pos (by simp; omega), row_get n (F a) b hb, dn_get n _ b hb, nat_succ b (by omega), hab2, Bool.and_true, if_pos (show ps.length < 8796093022206 by omega), er]
          rw [range'_cons b n hb]
          cases hFb : F a b with
          | false =>
            obtain ⟨F', hF'⟩ := h (by omega) c Fs hc
            refine ⟨F', Ev.step hl1 ?_⟩
            rw [hFb, List.filter_cons_of_neg (by simp [hFb])]
            exact Ev.ite_neg (by simp) hF'
          | true =>
            cases hpb : p b with
            | false =>
              obtain ⟨F', hF'⟩ := h (by omega) c Fs hc
              refine ⟨F', Ev.step hl1 ?_⟩
              rw [hFb, hpb, List.filter_cons_of_neg (by simp [hpb])]
              exact Ev.ite_pos rfl (Ev.ite_pos rfl hF')
            | true =>
              obtain ⟨F1, hF1⟩ := ih (rem2 p a b) (ps ++ [⟨(a : Int), (b : Int)⟩]) c Fs (rem2_len n p a b m ha hpa hla hm) (by simp; omega) hc
              obtain ⟨F', hF'⟩ := h (by omega) (wrap64 (c + ((pmc n F m (rem2 p a b) : Nat) : Int))) F1 (wrap_twice _)
              refine ⟨F', Ev.step hl1 ?_⟩
              rw [hFb, hpb, List.filter_cons_of_pos (by simp [hFb, hpb])]
              refine Ev.ite_pos rfl (Ev.ite_neg (by simp) (Ev.bind hF1 ?_))
              have er : (dn n (rem2 p a b)).set b false = dn n (fun i => p i && (i != a)) := by
                rw [dn_set]
                apply dn_congr
                intro i _
                unfold rem2
                by_cases e : i = b
                · subst e; simp [hpb]; omega
                · simp [e]
              simp only [er]
              rw [List.map_cons, List.sum_cons]
              rw [wrap_wrap] at hF'
              rw [show c + ((pmc n F m (rem2 p a b) + (((List.range' (b + 1) (n - (b + 1))).filter fun y => F a y && p y).map fun b => pmc n F m (rem2 p a b)).sum : Nat) : Int) = c + ((pmc n F m (rem2 p a b) : Nat) : Int) + (((((List.range' (b + 1) (n - (b + 1))).filter fun y => F a y && p y).map fun b => pmc n F m (rem2 p a b)).sum : Nat) : Int) from by omega]
              exact hF')
      obtain ⟨F', hF'⟩ := loop (a + 1) (by omega) (Nat.le_refl _) c Fs hc
      refine ⟨F', Ev.step (spec_taPair.step n F p ps c Fs) (Ev.bind h1 ?_)⟩
      refine Ev.ite_neg (by omega) ?_
      have er : (dn n p).set a true = dn n (fun i => p i && (i != a)) := by
        rw [dn_set]
        apply dn_congr
        intro i _
        by_cases e : i = a
        · subst e; simp
        · simp [e]
      rw [Int.toNat_natCast, er, nat_succ a (by omega)]
      exact hF'
    · have h2 := spec_taPair.leaf n hn F p ps c Fs (by omega) hnone
      rw [pmc_none n F (m + 1) p hnone]
      exact h2

theorem spec_taPairs.ok (n : Nat) (hn : n ≤ 12) (l : List S105) (hl : l.length ≤ 1048576) (hp : pin n l) (hF : ∀ a, adj l a a = false) : ∃ F', Ev (fun k => spec_taPairs.f k (n : Int) l) (wrap64 ((pmc n (adj l) n (fun _ => true) : Nat) : Int), F') := by
  obtain ⟨F', h⟩ := spec_taPair.ok n hn (adj l) hF n (fun _ => true) [] 0 [] (Nat.le_trans (List.length_filter_le _ _) (by simp)) (by simp; omega) wrap_zero
  have h1 := spec_paTable.ok n hn l hl hp
  refine ⟨F', ?_⟩
  unfold spec_taPairs.f
  refine Ev.bind h1 (Ev.ite_pos (by omega) (Ev.ite_pos (by omega) ?_))
  have e : List.replicate ((n : Int)).toNat false = dn n (fun _ => true) := by
    rw [Int.toNat_natCast]
    apply List.ext_getElem (by simp [dn])
    intro i h1 h2
    simp [dn]
  rw [e, Int.toNat_natCast]
  refine Ev.bind h ?_
  simp only [Int.zero_add]
  exact Ev.now _

-- pmc
/-- What is left of a set without one. -/
def rem1 (p : Nat → Bool) (a : Nat) : Nat → Bool := fun i => p i && (i != a)
/-- How many people a set has. -/
def card (n : Nat) (p : Nat → Bool) : Nat := ((List.range n).filter p).length
theorem card_rem1 (n : Nat) (p : Nat → Bool) (a : Nat) (ha : a < n) (hp : p a = true) : card n (rem1 p a) + 1 = card n p := by
  unfold card
  have : ∀ n, a < n → ((List.range n).filter (rem1 p a)).length + 1 = ((List.range n).filter p).length := by
    intro n
    induction n with
    | zero => intro h; omega
    | succ n ih =>
      intro h
      rw [List.range_succ, List.filter_append, List.filter_append, List.length_append, List.length_append]
      by_cases e : a = n
      · subst e
        have e1 : (List.range a).filter (rem1 p a) = (List.range a).filter p := by
          apply List.filter_congr
          intro i hi
          have := List.mem_range.1 hi
          have e2 : (i != a) = true := by simp; omega
          unfold rem1
          rw [e2, Bool.and_true]
        have e2 : [a].filter (rem1 p a) = [] := by simp [rem1]
        rw [e1, e2]
        simp [hp]
      · have := ih (by omega)
        have e3 : [n].filter (rem1 p a) = [n].filter p := by
          apply List.filter_congr
          intro i hi
          obtain rfl := List.mem_singleton.1 hi
          have e2 : (i != a) = true := by simp; omega
          unfold rem1
          rw [e2, Bool.and_true]
        rw [e3]
        omega
  exact this n ha
-- pmc
-- card
/-- The greatest number of pairs of people of a set. -/
def mt_mm (n : Nat) (F : Nat → Nat → Bool) : Nat → (Nat → Bool) → Nat
  | 0, _ => 0
  | m + 1, p => match (List.range n).filter p with
    | [] => 0
    | a :: _ => ((List.range n).filter fun y => F a y && p y).foldl (fun x b => max x (1 + mt_mm n F m (rem2 p a b))) (mt_mm n F m (rem1 p a))
theorem mt_mm_none (n : Nat) (F : Nat → Nat → Bool) (m : Nat) (p : Nat → Bool) (h : ∀ i, i < n → p i = false) : mt_mm n F m p = 0 := by
  cases m with
  | zero => rfl
  | succ m => unfold mt_mm; rw [filter_none p n h]
theorem mt_mm_some (n : Nat) (F : Nat → Nat → Bool) (m : Nat) (p : Nat → Bool) (a : Nat) (ha : a < n) (hp : p a = true) (hl : ∀ i, i < a → p i = false) : mt_mm n F (m + 1) p = ((List.range n).filter fun y => F a y && p y).foldl (fun x b => max x (1 + mt_mm n F m (rem2 p a b))) (mt_mm n F m (rem1 p a)) := by
  rw [mt_mm, filter_least p a hp hl n ha]
theorem mt_rem2_eq (p : Nat → Bool) (a b : Nat) : rem2 p a b = rem1 (rem1 p a) b := rfl
theorem mt_card_rem2 (n : Nat) (p : Nat → Bool) (a b : Nat) (ha : a < n) (hp : p a = true) (hb : b < n) (hq : p b = true) (hab : a ≠ b) : card n (rem2 p a b) + 2 = card n p := by
  have h1 := card_rem1 n p a ha hp
  have h2 := card_rem1 n (rem1 p a) b hb (by
    have : (b != a) = true := by simp; omega
    unfold rem1
    rw [hq, this]; rfl)
  rw [mt_rem2_eq]
  omega
theorem mt_foldl_max (f : Nat → Nat) : ∀ (L : List Nat) (x : Nat), x ≤ L.foldl (fun x b => max x (f b)) x ∧ (∀ b ∈ L, f b ≤ L.foldl (fun x b => max x (f b)) x) ∧ (L.foldl (fun x b => max x (f b)) x = x ∨ ∃ b ∈ L, L.foldl (fun x b => max x (f b)) x = f b)
  | [], x => ⟨Nat.le_refl _, ⟨fun b h => (by cases h), Or.inl rfl⟩⟩
  | c :: L, x => by
    obtain ⟨h1, h2, h3⟩ := mt_foldl_max f L (max x (f c))
    refine ⟨Nat.le_trans (Nat.le_max_left _ _) h1, fun b hb => ?_, ?_⟩
    · rcases List.mem_cons.1 hb with rfl | hb
      · exact Nat.le_trans (Nat.le_max_right _ _) h1
      · exact h2 b hb
    · rcases h3 with h3 | ⟨b, hb, h3⟩
      · rw [List.foldl_cons, h3]
        rcases Nat.le_total x (f c) with h | h
        · exact .inr ⟨c, List.mem_cons_self, by omega⟩
        · exact .inl (by omega)
      · exact .inr ⟨b, List.mem_cons_of_mem _ hb, h3⟩
theorem mt_foldl_congr (f g : Nat → Nat) : ∀ (L : List Nat) (x : Nat), (∀ b ∈ L, f b = g b) → L.foldl (fun x b => max x (f b)) x = L.foldl (fun x b => max x (g b)) x
  | [], _, _ => rfl
  | c :: L, x, h => by
    rw [List.foldl_cons, List.foldl_cons, h c List.mem_cons_self]
    exact mt_foldl_congr f g L _ (fun b hb => h b (List.mem_cons_of_mem _ hb))
theorem mt_mm_congr (n : Nat) (F : Nat → Nat → Bool) : ∀ (m : Nat) (p q : Nat → Bool), (∀ i, i < n → p i = q i) → mt_mm n F m p = mt_mm n F m q := by
  intro m
  induction m with
  | zero => intro p q _; rfl
  | succ m ih =>
    intro p q h
    have e : (List.range n).filter p = (List.range n).filter q := List.filter_congr (fun i hi => h i (List.mem_range.1 hi))
    rw [mt_mm, mt_mm, e]
    cases hq : (List.range n).filter q with
    | nil => rfl
    | cons a l =>
      have e2 : ((List.range n).filter fun y => F a y && p y) = (List.range n).filter fun y => F a y && q y := List.filter_congr (fun i hi => by rw [h i (List.mem_range.1 hi)])
      show List.foldl _ _ _ = List.foldl _ _ _
      rw [e2, ih (rem1 p a) (rem1 q a) (fun i hi => by unfold rem1; rw [h i hi])]
      exact mt_foldl_congr _ _ _ _ (fun b _ => by rw [ih (rem2 p a b) (rem2 q a b) (fun i hi => by unfold rem2; rw [h i hi])])
section
variable {n : Nat} {F : Nat → Nat → Bool}
theorem mt_card_mono {p q : Nat → Bool} (h : ∀ i, i < n → p i = true → q i = true) : card n p ≤ card n q := by
  unfold card
  have e : (List.range n).filter p = ((List.range n).filter q).filter p := by
    rw [List.filter_filter]
    apply List.filter_congr
    intro i hi
    cases hp : p i with
    | false => rfl
    | true => rw [h i (List.mem_range.1 hi) hp]; rfl
  rw [e]
  exact List.length_filter_le _ _
theorem mt_card_zero {p : Nat → Bool} (h : card n p = 0) : ∀ i, i < n → p i = false := by
  intro i hi
  cases hp : p i with
  | false => rfl
  | true =>
    have : i ∈ (List.range n).filter p := List.mem_filter.2 ⟨List.mem_range.2 hi, hp⟩
    rw [List.length_eq_zero_iff.1 h] at this
    cases this
theorem mt_card_le (p : Nat → Bool) : card n p ≤ n := by
  unfold card
  exact Nat.le_trans (List.length_filter_le _ _) (by simp)
theorem mt_card_rem2_lt (_hF : ∀ a, F a a = false) (p : Nat → Bool) (a b : Nat) (ha : a < n) (hp : p a = true) : card n (rem2 p a b) < card n p := by
  have h1 := card_rem1 n p a ha hp
  have h2 : card n (rem2 p a b) ≤ card n (rem1 p a) := mt_card_mono (fun i _ h => by
    unfold rem2 at h
    unfold rem1
    rw [Bool.and_eq_true] at h
    exact h.1)
  omega
theorem mt_mm_fuel (hF : ∀ a, F a a = false) : ∀ (m : Nat) (p : Nat → Bool), card n p ≤ m → mt_mm n F (m + 1) p = mt_mm n F m p := by
  intro m
  induction m with
  | zero =>
    intro p h
    rw [mt_mm_none n F 1 p (mt_card_zero (Nat.le_zero.1 h))]
    rfl
  | succ m ih =>
    intro p h
    rcases least p n with ⟨a, ha, hp, hl⟩ | hno
    · rw [mt_mm_some n F (m + 1) p a ha hp hl, mt_mm_some n F m p a ha hp hl]
      have h1 := card_rem1 n p a ha hp
      rw [ih (rem1 p a) (by omega)]
      exact mt_foldl_congr _ _ _ _ (fun b _ => by
        have := mt_card_rem2_lt hF p a b ha hp
        rw [ih (rem2 p a b) (by omega)])
    · rw [mt_mm_none n F _ p hno, mt_mm_none n F _ p hno]
/-- The greatest number of pairs of people of a set. -/
def mtM (n : Nat) (F : Nat → Nat → Bool) (p : Nat → Bool) : Nat := mt_mm n F n p
theorem mt_mm_M (hF : ∀ a, F a a = false) (m : Nat) (p : Nat → Bool) (h : card n p ≤ m) : mt_mm n F m p = mtM n F p := by
  have up : ∀ d m, card n p ≤ m → mt_mm n F (m + d) p = mt_mm n F m p := by
    intro d
    induction d with
    | zero => intro m _; rfl
    | succ d ih =>
      intro m hm
      rw [← Nat.add_assoc, mt_mm_fuel hF (m + d) p (by omega), ih m hm]
  have h2 := mt_card_le (n := n) p
  rcases Nat.le_total m n with h3 | h3
  · have := up (n - m) m h
    rw [show m + (n - m) = n from by omega] at this
    exact this.symm
  · have := up (m - n) n h2
    rw [show n + (m - n) = m from by omega] at this
    exact this
theorem mt_M_congr {p q : Nat → Bool} (h : ∀ i, i < n → p i = q i) : mtM n F p = mtM n F q := mt_mm_congr n F n p q h
theorem mt_M_none (p : Nat → Bool) (h : ∀ i, i < n → p i = false) : mtM n F p = 0 := mt_mm_none n F n p h
theorem mt_M_some (hF : ∀ a, F a a = false) (p : Nat → Bool) (a : Nat) (ha : a < n) (hp : p a = true) (hl : ∀ i, i < a → p i = false) : mtM n F p = ((List.range n).filter fun y => F a y && p y).foldl (fun x b => max x (1 + mtM n F (rem2 p a b))) (mtM n F (rem1 p a)) := by
  have hc := mt_card_le (n := n) p
  obtain ⟨m, hm⟩ : ∃ m, n = m + 1 := ⟨n - 1, by omega⟩
  have h1 := card_rem1 n p a ha hp
  have e : mtM n F p = mt_mm n F (m + 1) p := by rw [← hm]; rfl
  rw [e, mt_mm_some n F m p a ha hp hl, mt_mm_M hF m (rem1 p a) (by omega)]
  exact mt_foldl_congr _ _ _ _ (fun b _ => by
    have := mt_card_rem2_lt hF p a b ha hp
    rw [mt_mm_M hF m (rem2 p a b) (by omega)])
theorem mt_M_cases (hF : ∀ a, F a a = false) (p : Nat → Bool) (a : Nat) (ha : a < n) (hp : p a = true) (hl : ∀ i, i < a → p i = false) : mtM n F (rem1 p a) ≤ mtM n F p ∧ (∀ b, b < n → F a b = true → p b = true → 1 + mtM n F (rem2 p a b) ≤ mtM n F p) ∧ (mtM n F p = mtM n F (rem1 p a) ∨ ∃ b, a < b ∧ b < n ∧ F a b = true ∧ p b = true ∧ mtM n F p = 1 + mtM n F (rem2 p a b)) := by
  rw [mt_M_some hF p a ha hp hl]
  obtain ⟨h1, h2, h3⟩ := mt_foldl_max (fun b => 1 + mtM n F (rem2 p a b)) ((List.range n).filter fun y => F a y && p y) (mtM n F (rem1 p a))
  refine ⟨h1, fun b hb hf hpb => h2 b (List.mem_filter.2 ⟨List.mem_range.2 hb, by simp [hf, hpb]⟩), ?_⟩
  rcases h3 with h3 | ⟨b, hb, h3⟩
  · exact .inl h3
  · obtain ⟨hb1, hb2⟩ := List.mem_filter.1 hb
    rw [Bool.and_eq_true] at hb2
    refine .inr ⟨b, ?_, List.mem_range.1 hb1, hb2.1, hb2.2, h3⟩
    rcases Nat.lt_trichotomy a b with h | h | h
    · exact h
    · subst h
      rw [hF] at hb2
      exact absurd hb2.1 (by simp)
    · rw [hl b h] at hb2
      exact absurd hb2.2 (by simp)
theorem mt_M_mono (hF : ∀ a, F a a = false) : ∀ (c : Nat) (p q : Nat → Bool), card n q ≤ c → (∀ i, i < n → p i = true → q i = true) → mtM n F p ≤ mtM n F q := by
  intro c
  induction c with
  | zero =>
    intro p q hc h
    have hq := mt_card_zero (Nat.le_zero.1 hc)
    rw [mt_M_none p (fun i hi => by
      cases hp : p i with
      | false => rfl
      | true => have := h i hi hp; rw [hq i hi] at this; cases this)]
    exact Nat.zero_le _
  | succ c ih =>
    intro p q hc h
    rcases least q n with ⟨a, ha, hq, hl⟩ | hno
    · obtain ⟨g1, g2, _⟩ := mt_M_cases (n := n) hF q a ha hq hl
      have k1 := card_rem1 n q a ha hq
      cases hp : p a with
      | false =>
        refine Nat.le_trans (ih p (rem1 q a) (by omega) (fun i hi hpi => ?_)) g1
        unfold rem1
        rw [h i hi hpi]
        have : i ≠ a := by rintro rfl; rw [hp] at hpi; cases hpi
        simp [this]
      | true =>
        have hlp : ∀ i, i < a → p i = false := by
          intro i hi
          cases hpi : p i with
          | false => rfl
          | true => have := h i (by omega) hpi; rw [hl i hi] at this; cases this
        obtain ⟨_, _, f3⟩ := mt_M_cases (n := n) hF p a ha hp hlp
        rcases f3 with f3 | ⟨b, hab, hb, hfb, hpb, f3⟩
        · rw [f3]
          refine Nat.le_trans (ih (rem1 p a) (rem1 q a) (by omega) (fun i hi hpi => ?_)) g1
          unfold rem1 at hpi ⊢
          rw [Bool.and_eq_true] at hpi ⊢
          exact ⟨h i hi hpi.1, hpi.2⟩
        · rw [f3]
          have := mt_card_rem2_lt hF q a b ha hq
          refine Nat.le_trans (Nat.add_le_add_left (ih (rem2 p a b) (rem2 q a b) (by omega) (fun i hi hpi => ?_)) 1) (g2 b hb hfb (h b hb hpb))
          unfold rem2 at hpi ⊢
          simp only [Bool.and_eq_true] at hpi ⊢
          exact ⟨⟨h i hi hpi.1.1, hpi.1.2⟩, hpi.2⟩
    · have := mt_card_mono (n := n) h
      rw [mt_M_none p (fun i hi => by
        cases hp : p i with
        | false => rfl
        | true => have := h i hi hp; rw [hno i hi] at this; cases this)]
      exact Nat.zero_le _
theorem mt_rem2_swap (p : Nat → Bool) (a b : Nat) : rem2 p a b = rem2 p b a := by
  funext i
  unfold rem2
  rw [Bool.and_assoc, Bool.and_assoc, Bool.and_comm (i != a)]
theorem mt_M_pair (hF : ∀ a, F a a = false) (hS : ∀ a b, F a b = F b a) : ∀ (c : Nat) (p : Nat → Bool), card n p ≤ c → ∀ x y, x < n → y < n → p x = true → p y = true → F x y = true → 1 + mtM n F (rem2 p x y) ≤ mtM n F p := by
  intro c
  induction c with
  | zero =>
    intro p hc x y hx _ hpx
    rw [mt_card_zero (Nat.le_zero.1 hc) x hx] at hpx
    cases hpx
  | succ c ih =>
    intro p hc x y hx hy hpx hpy hf
    rcases least p n with ⟨a, ha, hp, hl⟩ | hno
    · obtain ⟨g1, g2, _⟩ := mt_M_cases (n := n) hF p a ha hp hl
      have k1 := card_rem1 n p a ha hp
      by_cases ex : a = x
      · subst ex; exact g2 y hy hf hpy
      · by_cases ey : a = y
        · subst ey
          rw [mt_rem2_swap]
          exact g2 x hx (by rw [hS]; exact hf) hpx
        · have ex2 : x ≠ a := fun e => ex e.symm
          have ey2 : y ≠ a := fun e => ey e.symm
          have hra : rem2 p x y a = true := by unfold rem2; simp [hp, ex, ey]
          have hrl : ∀ i, i < a → rem2 p x y i = false := by intro i hi; unfold rem2; rw [hl i hi]; rfl
          obtain ⟨_, _, f3⟩ := mt_M_cases (n := n) hF (rem2 p x y) a ha hra hrl
          rcases f3 with f3 | ⟨b, hab, hb, hfb, hpb, f3⟩
          · have h1 := ih (rem1 p a) (by omega) x y hx hy (by unfold rem1; simp [hpx, ex2]) (by unfold rem1; simp [hpy, ey2]) hf
            have e : mtM n F (rem1 (rem2 p x y) a) = mtM n F (rem2 (rem1 p a) x y) := mt_M_congr (fun i _ => by
              unfold rem1 rem2
              simp only [Bool.and_comm, Bool.and_left_comm])
            omega
          · have hb2 : p b = true ∧ b ≠ x ∧ b ≠ y := by
              unfold rem2 at hpb
              simp only [Bool.and_eq_true, bne_iff_ne] at hpb
              exact ⟨hpb.1.1, hpb.1.2, hpb.2⟩
            have k2 := mt_card_rem2_lt hF p a b ha hp
            have h1 := ih (rem2 p a b) (by omega) x y hx hy (by unfold rem2; simp [hpx, ex2]; exact fun e => hb2.2.1 e.symm) (by unfold rem2; simp [hpy, ey2]; exact fun e => hb2.2.2 e.symm) hf
            have h2 := g2 b hb hfb hb2.1
            have e : mtM n F (rem2 (rem2 p x y) a b) = mtM n F (rem2 (rem2 p a b) x y) := mt_M_congr (fun i _ => by
              unfold rem2
              simp only [Bool.and_comm, Bool.and_left_comm])
            omega
    · rw [hno x hx] at hpx; cases hpx
theorem mt_M_pick (hF : ∀ a, F a a = false) (hS : ∀ a b, F a b = F b a) : ∀ (c : Nat) (p : Nat → Bool), card n p ≤ c → 0 < mtM n F p → ∃ x y, x < y ∧ y < n ∧ p x = true ∧ p y = true ∧ F x y = true ∧ mtM n F p = 1 + mtM n F (rem2 p x y) := by
  intro c
  induction c with
  | zero =>
    intro p hc h
    rw [mt_M_none p (mt_card_zero (Nat.le_zero.1 hc))] at h
    exact absurd h (Nat.lt_irrefl 0)
  | succ c ih =>
    intro p hc h
    rcases least p n with ⟨a, ha, hp, hl⟩ | hno
    · obtain ⟨g1, g2, g3⟩ := mt_M_cases (n := n) hF p a ha hp hl
      have k1 := card_rem1 n p a ha hp
      rcases g3 with g3 | ⟨b, hab, hb, hfb, hpb, g3⟩
      · obtain ⟨x, y, h1, h2, h3, h4, h5, h6⟩ := ih (rem1 p a) (by omega) (by omega)
        have h3' : p x = true := by unfold rem1 at h3; rw [Bool.and_eq_true] at h3; exact h3.1
        have h4' : p y = true := by unfold rem1 at h4; rw [Bool.and_eq_true] at h4; exact h4.1
        refine ⟨x, y, h1, h2, h3', h4', h5, ?_⟩
        have h7 := mt_M_pair (n := n) hF hS _ p (Nat.le_refl _) x y (by omega) h2 h3' h4' h5
        have h8 : mtM n F (rem2 (rem1 p a) x y) ≤ mtM n F (rem2 p x y) := mt_M_mono (n := n) hF _ _ _ (Nat.le_refl _) (fun i _ hi => by
          unfold rem2 rem1 at hi
          unfold rem2
          simp only [Bool.and_eq_true] at hi ⊢
          exact ⟨⟨hi.1.1.1, hi.1.2⟩, hi.2⟩)
        omega
      · exact ⟨a, b, hab, hb, hp, hpb, hfb, g3⟩
    · rw [mt_M_none p hno] at h
      exact absurd h (Nat.lt_irrefl 0)
/-- No pair that was told before can be one of the most pairs any more: only later people count. -/
theorem mt_M_above (hF : ∀ a, F a a = false) (hS : ∀ a b, F a b = F b a) (A : Nat) : ∀ (c : Nat) (p : Nat → Bool), mtM n F p ≤ c → (∀ x y, x < y → y < n → x < A → p x = true → p y = true → F x y = true → mtM n F p ≠ 1 + mtM n F (rem2 p x y)) → mtM n F (fun i => p i && decide (A ≤ i)) = mtM n F p := by
  intro c
  have le : ∀ p : Nat → Bool, mtM n F (fun i => p i && decide (A ≤ i)) ≤ mtM n F p := fun p => mt_M_mono (n := n) hF _ _ _ (Nat.le_refl _) (fun i _ hi => by rw [Bool.and_eq_true] at hi; exact hi.1)
  induction c with
  | zero =>
    intro p hc _
    have := le p
    omega
  | succ c ih =>
    intro p hc hinv
    rcases Nat.eq_zero_or_pos (mtM n F p) with h0 | h0
    · have := le p
      omega
    · obtain ⟨x, y, h1, h2, h3, h4, h5, h6⟩ := mt_M_pick hF hS _ p (Nat.le_refl _) h0
      have hA : A ≤ x := by
        rcases Nat.lt_or_ge x A with h | h
        · exact absurd h6 (hinv x y h1 h2 h h3 h4 h5)
        · exact h
      have h7 := ih (rem2 p x y) (by omega) (by
        intro e f g1 g2 g3 g4 g5 g6 g7
        have g4' : p e = true ∧ e ≠ x ∧ e ≠ y := by
          unfold rem2 at g4
          simp only [Bool.and_eq_true, bne_iff_ne] at g4
          exact ⟨g4.1.1, g4.1.2, g4.2⟩
        have g5' : p f = true ∧ f ≠ x ∧ f ≠ y := by
          unfold rem2 at g5
          simp only [Bool.and_eq_true, bne_iff_ne] at g5
          exact ⟨g5.1.1, g5.1.2, g5.2⟩
        have k1 := mt_M_pair (n := n) hF hS _ p (Nat.le_refl _) e f (by omega) g2 g4'.1 g5'.1 g6
        have k2 := mt_M_pair (n := n) hF hS _ (rem2 p e f) (Nat.le_refl _) x y (by omega) h2 (by unfold rem2; simp [h3, Ne.symm g4'.2.1, Ne.symm g5'.2.1]) (by unfold rem2; simp [h4, Ne.symm g4'.2.2, Ne.symm g5'.2.2]) h5
        have e2 : mtM n F (rem2 (rem2 p e f) x y) = mtM n F (rem2 (rem2 p x y) e f) := mt_M_congr (fun i _ => by
          unfold rem2
          simp only [Bool.and_comm, Bool.and_left_comm])
        exact hinv e f g1 g2 g3 g4'.1 g5'.1 g6 (by omega))
      have k3 := mt_M_pair (n := n) hF hS _ (fun i => p i && decide (A ≤ i)) (Nat.le_refl _) x y (by omega) h2 (by simp [h3, hA]) (by simp [h4]; omega) h5
      have e3 : mtM n F (rem2 (fun i => p i && decide (A ≤ i)) x y) = mtM n F (fun i => rem2 p x y i && decide (A ≤ i)) := mt_M_congr (fun i _ => by
        unfold rem2
        simp only [Bool.and_assoc, Bool.and_comm, Bool.and_left_comm])
      have := le p
      omega
/-- Twice the pairs are no more than the people. -/
theorem mt_M_two (hF : ∀ a, F a a = false) (hS : ∀ a b, F a b = F b a) : ∀ (c : Nat) (p : Nat → Bool), mtM n F p ≤ c → 2 * mtM n F p ≤ card n p := by
  intro c
  induction c with
  | zero => intro p hc; omega
  | succ c ih =>
    intro p hc
    rcases Nat.eq_zero_or_pos (mtM n F p) with h0 | h0
    · omega
    · obtain ⟨x, y, h1, h2, h3, h4, h5, h6⟩ := mt_M_pick hF hS _ p (Nat.le_refl _) h0
      have := ih (rem2 p x y) (by omega)
      have := mt_card_rem2 n p x y (by omega) h3 h2 h4 (by omega)
      omega
end
/-- The pairs that are taken, one after the other, out of a list. -/
def mt_gr (n : Nat) (F : Nat → Nat → Bool) : List (Nat × Nat) → (Nat → Bool) → List (Nat × Nat)
  | [], _ => []
  | x :: l, p => if p x.1 = true ∧ p x.2 = true ∧ 1 + mtM n F (rem2 p x.1 x.2) = mtM n F p then x :: mt_gr n F l (rem2 p x.1 x.2) else mt_gr n F l p
/-- The first one of a list that has something. -/
def mt_fso {α β : Type} (f : α → Option β) : List α → Option β
  | [] => none
  | x :: l => match f x with
    | some y => some y
    | none => mt_fso f l
/-- The first pairing of the people of a set. -/
def mt_fp (n : Nat) (F : Nat → Nat → Bool) : Nat → (Nat → Bool) → Option (List (Nat × Nat))
  | 0, _ => some []
  | m + 1, p => match (List.range n).filter p with
    | [] => some []
    | a :: _ => mt_fso (fun b => (mt_fp n F m (rem2 p a b)).map fun l => (a, b) :: l) ((List.range n).filter fun y => F a y && p y)
theorem mt_fp_none (n : Nat) (F : Nat → Nat → Bool) (m : Nat) (p : Nat → Bool) (h : ∀ i, i < n → p i = false) : mt_fp n F m p = some [] := by
  cases m with
  | zero => rfl
  | succ m => unfold mt_fp; rw [filter_none p n h]
theorem mt_fp_some (n : Nat) (F : Nat → Nat → Bool) (m : Nat) (p : Nat → Bool) (a : Nat) (ha : a < n) (hp : p a = true) (hl : ∀ i, i < a → p i = false) : mt_fp n F (m + 1) p = mt_fso (fun b => (mt_fp n F m (rem2 p a b)).map fun l => (a, b) :: l) ((List.range n).filter fun y => F a y && p y) := by
  rw [mt_fp, filter_least p a hp hl n ha]
theorem mt_fso_none {α β : Type} (f : α → Option β) : ∀ l : List α, mt_fso f l = none ↔ ∀ x ∈ l, f x = none
  | [] => by simp [mt_fso]
  | x :: l => by
    unfold mt_fso
    cases h : f x with
    | some y => simp [h]
    | none => simp [h, mt_fso_none f l]
theorem mt_fso_some {α β : Type} (f : α → Option β) (y : β) : ∀ l : List α, mt_fso f l = some y → ∃ l1 x l2, l = l1 ++ x :: l2 ∧ f x = some y ∧ ∀ z ∈ l1, f z = none
  | [], h => by cases h
  | x :: l, h => by
    unfold mt_fso at h
    cases hx : f x with
    | some y' =>
      rw [hx] at h
      exact ⟨[], x, l, rfl, by rw [hx]; exact h, fun z hz => by cases hz⟩
    | none =>
      rw [hx] at h
      obtain ⟨l1, x', l2, rfl, h2, h3⟩ := mt_fso_some f y l h
      exact ⟨x :: l1, x', l2, rfl, h2, fun z hz => by
        rcases List.mem_cons.1 hz with rfl | hz
        · exact hx
        · exact h3 z hz⟩
section
variable {n : Nat} {F : Nat → Nat → Bool}
theorem mt_gr_skip : ∀ (l1 l2 : List (Nat × Nat)) (p : Nat → Bool), (∀ x ∈ l1, ¬ (p x.1 = true ∧ p x.2 = true ∧ 1 + mtM n F (rem2 p x.1 x.2) = mtM n F p)) → mt_gr n F (l1 ++ l2) p = mt_gr n F l2 p
  | [], _, _, _ => rfl
  | x :: l1, l2, p, h => by
    rw [List.cons_append, mt_gr, if_neg (h x List.mem_cons_self)]
    exact mt_gr_skip l1 l2 p (fun y hy => h y (List.mem_cons_of_mem _ hy))
theorem mt_gr_len : ∀ (l : List (Nat × Nat)) (p : Nat → Bool), (mt_gr n F l p).length ≤ mtM n F p
  | [], _ => Nat.zero_le _
  | x :: l, p => by
    rw [mt_gr]
    by_cases h : p x.1 = true ∧ p x.2 = true ∧ 1 + mtM n F (rem2 p x.1 x.2) = mtM n F p
    · rw [if_pos h, List.length_cons]
      have := mt_gr_len l (rem2 p x.1 x.2)
      omega
    · rw [if_neg h]
      exact mt_gr_len l p
/-- All can be paired exactly if there is a first pairing. -/
theorem mt_fp_perfect (hF : ∀ a, F a a = false) (hS : ∀ a b, F a b = F b a) : ∀ (m : Nat) (p : Nat → Bool), card n p ≤ m → ((∃ l, mt_fp n F m p = some l) ↔ 2 * mtM n F p = card n p) := by
  intro m
  induction m with
  | zero =>
    intro p hc
    have := mt_M_two (n := n) hF hS _ p (Nat.le_refl _)
    exact ⟨fun _ => by omega, fun _ => ⟨[], rfl⟩⟩
  | succ m ih =>
    intro p hc
    rcases least p n with ⟨a, ha, hp, hl⟩ | hno
    · rw [mt_fp_some n F m p a ha hp hl]
      constructor
      · rintro ⟨l, h⟩
        obtain ⟨l1, b, l2, h1, h2, _⟩ := mt_fso_some _ _ _ h
        have hb : b ∈ (List.range n).filter fun y => F a y && p y := by rw [h1]; simp
        obtain ⟨hb1, hb2⟩ := List.mem_filter.1 hb
        rw [Bool.and_eq_true] at hb2
        obtain ⟨l', h3, _⟩ := Option.map_eq_some_iff.1 h2
        have hne : a ≠ b := by rintro rfl; rw [hF] at hb2; exact absurd hb2.1 (by simp)
        have k1 := mt_card_rem2 n p a b ha hp (List.mem_range.1 hb1) hb2.2 hne
        have k2 := (ih (rem2 p a b) (by omega)).1 ⟨l', h3⟩
        have k3 := mt_M_pair (n := n) hF hS _ p (Nat.le_refl _) a b ha (List.mem_range.1 hb1) hp hb2.2 hb2.1
        have k4 := mt_M_two (n := n) hF hS _ p (Nat.le_refl _)
        omega
      · intro h
        obtain ⟨_, _, g3⟩ := mt_M_cases (n := n) hF p a ha hp hl
        have k1 := card_rem1 n p a ha hp
        rcases g3 with g3 | ⟨b, hab, hb, hfb, hpb, g3⟩
        · have k2 := mt_M_two (n := n) hF hS _ (rem1 p a) (Nat.le_refl _)
          omega
        · have k2 := mt_card_rem2 n p a b ha hp hb hpb (by omega)
          obtain ⟨l', h3⟩ := (ih (rem2 p a b) (by omega)).2 (by omega)
          cases h4 : mt_fso (fun b => (mt_fp n F m (rem2 p a b)).map fun l => (a, b) :: l) ((List.range n).filter fun y => F a y && p y) with
          | some l => exact ⟨l, rfl⟩
          | none =>
            have h5 := (mt_fso_none _ _).1 h4 b (List.mem_filter.2 ⟨List.mem_range.2 hb, by simp [hfb, hpb]⟩)
            rw [h3] at h5
            cases h5
    · have := mt_M_two (n := n) hF hS _ p (Nat.le_refl _)
      have h0 : card n p = 0 := by unfold card; rw [filter_none p n hno]; rfl
      exact ⟨fun _ => by omega, fun _ => ⟨[], mt_fp_none n F _ p hno⟩⟩
/-- The pairs taken one after the other are the first pairing, where there is one. -/
theorem mt_gr_first (hF : ∀ a, F a a = false) (hS : ∀ a b, F a b = F b a) (G : List (Nat × Nat)) (hmem : ∀ x y, x < y → y < n → F x y = true → (x, y) ∈ G) (hlt : ∀ x ∈ G, x.1 < x.2 ∧ x.2 < n ∧ F x.1 x.2 = true) (hG : G.Pairwise fun x y => x.1 < y.1 ∨ x.1 = y.1 ∧ x.2 < y.2) : ∀ (m : Nat) (p : Nat → Bool) (r : List (Nat × Nat)), card n p ≤ m → mt_fp n F m p = some r → mt_gr n F G p = r := by
  have hnone : ∀ p : Nat → Bool, (∀ i, i < n → p i = false) → mt_gr n F G p = [] := by
    intro p h
    have := mt_gr_skip (n := n) (F := F) G [] p (fun x hx hh => by
      have := hlt x hx
      rw [h x.1 (by omega)] at hh
      exact absurd hh.1 (by simp))
    rw [List.append_nil] at this
    exact this
  intro m
  induction m with
  | zero =>
    intro p r hc h
    obtain rfl := Option.some.inj h
    exact hnone p (mt_card_zero (Nat.le_zero.1 hc))
  | succ m ih =>
    intro p r hc h
    rcases least p n with ⟨a, ha, hp, hl⟩ | hno
    · have hperf := (mt_fp_perfect (n := n) hF hS (m + 1) p hc).1 ⟨r, h⟩
      rw [mt_fp_some n F m p a ha hp hl] at h
      obtain ⟨l1, b, l2, h1, h2, h3⟩ := mt_fso_some _ _ _ h
      have hb : b ∈ (List.range n).filter fun y => F a y && p y := by rw [h1]; simp
      obtain ⟨hb1, hb2⟩ := List.mem_filter.1 hb
      have hb1 := List.mem_range.1 hb1
      rw [Bool.and_eq_true] at hb2
      obtain ⟨r', h4, h5⟩ := Option.map_eq_some_iff.1 h2
      have hab : a < b := by
        rcases Nat.lt_trichotomy a b with h | h | h
        · exact h
        · subst h; rw [hF] at hb2; exact absurd hb2.1 (by simp)
        · rw [hl b h] at hb2; exact absurd hb2.2 (by simp)
      have k1 := mt_card_rem2 n p a b ha hp hb1 hb2.2 (by omega)
      have k2 := (mt_fp_perfect (n := n) hF hS m (rem2 p a b) (by omega)).1 ⟨r', h4⟩
      obtain ⟨pre, post, hs⟩ := List.append_of_mem (hmem a b hab hb1 hb2.1)
      have hpre : ∀ x ∈ pre, x.1 < a ∨ x.1 = a ∧ x.2 < b := by
        intro x hx
        rw [hs, List.pairwise_append] at hG
        exact hG.2.2 x hx (a, b) List.mem_cons_self
      have hr : r = (a, b) :: r' := h5.symm
      rw [hr, ← ih (rem2 p a b) r' (by omega) h4, hs]
      rw [mt_gr_skip pre ((a, b) :: post) p (fun x hx hh => by
        obtain ⟨g1, g2, g3⟩ := hh
        rcases hpre x hx with h | ⟨h, h'⟩
        · rw [hl x.1 h] at g1; cases g1
        · have hxl := hlt x (by rw [hs]; exact List.mem_append_left _ hx)
          rw [h] at g3
          have hf : F a x.2 = true := by have := hxl.2.2; rwa [h] at this
          have kx := mt_card_rem2 n p a x.2 ha hp hxl.2.1 g2 (by omega)
          have hx2 : x.2 ∈ (List.range n).filter fun y => F a y && p y := List.mem_filter.2 ⟨List.mem_range.2 hxl.2.1, by simp [hf, g2]⟩
          obtain ⟨l, hl'⟩ := (mt_fp_perfect (n := n) hF hS m (rem2 p a x.2) (by omega)).2 (by omega)
          have hin : x.2 ∈ l1 := by
            rw [h1] at hx2
            rcases List.mem_append.1 hx2 with hx2 | hx2
            · exact hx2
            · have hsorted : ((List.range n).filter fun y => F a y && p y).Pairwise (· < ·) := List.Pairwise.filter _ List.pairwise_lt_range
              rw [h1, List.pairwise_append] at hsorted
              rcases List.mem_cons.1 hx2 with e | hx2
              · omega
              · have := (List.pairwise_cons.1 hsorted.2.1).1 x.2 hx2
                omega
          have := h3 x.2 hin
          rw [hl'] at this
          cases this)]
      rw [mt_gr, if_pos ⟨hp, hb2.2, by show 1 + mtM n F (rem2 p a b) = mtM n F p; omega⟩]
      congr 1
      symm
      rw [show pre ++ (a, b) :: post = (pre ++ [(a, b)]) ++ post from by simp]
      refine mt_gr_skip (pre ++ [(a, b)]) post (rem2 p a b) (fun x hx hh => ?_)
      obtain ⟨g1, _, _⟩ := hh
      unfold rem2 at g1
      simp only [Bool.and_eq_true, bne_iff_ne] at g1
      rcases List.mem_append.1 hx with hx | hx
      · rcases hpre x hx with h | ⟨h, _⟩
        · rw [hl x.1 h] at g1; exact absurd g1.1.1 (by simp)
        · exact g1.1.2 h
      · rw [List.mem_singleton.1 hx] at g1
        exact g1.1.2 rfl
    · rw [mt_fp_none n F _ p hno] at h
      obtain rfl := Option.some.inj h
      exact hnone p hno
end
theorem adj_irr {n : Int} {l : List S105} (h : goodB n l = true) (a : Nat) : adj l a a = false := by
  unfold adj
  rw [List.any_eq_false]
  intro x hx
  obtain ⟨i, hi, rfl⟩ := List.getElem_of_mem hx
  have := (goodB_step h i hi).1
  simp only [decide_eq_true_eq]
  omega
/-- All lists that are left of a list. -/
def subs {α : Type} : List α → List (List α)
  | [] => [[]]
  | x :: t => (subs t).map (x :: ·) ++ subs t
theorem nil_subs {α : Type} : ∀ l : List α, [] ∈ subs l
  | [] => by simp [subs]
  | x :: t => by simp [subs, nil_subs t]
theorem sorted_subs {α : Type} (R : α → α → Prop) (ha : ∀ x y, R x y → ¬ R y x) : ∀ P L : List α, P.Pairwise R → L.Pairwise R → (∀ x ∈ L, x ∈ P) → L ∈ subs P := by
  intro P
  induction P with
  | nil =>
    intro L _ _ h
    cases L with
    | nil => simp [subs]
    | cons x L => exact absurd (h x (by simp)) (by simp)
  | cons p P ih =>
    intro L hP hL h
    obtain ⟨hp, hP2⟩ := List.pairwise_cons.1 hP
    cases L with
    | nil => exact nil_subs _
    | cons x L =>
      obtain ⟨hx, hL'⟩ := List.pairwise_cons.1 hL
      simp only [subs, List.mem_append, List.mem_map]
      rcases List.mem_cons.1 (h x (by simp)) with rfl | hxP
      · refine .inl ⟨L, ih L hP2 hL' (fun y hy => ?_), rfl⟩
        rcases List.mem_cons.1 (h y (by simp [hy])) with rfl | hy'
        · exact absurd (hx y hy) (fun g => ha _ _ g g)
        · exact hy'
      · refine .inr (ih (x :: L) hP2 hL (fun y hy => ?_))
        rcases List.mem_cons.1 (h y hy) with rfl | hy'
        · rcases List.mem_cons.1 hy with rfl | hy
          · exact absurd (hp y hxP) (fun g => ha _ _ g g)
          · exact absurd (hx y hy) (ha _ _ (hp x hxP))
        · exact hy'
theorem pw_steps {α : Type} (R : α → α → Prop) (tr : ∀ x y z, R x y → R y z → R x z) (l : List α) (h : ∀ i (hi : i + 1 < l.length), R (l[i]'(by omega)) l[i + 1]) : l.Pairwise R := by
  rw [List.pairwise_iff_getElem]
  intro i j hi hj hij
  obtain ⟨d, rfl⟩ : ∃ d, j = i + 1 + d := ⟨j - (i + 1), by omega⟩
  clear hij
  induction d with
  | zero => exact h i hj
  | succ d ih => exact tr _ _ _ (ih (by omega)) (h (i + 1 + d) hj)
/-- All pairs of n people, in order. -/
def prsN (n : Nat) : List (Nat × Nat) := (List.range' 0 n).flatMap fun a => (List.range' (a + 1) (n - (a + 1))).map fun b => (a, b)
theorem prsN_facts (n : Nat) (h : n ≤ 6) : (prsN n).length ≤ 15 ∧ (∀ p ∈ prsN n, p.1 < p.2 ∧ p.2 < n) ∧ (prsN n).Pairwise (fun p q => p.1 < q.1 ∨ p.1 = q.1 ∧ p.2 < q.2) := by
  obtain rfl | rfl | rfl | rfl | rfl | rfl | rfl : n = 0 ∨ n = 1 ∨ n = 2 ∨ n = 3 ∨ n = 4 ∨ n = 5 ∨ n = 6 := by omega
  all_goals decide
theorem mem_prsN (n a b : Nat) : (a, b) ∈ prsN n ↔ a < b ∧ b < n := by
  unfold prsN
  simp only [List.mem_flatMap, List.mem_map, List.mem_range'_1, Prod.mk.injEq]
  constructor
  · rintro ⟨x, hx, y, hy, rfl, rfl⟩; omega
  · rintro ⟨h1, h2⟩; exact ⟨a, by omega, b, by omega, rfl, rfl⟩
def pI (p : Nat × Nat) : S105 := ⟨(p.1 : Int), (p.2 : Int)⟩
theorem rd_pI (ps : List (Nat × Nat)) (i : Nat) (h : i < ps.length) : rd_T105 (ps.map pI) (i : Int) = pI ps[i] := by simp [rd_T105, List.getD, h]
def lexS (p q : S105) : Prop := p.f0 < q.f0 ∨ p.f0 = q.f0 ∧ p.f1 < q.f1
theorem goodB_sorted {n : Int} {l : List S105} (h : goodB n l = true) : l.Pairwise lexS :=
  pw_steps lexS (fun x y z h1 h2 => by unfold lexS at *; omega) l (fun i hi => (goodB_step h (i + 1) hi).2 (by omega))
theorem goodB_subs {n : Nat} (hn : n ≤ 6) {l : List S105} (h : goodB n l = true) : l ∈ subs ((prsN n).map pI) := by
  refine sorted_subs lexS (fun x y h1 => by unfold lexS at *; omega) _ l ?_ (goodB_sorted h) (fun x hx => ?_)
  · rw [List.pairwise_map]
    refine (prsN_facts n hn).2.2.imp (fun {a b} hab => ?_)
    unfold lexS pI
    simp only
    omega
  · obtain ⟨i, hi, rfl⟩ := List.getElem_of_mem hx
    have g := (goodB_step h i hi).1
    refine List.mem_map.2 ⟨(l[i].f0.toNat, l[i].f1.toNat), (mem_prsN n _ _).2 ⟨by omega, by omega⟩, ?_⟩
    obtain ⟨x, hx⟩ : ∃ x, x = l[i] := ⟨_, rfl⟩
    rw [← hx] at g ⊢
    obtain ⟨u, v⟩ := x
    simp only at g
    have e1 := Int.toNat_of_nonneg g.1
    have e2 := Int.toNat_of_nonneg (show 0 ≤ v by omega)
    simp only [pI, e1, e2]
-- mtM
-- adj_irr
-- goodB_subs
/-- The pairs as numbers. -/
def mtG (l : List S105) : List (Nat × Nat) := l.map fun x => (x.f0.toNat, x.f1.toNat)
def mtI (x : Nat × Nat) : S105 := ⟨x.1, x.2⟩
theorem mtG_length (l : List S105) : (mtG l).length = l.length := by simp [mtG]
theorem mtG_get {n : Int} {l : List S105} (h : goodB n l = true) (i : Nat) (hi : i < l.length) : ∃ A B : Nat, A < B ∧ B < n.toNat ∧ l[i] = ⟨(A : Int), (B : Int)⟩ ∧ (mtG l)[i]'(by rw [mtG_length]; exact hi) = (A, B) ∧ adj l A B = true := by
  have h1 := (goodB_step h i hi).1
  refine ⟨l[i].f0.toNat, l[i].f1.toNat, by omega, by omega, ?_, by simp [mtG], ?_⟩
  · rw [Int.toNat_of_nonneg h1.1, Int.toNat_of_nonneg (by omega)]
  · unfold adj
    rw [List.any_eq_true]
    exact ⟨l[i], List.getElem_mem hi, by simp⟩
theorem mtG_mem {n : Int} {l : List S105} (h : goodB n l = true) (x y : Nat) (hxy : x < y) (hf : adj l x y = true) : (x, y) ∈ mtG l := by
  unfold adj at hf
  rw [List.any_eq_true] at hf
  obtain ⟨z, hz, hd⟩ := hf
  simp only [decide_eq_true_eq] at hd
  obtain ⟨i, hi, rfl⟩ := List.getElem_of_mem hz
  have h1 := (goodB_step h i hi).1
  refine List.mem_map.2 ⟨l[i], hz, ?_⟩
  rcases hd with hd | hd
  · rw [hd.1, hd.2]
  · omega
theorem mtG_lt {n : Int} {l : List S105} (h : goodB n l = true) : ∀ x ∈ mtG l, x.1 < x.2 ∧ x.2 < n.toNat ∧ adj l x.1 x.2 = true := by
  intro x hx
  obtain ⟨i, hi, rfl⟩ := List.getElem_of_mem hx
  rw [mtG_length] at hi
  obtain ⟨A, B, h1, h2, _, h4, h5⟩ := mtG_get h i hi
  rw [h4]
  exact ⟨h1, h2, h5⟩
theorem mtG_sorted {n : Int} {l : List S105} (h : goodB n l = true) : (mtG l).Pairwise fun x y => x.1 < y.1 ∨ x.1 = y.1 ∧ x.2 < y.2 := by
  unfold mtG
  rw [List.pairwise_map]
  refine (goodB_sorted h).imp_of_mem (fun {a b} ha hb hab => ?_)
  obtain ⟨i, hi, rfl⟩ := List.getElem_of_mem ha
  obtain ⟨j, hj, rfl⟩ := List.getElem_of_mem hb
  have h1 := (goodB_step h i hi).1
  have h2 := (goodB_step h j hj).1
  unfold lexS at hab
  simp only
  omega
theorem mtM_le (n : Nat) (F : Nat → Nat → Bool) (hF : ∀ a, F a a = false) (hS : ∀ a b, F a b = F b a) (p : Nat → Bool) : 2 * mtM n F p ≤ n := by
  have h1 := mt_M_two (n := n) hF hS _ p (Nat.le_refl _)
  have h2 := mt_card_le (n := n) p
  omega
-- mt_list
-- pin
-- adj
def mostC (n : Int) (l : List S105) : List S105 × Bool := if goodB n l = true then ((mt_gr n.toNat (adj l) (mtG l) (fun _ => true)).map mtI, true) else ([], false)
/-- No pair that was told before can be taken any more. -/
def mtInv (l : List S105) (n : Nat) (p : Nat → Bool) (i : Nat) : Prop := ∀ j (_ : j < i) (h : j < (mtG l).length), p (mtG l)[j].1 = true → p (mtG l)[j].2 = true → mtM n (adj l) p ≠ 1 + mtM n (adj l) (rem2 p (mtG l)[j].1 (mtG l)[j].2)
theorem mt_before {n : Int} {l : List S105} (h : goodB n l = true) (i : Nat) (hi : i < (mtG l).length) (x y : Nat) (hxy : x < y) (hx : x < (mtG l)[i].1) (hf : adj l x y = true) : ∃ j, ∃ hj : j < (mtG l).length, j < i ∧ (mtG l)[j] = (x, y) := by
  obtain ⟨j, hj, e⟩ := List.getElem_of_mem (mtG_mem h x y hxy hf)
  refine ⟨j, hj, ?_, e⟩
  rcases Nat.lt_trichotomy j i with g | g | g
  · exact g
  · subst g
    rw [e] at hx
    exact absurd hx (Nat.lt_irrefl _)
  · have h1 := List.pairwise_iff_getElem.1 (mtG_sorted h) i j hi hj g
    rw [e] at h1
    simp only at h1
    omega
theorem mt_still {n : Int} {l : List S105} (h : goodB n l = true) (p : Nat → Bool) (A B : Nat) (hAB : A < B) (hB : B < n.toNat) (hf : adj l A B = true) (hpA : p A = true) (hpB : p B = true) (ht : 1 + mtM n.toNat (adj l) (rem2 p A B) = mtM n.toNat (adj l) p) (x y : Nat) (hx : x < n.toNat) (hy : y < n.toNat) (hfx : adj l x y = true) (hqx : rem2 p A B x = true) (hqy : rem2 p A B y = true) (hn : mtM n.toNat (adj l) p ≠ 1 + mtM n.toNat (adj l) (rem2 p x y)) : mtM n.toNat (adj l) (rem2 p A B) ≠ 1 + mtM n.toNat (adj l) (rem2 (rem2 p A B) x y) := by
  intro he
  have hF := adj_irr h
  have hS := adj_symm l
  have gx : p x = true ∧ x ≠ A ∧ x ≠ B := by
    unfold rem2 at hqx
    simp only [Bool.and_eq_true, bne_iff_ne] at hqx
    exact ⟨hqx.1.1, hqx.1.2, hqx.2⟩
  have gy : p y = true ∧ y ≠ A ∧ y ≠ B := by
    unfold rem2 at hqy
    simp only [Bool.and_eq_true, bne_iff_ne] at hqy
    exact ⟨hqy.1.1, hqy.1.2, hqy.2⟩
  have k1 := mt_M_pair (n := n.toNat) hF hS _ p (Nat.le_refl _) x y hx hy gx.1 gy.1 hfx
  have k2 := mt_M_pair (n := n.toNat) hF hS _ (rem2 p x y) (Nat.le_refl _) A B (by omega) hB (by unfold rem2; simp [hpA, Ne.symm gx.2.1, Ne.symm gy.2.1]) (by unfold rem2; simp [hpB, Ne.symm gx.2.2, Ne.symm gy.2.2]) hf
  have e2 : mtM n.toNat (adj l) (rem2 (rem2 p x y) A B) = mtM n.toNat (adj l) (rem2 (rem2 p A B) x y) := mt_M_congr (fun i _ => by
    unfold rem2
    simp only [Bool.and_assoc, Bool.and_comm, Bool.and_left_comm])
  omega
theorem mt_tight {n : Int} {l : List S105} (h : goodB n l = true) (p : Nat → Bool) (i A B : Nat) (hi : i < (mtG l).length) (e : (mtG l)[i] = (A, B)) (hpA : p A = true) (hpB : p B = true) (hinv : mtInv l n.toNat p i) : (1 + mtM n.toNat (adj l) (fun x => rem2 p A B x && decide (A ≤ x)) = mtM n.toNat (adj l) p) ↔ (1 + mtM n.toNat (adj l) (rem2 p A B) = mtM n.toNat (adj l) p) := by
  have hF := adj_irr h
  have hS := adj_symm l
  obtain ⟨hAB, hB, hf⟩ := mtG_lt h (mtG l)[i] (List.getElem_mem hi)
  rw [e] at hAB hB hf
  simp only at hAB hB hf
  have k1 := mt_M_pair (n := n.toNat) hF hS _ p (Nat.le_refl _) A B (by omega) hB hpA hpB hf
  have k2 : mtM n.toNat (adj l) (fun x => rem2 p A B x && decide (A ≤ x)) ≤ mtM n.toNat (adj l) (rem2 p A B) := mt_M_mono (n := n.toNat) hF _ _ _ (Nat.le_refl _) (fun x _ hx => by
    rw [Bool.and_eq_true] at hx
    exact hx.1)
  constructor
  · intro h1; omega
  · intro h1
    rw [mt_M_above hF hS A _ (rem2 p A B) (Nat.le_refl _) (fun x y hxy hy hx hqx hqy hfx => by
      obtain ⟨j, hj, hji, ej⟩ := mt_before h i hi x y hxy (by rw [e]; exact hx) hfx
      have gx : p x = true := by
        unfold rem2 at hqx
        simp only [Bool.and_eq_true] at hqx
        exact hqx.1.1
      have gy : p y = true := by
        unfold rem2 at hqy
        simp only [Bool.and_eq_true] at hqy
        exact hqy.1.1
      have hn := hinv j hji hj (by rw [ej]; exact gx) (by rw [ej]; exact gy)
      rw [ej] at hn
      exact mt_still h p A B hAB hB hf hpA hpB h1 x y (by omega) hy hfx hqx hqy hn)]
    exact h1
theorem mt_inv_take {n : Int} {l : List S105} (h : goodB n l = true) (p : Nat → Bool) (i A B : Nat) (hi : i < (mtG l).length) (e : (mtG l)[i] = (A, B)) (hpA : p A = true) (hpB : p B = true) (ht : 1 + mtM n.toNat (adj l) (rem2 p A B) = mtM n.toNat (adj l) p) (hinv : mtInv l n.toNat p i) : mtInv l n.toNat (rem2 p A B) (i + 1) := by
  obtain ⟨hAB, hB, hf⟩ := mtG_lt h (mtG l)[i] (List.getElem_mem hi)
  rw [e] at hAB hB hf
  simp only at hAB hB hf
  intro j hj hjl h1 h2
  have g := mtG_lt h (mtG l)[j] (List.getElem_mem hjl)
  have gx : p (mtG l)[j].1 = true ∧ (mtG l)[j].1 ≠ A := by
    unfold rem2 at h1
    simp only [Bool.and_eq_true, bne_iff_ne] at h1
    exact ⟨h1.1.1, h1.1.2⟩
  have gy : p (mtG l)[j].2 = true := by
    unfold rem2 at h2
    simp only [Bool.and_eq_true, bne_iff_ne] at h2
    exact h2.1.1
  have hji : j < i := by
    rcases Nat.lt_or_ge j i with g | g
    · exact g
    · have : j = i := by omega
      subst this
      exact absurd (by rw [e]) gx.2
  exact mt_still h p A B hAB hB hf hpA hpB ht _ _ (by omega) g.2.1 g.2.2 h1 h2 (hinv j hji hjl gx.1 gy)
theorem mt_inv_skip {n : Nat} {l : List S105} (p : Nat → Bool) (i : Nat) (hi : i < (mtG l).length) (ht : ¬ (p (mtG l)[i].1 = true ∧ p (mtG l)[i].2 = true ∧ 1 + mtM n (adj l) (rem2 p (mtG l)[i].1 (mtG l)[i].2) = mtM n (adj l) p)) (hinv : mtInv l n p i) : mtInv l n p (i + 1) := by
  intro j hj hjl h1 h2
  rcases Nat.lt_or_ge j i with g | g
  · exact hinv j g hjl h1 h2
  · have : j = i := by omega
    subst this
    intro he
    exact ht ⟨h1, h2, he.symm⟩
theorem rdT_get (l : List S105) (i : Nat) (h : i < l.length) : rd_T105 l (i : Int) = l[i] := by simp [rd_T105, List.getD, h]
theorem mostC_len (n : Int) (l : List S105) : (mostC n l).1.length ≤ 12 := by
  unfold mostC
  by_cases hg : goodB n l = true
  · rw [if_pos hg]
    simp only [List.length_map]
    have h1 := mt_gr_len (n := n.toNat) (F := adj l) (mtG l) (fun _ => true)
    have h2 := mtM_le n.toNat (adj l) (adj_irr hg) (adj_symm l) (fun _ => true)
    have := goodB_people hg
    omega
  · rw [if_neg hg]
    simp
-- mostC
-- mostC_len
/-- The first pairing, and whether there is one. -/
def fpC (n : Int) (l : List S105) : List S105 × Bool := if goodB n l = true then (match mt_fp n.toNat (adj l) n.toNat (fun _ => true) with
  | some r => (r.map mtI, true)
  | none => ([], false)) else ([], false)
theorem card_all (n : Nat) : card n (fun _ => true) = n := by
  unfold card
  rw [List.filter_eq_self.2 (fun _ _ => rfl), List.length_range]
theorem mt_fp_len (n : Nat) (F : Nat → Nat → Bool) (hF : ∀ a, F a a = false) : ∀ (m : Nat) (p : Nat → Bool) (r : List (Nat × Nat)), card n p ≤ m → mt_fp n F m p = some r → 2 * r.length = card n p := by
  intro m
  induction m with
  | zero =>
    intro p r hc h
    obtain rfl := Option.some.inj h
    simp only [List.length_nil]
    omega
  | succ m ih =>
    intro p r hc h
    rcases least p n with ⟨a, ha, hp, hl⟩ | hno
    · rw [mt_fp_some n F m p a ha hp hl] at h
      obtain ⟨l1, b, l2, h1, h2, _⟩ := mt_fso_some _ _ _ h
      have hb : b ∈ (List.range n).filter fun y => F a y && p y := by rw [h1]; simp
      obtain ⟨hb1, hb2⟩ := List.mem_filter.1 hb
      rw [Bool.and_eq_true] at hb2
      obtain ⟨r', h3, h4⟩ := Option.map_eq_some_iff.1 h2
      have hne : a ≠ b := by rintro rfl; rw [hF] at hb2; exact absurd hb2.1 (by simp)
      have k1 := mt_card_rem2 n p a b ha hp (List.mem_range.1 hb1) hb2.2 hne
      have k2 := ih (rem2 p a b) r' (by omega) h3
      rw [← h4, List.length_cons]
      omega
    · rw [mt_fp_none n F _ p hno] at h
      obtain rfl := Option.some.inj h
      have h0 : card n p = 0 := by unfold card; rw [filter_none p n hno]; rfl
      simp [h0]
theorem fpC_len (n : Int) (l : List S105) : (fpC n l).1.length ≤ 12 := by
  unfold fpC
  by_cases hg : goodB n l = true
  · rw [if_pos hg]
    have hp := goodB_people hg
    cases h : mt_fp n.toNat (adj l) n.toNat (fun _ => true) with
    | none => simp
    | some r =>
      have := mt_fp_len n.toNat (adj l) (adj_irr hg) n.toNat (fun _ => true) r (by rw [card_all]; omega) h
      rw [card_all] at this
      simp only [List.length_map]
      omega
  · rw [if_neg hg]
    simp
theorem goodB_pin {n : Int} {l : List S105} (h : goodB n l = true) : pin n.toNat l := by
  intro x hx
  obtain ⟨i, hi, rfl⟩ := List.getElem_of_mem hx
  have := (goodB_step h i hi).1
  have := goodB_people h
  omega
-- fpC
-- pmc
-- dn
theorem pmc_le (n : Nat) (hn : n ≤ 12) (F : Nat → Nat → Bool) : ∀ (m : Nat) (p : Nat → Bool), pmc n F m p ≤ 12 ^ m := by
  intro m
  induction m with
  | zero => intro p; exact Nat.le_refl _
  | succ m ih =>
    intro p
    rcases least p n with ⟨a, ha, hpa, hla⟩ | hno
    · rw [pmc_some n F m p a ha hpa hla]
      have : ∀ L : List Nat, (L.map fun b => pmc n F m (rem2 p a b)).sum ≤ L.length * 12 ^ m := by
        intro L
        induction L with
        | nil => simp
        | cons b L ihL =>
          rw [List.map_cons, List.sum_cons, List.length_cons, Nat.succ_mul]
          have := ih (rem2 p a b)
          omega
      refine Nat.le_trans (this _) ?_
      rw [Nat.pow_succ, Nat.mul_comm]
      refine Nat.mul_le_mul_left _ (Nat.le_trans (List.length_filter_le _ _) ?_)
      simpa using hn
    · rw [pmc_none n F _ p hno]
      exact Nat.pow_pos (by omega)
theorem pmc_zero (n : Nat) (F : Nat → Nat → Bool) : ∀ (m : Nat) (p : Nat → Bool), pmc n F m p = 0 ↔ mt_fp n F m p = none := by
  intro m
  induction m with
  | zero => intro p; simp [pmc, mt_fp]
  | succ m ih =>
    intro p
    rcases least p n with ⟨a, ha, hpa, hla⟩ | hno
    · rw [pmc_some n F m p a ha hpa hla, mt_fp_some n F m p a ha hpa hla, mt_fso_none]
      generalize (List.range n).filter (fun y => F a y && p y) = L
      induction L with
      | nil => simp
      | cons b L ihL =>
        rw [List.map_cons, List.sum_cons]
        constructor
        · intro h x hx
          rcases List.mem_cons.1 hx with rfl | hx
          · rw [(ih (rem2 p a x)).1 (by omega)]; rfl
          · exact ihL.1 (by omega) x hx
        · intro h
          have h1 := h b List.mem_cons_self
          have h2 := ihL.2 (fun x hx => h x (List.mem_cons_of_mem _ hx))
          have h3 : mt_fp n F m (rem2 p a b) = none := by
            cases hq : mt_fp n F m (rem2 p a b) with
            | none => rfl
            | some r => rw [hq] at h1; cases h1
          have h4 := (ih (rem2 p a b)).2 h3
          omega
    · rw [pmc_none n F _ p hno, mt_fp_none n F _ p hno]
      simp
/-- What the search leaves as the first one. -/
def resF (ps : List S105) (c : Int) (o : Option (List (Nat × Nat))) (Fs : List S105) : List S105 := if c = 0 then (match o with
  | some l => ps ++ l.map mtI
  | none => Fs) else Fs
theorem spec_taPair.leaf2 (n : Nat) (hn : n ≤ 12) (F : Nat → Nat → Bool) (p : Nat → Bool) (ps : List S105) (c : Int) (Fs : List S105) (hps : ps.length ≤ 1000) (hc : 0 ≤ c) (hc2 : c ≤ 4611686018427387904) (hnone : ∀ i, i < n → p i = false) : Ev (fun k => spec_taPair.f k n (tabB n F) (dn n p) ps c Fs) (dn n p, c + 1, resF ps c (some []) Fs) := by
  have h1 := spec_taPair.la_ok n hn p n (Nat.le_refl _) (fun h => absurd h (Nat.lt_irrefl n)) hnone 0 (Nat.zero_le _)
  have hw : wrap64 (c + 1) = c + 1 := wrap_id (by omega) (by omega)
  unfold resF
  by_cases c0 : c = 0
  · rw [if_pos c0]
    simp only [List.map_nil, List.append_nil]
    refine Ev.step (spec_taPair.step n F p ps c Fs) (Ev.bind h1 (Ev.ite_pos rfl (Ev.ite_pos c0 (Ev.ite_pos (by omega) ?_))))
    rw [hw]
    exact Ev.now _
  · rw [if_neg c0]
    refine Ev.step (spec_taPair.step n F p ps c Fs) (Ev.bind h1 (Ev.ite_pos rfl (Ev.ite_neg c0 ?_)))
    rw [hw]
    exact Ev.now _
theorem resF_step (n : Nat) (F : Nat → Nat → Bool) (m : Nat) (p : Nat → Bool) (a b : Nat) (L : List Nat) (ps : List S105) (c : Int) (hc : 0 ≤ c) (Fs : List S105) : resF ps (c + ((pmc n F m (rem2 p a b) : Nat) : Int)) (mt_fso (fun b => (mt_fp n F m (rem2 p a b)).map fun l => (a, b) :: l) L) (resF (ps ++ [⟨(a : Int), (b : Int)⟩]) c (mt_fp n F m (rem2 p a b)) Fs) = resF ps c (mt_fso (fun b => (mt_fp n F m (rem2 p a b)).map fun l => (a, b) :: l) (b :: L)) Fs := by
  have hz := pmc_zero n F m (rem2 p a b)
  unfold resF
  by_cases c0 : c = 0
  · subst c0
    simp only [if_true]
    rw [mt_fso]
    cases hq : mt_fp n F m (rem2 p a b) with
    | none =>
      rw [hz.2 hq]
      simp
    | some r =>
      have h1 : pmc n F m (rem2 p a b) ≠ 0 := fun e => by rw [hz.1 e] at hq; cases hq
      rw [if_neg (by omega)]
      simp [mtI]
  · rw [if_neg (by omega), if_neg c0, if_neg c0]
theorem spec_taPair.first (n : Nat) (hn : n ≤ 12) (F : Nat → Nat → Bool) (hF : ∀ a, F a a = false) : ∀ (m : Nat) (p : Nat → Bool) (ps : List S105) (c : Int) (Fs : List S105), ((List.range n).filter p).length ≤ m → ps.length + m ≤ 1000 → 0 ≤ c → c + ((pmc n F m p : Nat) : Int) ≤ 4611686018427387904 →
    Ev (fun k => spec_taPair.f k n (tabB n F) (dn n p) ps c Fs) (dn n p, c + ((pmc n F m p : Nat) : Int), resF ps c (mt_fp n F m p) Fs) := by
  intro m
  induction m with
  | zero =>
    intro p ps c Fs hm hps hc hc2
    have hnone : ∀ i, i < n → p i = false := mt_card_zero (Nat.le_zero.1 hm)
    have h2 := spec_taPair.leaf2 n hn F p ps c Fs (by omega) hc (by omega) hnone
    rw [pmc_none n F 0 p hnone, mt_fp_none n F 0 p hnone]
    exact h2
  | succ m ih =>
    intro p ps c Fs hm hps hc hc2
    rcases least p n with ⟨a, ha, hpa, hla⟩ | hnone
    · have h1 := spec_taPair.la_ok n hn p a (by omega) (fun _ => hpa) hla 0 (Nat.zero_le _)
      have hfb := filter_behind (fun y => F a y && p y) n a ha (by
        intro y hy
        by_cases e : y = a
        · subst e; simp [hF]
        · simp [hla y (by omega)])
      rw [pmc_some n F m p a ha hpa hla, hfb] at hc2
      rw [pmc_some n F m p a ha hpa hla, mt_fp_some n F m p a ha hpa hla, hfb]
      have loop := up_loop (P := fun b => a + 1 ≤ b → ∀ (c : Int) (Fs : List S105), 0 ≤ c → c + (((((List.range' b (n - b)).filter fun y => F a y && p y).map fun b => pmc n F m (rem2 p a b)).sum : Nat) : Int) ≤ 4611686018427387904 → Ev (fun k => spec_taPair.l1 k n (tabB n F) (dn n (fun i => p i && (i != a))) ps (a : Int) (b : Int) c Fs) (dn n p, c + (((((List.range' b (n - b)).filter fun y => F a y && p y).map fun b => pmc n F m (rem2 p a b)).sum : Nat) : Int), resF ps c (mt_fso (fun b => (mt_fp n F m (rem2 p a b)).map fun l => (a, b) :: l) ((List.range' b (n - b)).filter fun y => F a y && p y)) Fs)) (n := n) (by
          intro _ c Fs hc _
          refine Ev.step (f := fun _ => some (dn n p, c, Fs)) (fun k => ?_) ?_
          · rw [spec_taPair.l1, if_neg (by omega), Int.toNat_natCast, dn_set]
            congr 2
            apply dn_congr
            intro i hi
            by_cases e : i = a
            · subst e; simp [hpa]
            · simp [e]
          · rw [Nat.sub_self]
            simp only [List.range'_zero, List.filter_nil, List.map_nil, List.sum_nil, mt_fso]
            rw [show c + ((0 : Nat) : Int) = c from by omega, show resF ps c none Fs = Fs from by unfold resF; split <;> rfl]
            exact Ev.now _) (by
          intro b hb h hab c Fs hc hc3
          have hl1 : ∀ k, spec_taPair.l1 (k + 1) n (tabB n F) (dn n (fun i => p i && (i != a))) ps (a : Int) (b : Int) c Fs = if F a b = true then (if (!p b) = true then spec_taPair.l1 k n (tabB n F) (dn n (fun i => p i && (i != a))) ps (a : Int) ((b + 1 : Nat) : Int) c Fs else ((spec_taPair.f k n (tabB n F) (dn n (rem2 p a b)) (ps ++ [⟨(a : Int), (b : Int)⟩]) c Fs).bind fun r => spec_taPair.l1 k n (tabB n F) (r.1.set b false) ps (a : Int) ((b + 1 : Nat) : Int) r.2.1 r.2.2)) else spec_taPair.l1 k n (tabB n F) (dn n (fun i => p i && (i != a))) ps (a : Int) ((b + 1 : Nat) : Int) c Fs := by
            intro k
            have er : (dn n (fun i => p i && (i != a))).set b true = dn n (rem2 p a b) := by
              rw [dn_set]
              apply dn_congr
              intro i _
              unfold rem2
              by_cases e : i = b
              · subst e; simp
              · simp [e]
            have hab2 : (b != a) = true := by simp; omega
            rw [spec_taPair.l1, if_pos (by omega), if_pos (by omega), if_pos (by rw [tabB_length]; omega), Int.toNat_natCast, Int.toNat_natCast, tabB_getD n F a ha, if_pos (by simp; omega), row_get n (F a) b hb, dn_get n _ b hb, nat_succ b (by omega), hab2, Bool.and_true, if_pos (show ps.length < 8796093022206 by omega), er]
          rw [range'_cons b n hb] at hc3 ⊢
          cases hFb : F a b with
          | false =>
            rw [List.filter_cons_of_neg (by simp [hFb])] at hc3 ⊢
            refine Ev.step hl1 ?_
            rw [hFb]
            exact Ev.ite_neg (by simp) (h (by omega) c Fs hc hc3)
          | true =>
            cases hpb : p b with
            | false =>
              rw [List.filter_cons_of_neg (by simp [hpb])] at hc3 ⊢
              refine Ev.step hl1 ?_
              rw [hFb, hpb]
              exact Ev.ite_pos rfl (Ev.ite_pos rfl (h (by omega) c Fs hc hc3))
            | true =>
              rw [List.filter_cons_of_pos (by simp [hFb, hpb]), List.map_cons, List.sum_cons] at hc3 ⊢
              have hF1 := ih (rem2 p a b) (ps ++ [⟨(a : Int), (b : Int)⟩]) c Fs (rem2_len n p a b m ha hpa hla hm) (by simp; omega) hc (by omega)
              have hF2 := h (by omega) (c + ((pmc n F m (rem2 p a b) : Nat) : Int)) (resF (ps ++ [⟨(a : Int), (b : Int)⟩]) c (mt_fp n F m (rem2 p a b)) Fs) (by omega) (by omega)
              rw [resF_step n F m p a b _ ps c hc Fs] at hF2
              refine Ev.step hl1 ?_
              rw [hFb, hpb]
              refine Ev.ite_pos rfl (Ev.ite_neg (by simp) (Ev.bind hF1 ?_))
              have er : (dn n (rem2 p a b)).set b false = dn n (fun i => p i && (i != a)) := by
                rw [dn_set]
                apply dn_congr
                intro i _
                unfold rem2
                by_cases e : i = b
                · subst e; simp [hpb]; omega
                · simp [e]
              simp only [er]
              rw [show c + ((pmc n F m (rem2 p a b) + (((List.range' (b + 1) (n - (b + 1))).filter fun y => F a y && p y).map fun b => pmc n F m (rem2 p a b)).sum : Nat) : Int) = c + ((pmc n F m (rem2 p a b) : Nat) : Int) + (((((List.range' (b + 1) (n - (b + 1))).filter fun y => F a y && p y).map fun b => pmc n F m (rem2 p a b)).sum : Nat) : Int) from by omega]
              exact hF2)
      have hF' := loop (a + 1) (by omega) (Nat.le_refl _) c Fs hc hc2
      refine Ev.step (spec_taPair.step n F p ps c Fs) (Ev.bind h1 ?_)
      refine Ev.ite_neg (by omega) ?_
      have er : (dn n p).set a true = dn n (fun i => p i && (i != a)) := by
        rw [dn_set]
        apply dn_congr
        intro i _
        by_cases e : i = a
        · subst e; simp
        · simp [e]
      rw [Int.toNat_natCast, er, nat_succ a (by omega)]
      exact hF'
    · rw [pmc_none n F (m + 1) p hnone] at hc2 ⊢
      rw [mt_fp_none n F (m + 1) p hnone]
      exact spec_taPair.leaf2 n hn F p ps c Fs (by omega) hc (by omega) hnone
theorem spec_FirstPairing.ok (n : Int) (l : List S105) : Ev (fun k => spec_FirstPairing.f k n l) (fpC n l) := by
  unfold spec_FirstPairing.f fpC
  refine Ev.bind (ev_of 70 fun k hk => spec_paGood.ok n l k hk) ?_
  by_cases hg : goodB n l = true
  · rw [if_pos hg]
    refine Ev.ite_pos hg ?_
    have hp := goodB_people hg
    have h66 := goodB_len66 hg
    have hle := pmc_le n.toNat (by omega) (adj l) n.toNat (fun _ => true)
    have hle2 : (12 : Nat) ^ n.toNat ≤ 12 ^ 12 := Nat.pow_le_pow_right (by omega) (by omega)
    have hle3 : (12 : Nat) ^ 12 = 8916100448256 := by decide
    have h1 := spec_taPair.first n.toNat (by omega) (adj l) (adj_irr hg) n.toNat (fun _ => true) [] 0 [] (Nat.le_trans (List.length_filter_le _ _) (by simp)) (by simp; omega) (by omega) (by omega)
    have h2 := spec_paTable.ok n.toNat (by omega) l (by omega) (goodB_pin hg)
    rw [Int.toNat_of_nonneg hp.1] at h2
    have e : List.replicate n.toNat false = dn n.toNat (fun _ => true) := by
      apply List.ext_getElem (by simp [dn])
      intro i h1 h2
      simp [dn]
    have h3 : Ev (fun k => spec_taPairs.f k n l) (((pmc n.toNat (adj l) n.toNat (fun _ => true) : Nat) : Int), resF [] 0 (mt_fp n.toNat (adj l) n.toNat (fun _ => true)) []) := by
      unfold spec_taPairs.f
      refine Ev.bind h2 (Ev.ite_pos hp.1 (Ev.ite_pos (by omega) ?_))
      rw [e]
      refine Ev.bind h1 ?_
      simp only [Int.zero_add]
      exact Ev.now _
    refine Ev.bind h3 ?_
    have hz := pmc_zero n.toNat (adj l) n.toNat (fun _ => true)
    unfold resF
    rw [if_pos rfl]
    cases hq : mt_fp n.toNat (adj l) n.toNat (fun _ => true) with
    | none =>
      rw [hz.2 hq]
      exact Ev.now _
    | some r =>
      have h4 : pmc n.toNat (adj l) n.toNat (fun _ => true) ≠ 0 := fun e => by rw [hz.1 e] at hq; cases hq
      have h5 : decide (((pmc n.toNat (adj l) n.toNat (fun _ => true) : Nat) : Int) > 0) = true := decide_eq_true (by omega)
      simp only [h5, List.nil_append]
      exact Ev.now _
  · rw [if_neg hg]
    exact Ev.ite_neg hg (Ev.now _)

theorem cmp_Compare_int.ok (a b : Int) : cmp_Compare_int.f a b = some (if a < b then -1 else if a > b then 1 else 0) := by
  unfold cmp_Compare_int.f cmp_isNaN_int.f
  simp only [Option.bind_some, bne_self_eq_false]
  rw [if_neg (by simp), if_neg (by simp)]
  split <;> (try split) <;> rfl
def cmpI (a b c d : Int) : Int := if a < c then -1 else if a > c then 1 else if b < d then -1 else if b > d then 1 else 0
theorem cmp_Or_int.two (k : Nat) (x y : Int) : cmp_Or_int.f (k + 3) [x, y] = some (if x = 0 then y else x) := by
  unfold cmp_Or_int.f
  simp only [cmp_Or_int.l0, List.length_cons, List.length_nil, rd]
  by_cases hx : x = 0
  · by_cases hy : y = 0
    · simp [hx, hy, wrap_one, wrap_two]
    · simp [hx, hy, wrap_one]
  · simp [hx]
theorem impl_comparePairs.ok (k : Nat) (hk : 3 ≤ k) (a b c d : Int) : impl_comparePairs.f k a b c d = some (cmpI a b c d) := by
  obtain ⟨k, rfl⟩ : ∃ m, k = m + 3 := ⟨k - 3, by omega⟩
  unfold impl_comparePairs.f cmpI
  simp only [cmp_Compare_int.ok, Option.bind_some, cmp_Or_int.two]
  split
  · simp
  · split <;> simp
theorem cmpI_neg (x y : S105) : (cmpI x.f0 x.f1 y.f0 y.f1 ≥ 0) = (lessB x y = false) := by
  unfold cmpI lessB
  rw [eq_iff_iff, decide_eq_false_iff_not]
  split
  · constructor <;> intro h <;> omega
  · split
    · constructor <;> intro h <;> omega
    · split
      · constructor <;> intro h <;> omega
      · split <;> constructor <;> intro h <;> omega

theorem impl_areCrowd.ok (n : Int) : impl_areCrowd.f n = some (crowd n) := by unfold impl_areCrowd.f crowd; simp [impl_within.ok]

theorem impl_IsParty.ok (n : Int) (l : List S105) (hl : l.length ≤ 1048576) (k : Nat) (hk : l.length + 4 < k) : impl_IsParty.f k n l = some (goodB n l) := by
  unfold impl_IsParty.f
  rw [all_loop_fin (fun k i => impl_IsParty.l0 k l (l.length : Int) i n l) l.length (stepB n l) (crowd n) (by omega) 3 ?_ ?_ k (by omega)]
  · unfold goodB; rw [Bool.and_comm]
  · intro k i h hk3
    simp only [impl_IsParty.l0]
    rw [if_pos (by omega), if_pos (by omega), if_pos (by omega), rd_T105_nat l i h, stepB_eq n l i h]
    by_cases h1 : 0 ≤ l[i].f0 ∧ l[i].f0 < l[i].f1 ∧ l[i].f1 < n
    · rw [if_neg (by omega), if_neg (by omega), if_neg (by omega), decide_eq_true h1, Bool.true_and]
      rcases Nat.eq_zero_or_pos i with rfl | hi
      · rw [if_neg (by simp)]; simp
      · have e3 : wrap64 ((i : Int) - 1) = ((i - 1 : Nat) : Int) := by rw [wrap_id (by omega) (by omega)]; omega
        rw [if_pos (by omega), e3, if_pos (by omega), if_pos (by omega), rd_T105_nat l (i - 1) (by omega), impl_comparePairs.ok _ hk3]
        simp only [Option.bind_some, cmpI_neg]
        rw [show (i == 0) = false from by simp; omega, Bool.false_or]
        cases lessB l[i - 1] l[i] <;> rfl
    · rw [decide_eq_false h1, Bool.false_and]
      simp only [Bool.false_eq_true, if_false]
      by_cases a1 : l[i].f0 < 0
      · rw [if_pos a1]
      · rw [if_neg a1]
        by_cases a2 : l[i].f0 ≥ l[i].f1
        · rw [if_pos a2]
        · rw [if_neg a2, if_pos (by omega)]
  · intro k hk3
    simp only [impl_IsParty.l0]
    rw [if_neg (by omega), impl_areCrowd.ok]; rfl

theorem tabI_none (n : Nat) : List.replicate n (0 : Int) = tabI n (adj []) := by
  apply List.ext_getElem (by simp [tabI])
  intro i h1 h2
  have : msk (adj [] i) n = 0 := by
    apply Nat.eq_of_testBit_eq
    intro j
    rw [msk_testBit]
    simp [adj]
  simp [tabI, this]
-- pairnat
theorem impl_Party_table.ok (n : Nat) (hn : n ≤ 12) (l : List S105) (hl : l.length ≤ 1048576) (hp : pin n l) : Ev (fun k => impl_Party_table.f k (n : Int) l) (tabI n (adj l)) := by
  have h1 : Ev (fun k => impl_Party_table.l0 k (tabI n (adj (l.take 0))) l (l.length : Int) ((0 : Nat) : Int)) (tabI n (adj l)) := by
    refine up_loop (P := fun i => Ev (fun k => impl_Party_table.l0 k (tabI n (adj (l.take i))) l (l.length : Int) (i : Int)) (tabI n (adj l))) (n := l.length) ?_ ?_ 0 (Nat.zero_le _)
    · refine Ev.step (f := fun _ => some (tabI n (adj l))) (fun k => ?_) (Ev.now _)
      simp only [impl_Party_table.l0]
      rw [if_neg (by omega), List.take_length]
    · intro i hi h
      refine Ev.step (fun k => ?_) h
      obtain ⟨q0, q1, q2, q3⟩ := hp l[i] (List.getElem_mem hi)
      obtain ⟨a, ea⟩ := Int.eq_ofNat_of_zero_le q0
      obtain ⟨b, eb⟩ := Int.eq_ofNat_of_zero_le q2
      have ha : a < n := by omega
      have hb : b < n := by omega
      simp only [impl_Party_table.l0, Option.bind_some]
      rw [if_pos (by omega), if_pos (by omega), if_pos (by omega), rd_T105_nat l i hi, ea, eb, tabI_rd n _ a ha, if_pos (by omega), if_pos (by rw [tabI_length]; omega), if_pos (by omega), if_pos (by rw [tabI_length]; omega)]
      simp only [Int.toNat_natCast]
      rw [tabI_set n _ a b (by omega) ha hb, tabI_rd n _ b hb, tabI_set n _ b a (by omega) hb ha, nat_succ i (by omega), adj_take l i hi, ea, eb]
      simp only [Int.toNat_natCast]
  unfold impl_Party_table.f
  refine Ev.congr (fun k => ?_) h1
  rw [if_pos (by omega), if_pos (by omega)]
  simp only [Int.toNat_natCast, tabI_none, List.take_zero]
  rfl

theorem impl_table_all.ok (n : Nat) (hn : n ≤ 12) (F : Nat → Nat → Bool) : impl_table_all.f (tabI n F) = some ((msk (fun _ => true) n : Nat) : Int) := by
  unfold impl_table_all.f
  rw [tabI_length, all_bits n hn]

def ints (bs : List Nat) : List Int := bs.map fun (b : Nat) => (b : Int)
theorem ints_length (bs : List Nat) : (ints bs).length = bs.length := by simp [ints]
theorem rd_ints (bs : List Nat) (i : Nat) (h : i < bs.length) : rd (ints bs) (i : Int) = ((bs[i] : Nat) : Int) := by simp [rd, ints, List.getD, h]
-- ints
theorem impl_listed.go : ∀ (m s : Nat) (acc : List Int), (bof s).length = m → s < 65536 → acc.length + m ≤ 1000 → Ev (fun k => impl_listed.l0 k (s : Int) acc) (acc ++ ints (bof s)) := by
  intro m
  induction m with
  | zero =>
    intro s acc hm hs _
    have e := bof_nil s hs (List.length_eq_zero_iff.1 hm)
    rw [List.length_eq_zero_iff.1 hm]
    subst e
    refine Ev.step (f := fun _ => some acc) (fun k => ?_) (by rw [show acc ++ ints [] = acc from by simp [ints]]; exact Ev.now _)
    rw [impl_listed.l0, if_neg (by simp)]
  | succ m ih =>
    intro s acc hm hs ha
    have h0 : s ≠ 0 := by rintro rfl; rw [bof_zero] at hm; simp at hm
    have es := bof_step s h0 hs
    rw [es] at hm ⊢
    have h1 := ih (s &&& (s - 1)) (acc ++ [((Go.Lib.ctz 16 s : Nat) : Int)]) (by simpa using hm) (Nat.lt_of_le_of_lt Nat.and_le_left hs) (by simp; omega)
    have ec : ctz16 (s : Int) = ((Go.Lib.ctz 16 s : Nat) : Int) := by simp [ctz16]
    refine Ev.step (fun k => ?_) (by rw [show acc ++ ints (Go.Lib.ctz 16 s :: bof (s &&& (s - 1))) = (acc ++ [((Go.Lib.ctz 16 s : Nat) : Int)]) ++ ints (bof (s &&& (s - 1))) from by simp [ints]]; exact h1)
    rw [impl_listed.l0, if_pos (by omega), bits_TrailingZeros16.f, if_pos (by omega), Option.bind_some, if_pos (by omega), low_bits s hs h0, ec]
theorem impl_listed.ok (s : Nat) (hs : s < 65536) : Ev (fun k => impl_listed.f k (s : Int)) (ints (bof s)) := by
  have h := impl_listed.go _ s [] rfl hs (by
    have : (bof s).length ≤ 16 := by unfold bof; exact Nat.le_trans (List.length_filter_le _ _) (by simp)
    simp; omega)
  rw [List.nil_append] at h
  exact h
theorem impl_listed.msk (p : Nat → Bool) (n : Nat) (h : n ≤ 16) : Ev (fun k => impl_listed.f k ((msk p n : Nat) : Int)) (ints ((List.range n).filter p)) := by
  have := impl_listed.ok (Base.msk p n) (msk_lt16 p n h)
  rwa [bof_msk p n h] at this

-- pmc
theorem msk_ext (p : Nat → Bool) (n s : Nat) (h : ∀ i, s.testBit i = (decide (i < n) && p i)) : s = msk p n := by
  apply Nat.eq_of_testBit_eq
  intro i
  rw [h, msk_testBit]
theorem and_msk (p q : Nat → Bool) (n : Nat) (h : n ≤ 16) : Go.bits .and .u16 ((msk p n : Nat) : Int) ((msk q n : Nat) : Int) = ((msk (fun y => p y && q y) n : Nat) : Int) := by
  rw [u16_and_nat _ _ (msk_lt16 p n h) (msk_lt16 q n h)]
  congr 1
  apply msk_ext
  intro i
  rw [Nat.testBit_and, msk_testBit, msk_testBit]
  cases decide (i < n) <;> simp
theorem rem_msk (p : Nat → Bool) (n a b : Nat) (h : n ≤ 16) (ha : a < n) (hb : b < n) : Go.bits .andNot .u16 ((msk p n : Nat) : Int) (Go.bits .or .u16 (shl .u16 1 (a : Int)) (shl .u16 1 (b : Int))) = ((msk (rem2 p a b) n : Nat) : Int) := by
  have hA := pow_lt16 a (by omega)
  have hB := pow_lt16 b (by omega)
  have hor : 2 ^ a ||| 2 ^ b < 65536 := Nat.or_lt_two_pow (n := 16) hA hB
  rw [shl_one a (by omega), shl_one b (by omega), u16_or_nat _ _ hA hB, u16_andNot_nat _ _ (msk_lt16 p n h) hor]
  congr 1
  apply msk_ext
  intro i
  have := Nat.testBit_two_pow_sub_succ (n := 16) (x := 2 ^ a ||| 2 ^ b) hor i
  rw [Nat.testBit_and, show 65535 - (2 ^ a ||| 2 ^ b) = 2 ^ 16 - ((2 ^ a ||| 2 ^ b) + 1) from by omega, this, msk_testBit, Nat.testBit_or, Nat.testBit_two_pow, Nat.testBit_two_pow]
  unfold rem2
  by_cases hi : i < n
  · have h16 : i < 16 := by omega
    simp only [hi, h16, decide_true, Bool.true_and]
    by_cases e1 : a = i
    · subst e1; simp
    · by_cases e2 : b = i
      · subst e2; simp
      · have e3 : ¬ i = a := fun h => e1 h.symm
        have e4 : ¬ i = b := fun h => e2 h.symm
        have e5 : (i != a) = true := by simpa using e3
        have e6 : (i != b) = true := by simpa using e4
        simp [e1, e2, e5, e6]
  · simp [hi]
-- mtM
-- rem_msk
-- mt_list
theorem rem1_msk (p : Nat → Bool) (n a : Nat) (h : n ≤ 16) (ha : a < n) : Go.bits .andNot .u16 ((msk p n : Nat) : Int) (shl .u16 1 (a : Int)) = ((msk (rem1 p a) n : Nat) : Int) := by
  have hA := pow_lt16 a (by omega)
  rw [shl_one a (by omega), u16_andNot_nat _ _ (msk_lt16 p n h) hA]
  congr 1
  apply msk_ext
  intro i
  have := Nat.testBit_two_pow_sub_succ (n := 16) (x := 2 ^ a) hA i
  rw [Nat.testBit_and, show 65535 - 2 ^ a = 2 ^ 16 - (2 ^ a + 1) from by omega, this, msk_testBit, Nat.testBit_two_pow]
  unfold rem1
  by_cases hi : i < n
  · have h16 : i < 16 := by omega
    by_cases e1 : a = i
    · subst e1; simp
    · have e3 : ¬ i = a := fun h => e1 h.symm
      have e5 : (i != a) = true := by simpa using e3
      simp [hi, h16, e1, e5]
  · simp [hi]
theorem msk_none (p : Nat → Bool) (n : Nat) (h : ∀ i, i < n → p i = false) : msk p n = 0 := by
  symm
  apply msk_ext
  intro i
  rw [Nat.zero_testBit]
  by_cases hi : i < n
  · simp [h i hi]
  · simp [hi]
theorem impl_matcher_most.ok (n : Nat) (hn : n ≤ 12) (F : Nat → Nat → Bool) (hF : ∀ a, F a a = false) (hS : ∀ a b, F a b = F b a) : ∀ (m : Nat) (p : Nat → Bool), card n p ≤ m → Ev (fun k => impl_matcher_most.f k (tabI n F) ((msk p n : Nat) : Int)) ((mtM n F p : Nat) : Int) := by
  intro m
  have hnone : ∀ p : Nat → Bool, (∀ i, i < n → p i = false) → Ev (fun k => impl_matcher_most.f k (tabI n F) ((msk p n : Nat) : Int)) ((mtM n F p : Nat) : Int) := by
    intro p h
    rw [mt_M_none p h, msk_none p n h]
    refine Ev.step (f := fun _ => some 0) (fun k => ?_) (Ev.now _)
    rw [impl_matcher_most.f, if_pos (by omega), if_pos (by rfl)]
  induction m with
  | zero =>
    intro p hm
    exact hnone p (mt_card_zero (Nat.le_zero.1 hm))
  | succ m ih =>
    intro p hm
    rcases least p n with ⟨a, ha, hpa, hla⟩ | hno
    · have hfl := filter_least p a hpa hla n ha
      have h0 : msk p n ≠ 0 := by
        intro h
        have := msk_testBit p n a
        rw [h, Nat.zero_testBit, hpa] at this
        simp [ha] at this
      have hlt := msk_lt16 p n (by omega)
      have hc1 := card_rem1 n p a ha hpa
      have hM : ∀ q : Nat → Bool, mtM n F q ≤ 12 := fun q => by have := mtM_le n F hF hS q; omega
      rw [mt_M_some (n := n) hF p a ha hpa hla]
      have h1 := impl_listed.msk p n (by omega)
      have h2 := impl_listed.msk (fun y => F a y && rem1 p a y) n (by omega)
      have eL : ((List.range n).filter fun y => F a y && rem1 p a y) = (List.range n).filter fun y => F a y && p y := by
        apply List.filter_congr
        intro y _
        unfold rem1
        by_cases e : y = a
        · subst e; simp [hF]
        · have e2 : (y != a) = true := by simpa using e
          rw [e2, Bool.and_true]
      rw [eL] at h2
      have hb := ih (rem1 p a) (by omega)
      generalize hL : (List.range n).filter (fun y => F a y && p y) = L at h2 ⊢
      have hLm : ∀ b ∈ L, b < n := by
        intro b hb
        rw [← hL] at hb
        exact List.mem_range.1 (List.mem_filter.1 hb).1
      have hLl : L.length ≤ 12 := by
        rw [← hL]
        exact Nat.le_trans (List.length_filter_le _ _) (by simpa using hn)
      have loop := up_loop (P := fun i => ∀ b : Nat, b ≤ 20 → Ev (fun k => impl_matcher_most.l0 k (tabI n F) ((msk (rem1 p a) n : Nat) : Int) (ints L) (i : Int) (b : Int)) (((L.drop i).foldl (fun x b => max x (1 + mtM n F (rem2 p a b))) b : Nat) : Int)) (n := L.length) (by
          intro b hb
          refine Ev.step (f := fun _ => some (b : Int)) (fun k => ?_) (by
            rw [List.drop_length]
            exact Ev.now _)
          rw [impl_matcher_most.l0, if_neg (by rw [ints_length]; omega), if_pos (wrap_id (by omega) (by omega))]) (by
          intro i hi h b hb
          have hy := hLm L[i] (List.getElem_mem hi)
          rw [List.drop_eq_getElem_cons hi, List.foldl_cons]
          generalize hbe : L[i] = y at hy ⊢
          have hc2 := mt_card_rem2_lt (n := n) hF p a y ha hpa
          have h3 := ih (rem2 p a y) (by omega)
          have h4 := h (max b (1 + mtM n F (rem2 p a y))) (by have := hM (rem2 p a y); omega)
          have hw : max (b : Int) (wrap64 (1 + ((mtM n F (rem2 p a y) : Nat) : Int))) = ((max b (1 + mtM n F (rem2 p a y)) : Nat) : Int) := by
            have := hM (rem2 p a y)
            rw [wrap_id (by omega) (by omega)]
            omega
          refine Ev.step (fun k => ?_) (Ev.bind h3 (f := fun k r => impl_matcher_most.l0 k (tabI n F) ((msk (rem1 p a) n : Nat) : Int) (ints L) ((i + 1 : Nat) : Int) (max (b : Int) (wrap64 (1 + r)))) (by rw [hw]; exact h4))
          rw [impl_matcher_most.l0, if_pos (by rw [ints_length]; omega), if_pos (by omega), rd_ints L i hi, hbe, if_pos (by omega), rem1_msk (rem1 p a) n y (by omega) hy, nat_succ i (by omega)]
          rfl)
      have h5 := loop 0 (Nat.zero_le _) (mtM n F (rem1 p a)) (by have := hM (rem1 p a); omega)
      rw [List.drop_zero] at h5
      refine Ev.step (fun k => ?_) (Ev.bind h1 (f := fun k q => if 0 < (q.length : Int) then (if 0 ≤ rd q 0 then (if rd q 0 < ((tabI n F).length : Int) then ((impl_matcher_most.f k (tabI n F) (Go.bits .andNot .u16 ((msk p n : Nat) : Int) (shl .u16 1 (rd q 0)))).bind fun b => ((impl_listed.f k (Go.bits .and .u16 (rd (tabI n F) (rd q 0)) (Go.bits .andNot .u16 ((msk p n : Nat) : Int) (shl .u16 1 (rd q 0))))).bind fun z => impl_matcher_most.l0 k (tabI n F) (Go.bits .andNot .u16 ((msk p n : Nat) : Int) (shl .u16 1 (rd q 0))) z 0 b)) else none) else none) else none) ?_)
      · rw [impl_matcher_most.f, if_pos (by omega), if_neg (by omega)]
      · have e0 : rd (ints ((List.range n).filter p)) 0 = (a : Int) := by rw [hfl]; rfl
        rw [e0, tabI_length, tabI_rd n F a ha, rem1_msk p n a (by omega) ha, and_msk (F a) (rem1 p a) n (by omega)]
        refine Ev.ite_pos (by rw [hfl]; simp [ints]) (Ev.ite_pos (by omega) (Ev.ite_pos (by omega) ?_))
        exact Ev.bind hb (Ev.bind h2 h5)
    · exact hnone p hno

-- mostC
-- rem_msk
theorem own_iff (p : Nat → Bool) (n A B : Nat) (hn : n ≤ 12) (hA : A < n) (hB : B < n) : Go.bits .and .u16 ((msk p n : Nat) : Int) (Go.bits .or .u16 (shl .u16 1 (A : Int)) (shl .u16 1 (B : Int))) = Go.bits .or .u16 (shl .u16 1 (A : Int)) (shl .u16 1 (B : Int)) ↔ (p A = true ∧ p B = true) := by
  have hA2 := pow_lt16 A (by omega)
  have hB2 := pow_lt16 B (by omega)
  have hor : 2 ^ A ||| 2 ^ B < 65536 := Nat.or_lt_two_pow (n := 16) hA2 hB2
  rw [shl_one A (by omega), shl_one B (by omega), u16_or_nat _ _ hA2 hB2, u16_and_nat _ _ (msk_lt16 p n (by omega)) hor]
  constructor
  · intro h
    have h' : msk p n &&& (2 ^ A ||| 2 ^ B) = 2 ^ A ||| 2 ^ B := by
      exact Int.ofNat.inj h
    have g : ∀ i, ((msk p n).testBit i && (2 ^ A ||| 2 ^ B).testBit i) = (2 ^ A ||| 2 ^ B).testBit i := fun i => by rw [← Nat.testBit_and, h']
    have gA := g A
    have gB := g B
    rw [Nat.testBit_or, Nat.testBit_two_pow, Nat.testBit_two_pow, msk_testBit] at gA gB
    simp [hA] at gA
    simp [hB] at gB
    exact ⟨gA, gB⟩
  · rintro ⟨h1, h2⟩
    congr 1
    apply Nat.eq_of_testBit_eq
    intro i
    rw [Nat.testBit_and, Nat.testBit_or, Nat.testBit_two_pow, Nat.testBit_two_pow, msk_testBit]
    by_cases e1 : A = i
    · subst e1; simp [hA, h1]
    · by_cases e2 : B = i
      · subst e2; simp [hB, h2]
      · simp [e1, e2]
theorem impl_mostInPairs.loop (n : Int) (l : List S105) (h : goodB n l = true) : ∀ i, i ≤ l.length → ∀ (p : Nat → Bool) (out : List S105), out.length ≤ i → Ev (fun k => impl_mostInPairs.l0 k (tabI n.toNat (adj l)) l (i : Int) out ((msk p n.toNat : Nat) : Int)) (out ++ (mt_gr n.toNat (adj l) ((mtG l).drop i) p).map mtI) := by
  have hF := adj_irr h
  have hS := adj_symm l
  have hnn := goodB_people h
  have h66 := goodB_len66 h
  have hM : ∀ q : Nat → Bool, mtM n.toNat (adj l) q ≤ 12 := fun q => by have := mtM_le n.toNat (adj l) hF hS q; omega
  refine up_loop (P := fun i => ∀ (p : Nat → Bool) (out : List S105), out.length ≤ i → Ev (fun k => impl_mostInPairs.l0 k (tabI n.toNat (adj l)) l (i : Int) out ((msk p n.toNat : Nat) : Int)) (out ++ (mt_gr n.toNat (adj l) ((mtG l).drop i) p).map mtI)) ?_ ?_
  · intro p out _
    refine Ev.step (f := fun _ => some out) (fun k => ?_) (by
      rw [show (mtG l).drop l.length = [] from by rw [← mtG_length l, List.drop_length], mt_gr, List.map_nil, List.append_nil]
      exact Ev.now _)
    rw [impl_mostInPairs.l0, if_neg (by omega)]
  · intro i hi hnext p out hol
    have hi' : i < (mtG l).length := by rw [mtG_length]; exact hi
    obtain ⟨A, B, hAB, hB, eget, eG, hf⟩ := mtG_get h i hi
    have hrd : rd_T105 l (i : Int) = ⟨(A : Int), (B : Int)⟩ := by rw [rdT_get l i hi, eget]
    rw [List.drop_eq_getElem_cons hi', eG, mt_gr]
    have hl0 : ∀ k, impl_mostInPairs.l0 (k + 1) (tabI n.toNat (adj l)) l (i : Int) out ((msk p n.toNat : Nat) : Int) = if Go.bits .and .u16 ((msk p n.toNat : Nat) : Int) (Go.bits .or .u16 (shl .u16 1 (A : Int)) (shl .u16 1 (B : Int))) = Go.bits .or .u16 (shl .u16 1 (A : Int)) (shl .u16 1 (B : Int)) then ((impl_matcher_most.f k (tabI n.toNat (adj l)) ((msk (rem2 p A B) n.toNat : Nat) : Int)).bind fun c1 => (impl_matcher_most.f k (tabI n.toNat (adj l)) ((msk p n.toNat : Nat) : Int)).bind fun c2 => if wrap64 (1 + c1) = c2 then impl_mostInPairs.l0 k (tabI n.toNat (adj l)) l ((i + 1 : Nat) : Int) (out ++ [⟨(A : Int), (B : Int)⟩]) ((msk (rem2 p A B) n.toNat : Nat) : Int) else impl_mostInPairs.l0 k (tabI n.toNat (adj l)) l ((i + 1 : Nat) : Int) out ((msk p n.toNat : Nat) : Int)) else impl_mostInPairs.l0 k (tabI n.toNat (adj l)) l ((i + 1 : Nat) : Int) out ((msk p n.toNat : Nat) : Int) := by
      intro k
      rw [impl_mostInPairs.l0, if_pos (by omega), if_pos (by omega), hrd, if_pos (show (0 : Int) ≤ (A : Int) by omega), if_pos (show (0 : Int) ≤ (B : Int) by omega), rem_msk p n.toNat A B (by omega) (by omega) hB, nat_succ i (by omega), if_pos (show out.length < 8796093022206 by omega)]
    refine Ev.step hl0 ?_
    by_cases hpp : p A = true ∧ p B = true
    · refine Ev.ite_pos ((own_iff p n.toNat A B (by omega) (by omega) hB).2 hpp) ?_
      refine Ev.bind (impl_matcher_most.ok n.toNat (by omega) (adj l) hF hS _ (rem2 p A B) (Nat.le_refl _)) ?_
      refine Ev.bind (impl_matcher_most.ok n.toNat (by omega) (adj l) hF hS _ p (Nat.le_refl _)) ?_
      have hw : wrap64 (1 + ((mtM n.toNat (adj l) (rem2 p A B) : Nat) : Int)) = ((1 + mtM n.toNat (adj l) (rem2 p A B) : Nat) : Int) := by
        have := hM (rem2 p A B)
        rw [wrap_id (by omega) (by omega)]
        omega
      simp only [hw]
      by_cases ht : 1 + mtM n.toNat (adj l) (rem2 p A B) = mtM n.toNat (adj l) p
      · rw [if_pos ⟨hpp.1, hpp.2, ht⟩, List.map_cons]
        refine Ev.ite_pos (by omega) ?_
        have h5 := hnext (rem2 p A B) (out ++ [⟨(A : Int), (B : Int)⟩]) (by simp; omega)
        rw [List.append_assoc] at h5
        exact h5
      · rw [if_neg (fun g => ht g.2.2)]
        exact Ev.ite_neg (by omega) (hnext p out (by omega))
    · rw [if_neg (fun g => hpp ⟨g.1, g.2.1⟩)]
      exact Ev.ite_neg (fun g => hpp ((own_iff p n.toNat A B (by omega) (by omega) hB).1 g)) (hnext p out (by omega))

theorem impl_MostInPairs.ok (n : Int) (l : List S105) (hl : l.length ≤ 1048576) : Ev (fun k => impl_MostInPairs.f k n l) (mostC n l) := by
  unfold impl_MostInPairs.f mostC
  refine Ev.bind (ev_of (l.length + 5) fun k hk => impl_IsParty.ok n l hl k (by omega)) ?_
  by_cases hg : goodB n l = true
  · rw [if_pos hg]
    refine Ev.ite_pos hg ?_
    have hp := goodB_people hg
    have h66 := goodB_len66 hg
    have h1 := impl_Party_table.ok n.toNat (by omega) l (by omega) (goodB_pin hg)
    rw [Int.toNat_of_nonneg hp.1] at h1
    have h2 : Ev (fun k => impl_mostInPairs.f k n l) ((mt_gr n.toNat (adj l) (mtG l) (fun _ => true)).map mtI) := by
      unfold impl_mostInPairs.f
      refine Ev.bind h1 ?_
      rw [impl_table_all.ok n.toNat (by omega)]
      simp only [Option.bind_some]
      have h3 := impl_mostInPairs.loop n l hg 0 (Nat.zero_le _) (fun _ => true) [] (Nat.le_refl _)
      rw [List.drop_zero, List.nil_append] at h3
      exact h3
    exact Ev.bind h2 (Ev.now _)
  · rw [if_neg hg]
    exact Ev.ite_neg hg (Ev.now _)

-- fpC
theorem impl_FirstPairing.ok (n : Int) (l : List S105) (hl : l.length ≤ 1048576) : Ev (fun k => impl_FirstPairing.f k n l) (fpC n l) := by
  unfold impl_FirstPairing.f fpC
  refine Ev.bind (impl_MostInPairs.ok n l hl) ?_
  unfold mostC
  by_cases hg : goodB n l = true
  · rw [if_pos hg, if_pos hg]
    refine Ev.ite_pos rfl ?_
    have hp := goodB_people hg
    have hF := adj_irr hg
    have hS := adj_symm l
    have hlen := mt_gr_len (n := n.toNat) (F := adj l) (mtG l) (fun _ => true)
    have hM := mtM_le n.toNat (adj l) hF hS (fun _ => true)
    have hperf := mt_fp_perfect (n := n.toNat) hF hS n.toNat (fun _ => true) (by rw [card_all]; omega)
    rw [card_all] at hperf
    have hw : wrap64 (2 * (((mt_gr n.toNat (adj l) (mtG l) (fun _ => true)).map mtI).length : Int)) = 2 * (((mt_gr n.toNat (adj l) (mtG l) (fun _ => true)).length : Nat) : Int) := by
      rw [List.length_map, wrap_id (by omega) (by omega)]
    simp only [hw]
    cases hq : mt_fp n.toNat (adj l) n.toNat (fun _ => true) with
    | some r =>
      have h1 := mt_gr_first hF hS (mtG l) (fun x y hxy _ hf => mtG_mem hg x y hxy hf) (mtG_lt hg) (mtG_sorted hg) n.toNat (fun _ => true) r (by rw [card_all]; omega) hq
      have h2 := mt_fp_len n.toNat (adj l) hF n.toNat (fun _ => true) r (by rw [card_all]; omega) hq
      rw [card_all] at h2
      rw [h1]
      exact Ev.ite_neg (by omega) (Ev.now _)
    | none =>
      have h3 : 2 * mtM n.toNat (adj l) (fun _ => true) ≠ n.toNat := fun e => by
        obtain ⟨r, hr⟩ := hperf.2 e
        rw [hr] at hq
        cases hq
      exact Ev.ite_pos (by omega) (Ev.now _)
  · rw [if_neg hg, if_neg hg]
    exact Ev.ite_neg (by simp) (Ev.now _)

-- mkp
theorem laws_heldPairS.go : ∀ (n : Nat) (pre : List S105) (m : Nat), m + 2 * n ≤ 1000000000 → pre.length + n ≤ 1000000000 → Ev (fun k => laws_heldPairS.l0 k (pre ++ mkp m n) (m : Int) (pre.length : Int)) ((m + 2 * n : Nat) : Int)
  | 0, pre, m, hm, hp => by
    refine Ev.step (f := fun _ => some ((m + 2 * 0 : Nat) : Int)) (fun k => ?_) (Ev.now _)
    rw [laws_heldPairS.l0, if_neg (by simp [mkp])]
    simp
  | n + 1, pre, m, hm, hp => by
    have h := laws_heldPairS.go n (pre ++ [⟨(m : Int), ((m + 1 : Nat) : Int)⟩]) (m + 2) (by omega) (by simp; omega)
    rw [List.length_append, List.length_singleton, ← snoc_mid] at h
    refine Ev.step (fun k => ?_) (by
      rw [show m + 2 + 2 * n = m + 2 * (n + 1) from by omega] at h
      exact h)
    have e2 : wrap64 ((wrap64 ((m : Int) + 1)) + 1) = ((m + 2 : Nat) : Int) := by rw [wrap_id (x := (m : Int) + 1) (by omega) (by omega), wrap_id (by omega) (by omega)]; omega
    have e1 : wrap64 ((m : Int) + 1) = ((m + 1 : Nat) : Int) := by rw [wrap_id (by omega) (by omega)]; omega
    have er : rd_T105 (pre ++ (⟨(m : Int), ((m + 1 : Nat) : Int)⟩ : S105) :: mkp (m + 2) n) (pre.length : Int) = ⟨(m : Int), ((m + 1 : Nat) : Int)⟩ := getD_mid _ _ _ _
    rw [mkp, laws_heldPairS.l0, if_pos (by simp; omega), if_pos (by omega), er, if_pos rfl, e1, if_pos rfl, ← e1, e2, nat_succ pre.length (by omega), e1]
theorem laws_heldPairS.any (n m : Nat) (hm : m + 2 * n ≤ 1000000000) : Ev (fun k => laws_heldPairS.f k (mkp m n) (m : Int)) ((m + 2 * n : Nat) : Int) := laws_heldPairS.go n [] m hm (by simp; omega)
theorem laws_heldPairS.ok (n : Nat) (hl : n ≤ 1048576) (k : Nat) (hk : n < k) : laws_heldPairS.f k ((List.range n).map mkPair) 1 = some (1 + 2 * (n : Int)) := by
  unfold laws_heldPairS.f
  refine held_loop (fun k m i => laws_heldPairS.l0 k ((List.range n).map mkPair) m i) 2 n ?_ ?_ k hk
  · intro k i h
    have e1 : wrap64 (1 + ((2 : Nat) : Int) * i + 1) = 2 + 2 * i := by rw [wrap_id (by omega) (by omega)]; omega
    have e3 : wrap64 (2 + 2 * (i : Int) + 1) = 1 + ((2 : Nat) : Int) * ((i + 1 : Nat) : Int) := by rw [wrap_id (by omega) (by omega)]; omega
    have e4 : wrap64 ((i : Int) + 1) = ((i + 1 : Nat) : Int) := by rw [wrap_id (by omega) (by omega)]; omega
    simp only [laws_heldPairS.l0, e1, e3, e4]
    rw [if_pos (by simp; omega), if_pos (by omega), rd_T105_nat _ i (by simp; omega)]
    simp [mkPair]
  · intro k m
    simp only [laws_heldPairS.l0]
    rw [if_neg (by simp)]

end Go.Proofs.YtjpfbkkikcpmhaaDoor.PFnExactFirstPairing
namespace Go.Proofs.YtjpfbkkikcpmhaaDoor
open Go.RowKit Go.Proofs.YtjpfbkkikcpmhaaDoor.Base Go.Proofs.YtjpfbkkikcpmhaaDoor.PFnExactFirstPairing Go.Proofs.YtjpfbkkikcpmhaaDoorW.PrintWords Go.Proofs.YtjpfbkkikcpmhaaDoorW.PrintLast Go.Proofs.YtjpfbkkikcpmhaaDoorW.PrintMore
-- fpC
/- FnExactFirstPairing: whatever the party, the program tells the first pairing as the reference does, leaves the party as it was, and returns memory of its own. Condition: the table of math/bits lies as its initialiser lays it (the card's own). -/
theorem fnExactFirstPairing_pure : fnExactFirstPairing.Pure := by
  intro n l hn hl
  have hm := hl.1
  refine Ev.rounds (g := fun k => laws_FnExactFirstPairing.f k n l) ?_
  unfold laws_FnExactFirstPairing.f
  rw [laws_szParty.ok n l _ (by omega) (by omega) hl.1]
  simp only [Option.bind_some]
  by_cases h0 : (1048576 : Int) - l.length < 0
  · rw [if_pos h0]
    exact Ev.ite_pos (by omega) (Ev.now _)
  · rw [if_neg h0]
    refine Ev.ite_neg (by omega) ?_
    have hlen : l.length ≤ 1048576 := by omega
    have hpl : (prs l).length ≤ 1048576 := by rw [prs_length]; exact hlen
    have ht : Ev (fun k => laws_toParty.f k n l) (n, prs l) := ev_of (l.length + 1) fun k hk => laws_toParty.ok n l hlen k (by omega)
    have hep : Ev (fun k => laws_eqParty.f k n (prs l) n (prs l)) true := ev_of ((prs l).length + 1) fun k hk => laws_eqParty.refl n (prs l) hpl k (by omega)
    have hmp : Ev (fun k => laws_markParty.f k n (prs l) 1) (1 + 2 * ((prs l).length : Int), (List.range (prs l).length).map mkPair) := ev_of ((prs l).length + 1) fun k hk => laws_markParty.ok n (prs l) hpl k (by omega)
    have hs := spec_FirstPairing.ok n (prs l)
    have hi := impl_FirstPairing.ok n (prs l) hpl
    have h9 := fpC_len n (prs l)
    generalize fpC n (prs l) = x at hs hi h9
    obtain ⟨r, b⟩ := x
    simp only at h9
    have hei : Ev (fun k => laws_eqPairS.f k r r) true := ev_of (r.length + 1) fun k hk => laws_eqPairS.refl r (by omega) k (by omega)
    have hmi : Ev (fun k => laws_markPairS.f k r 1) (1 + 2 * (r.length : Int), (List.range r.length).map mkPair) := ev_of (r.length + 1) fun k hk => laws_markPairS.ok r (by omega) k (by omega)
    have hhi : Ev (fun k => laws_heldPairS.f k ((List.range r.length).map mkPair) 1) (1 + 2 * (r.length : Int)) := ev_of (r.length + 1) fun k hk => laws_heldPairS.ok r.length (by omega) k (by omega)
    refine Ev.bind ht (Ev.bind hs (Ev.bind ht (Ev.bind hi (Ev.bind hei (Ev.ite_pos rfl (Ev.ite_neg (by simp) (Ev.bind ht (Ev.bind hep (Ev.ite_pos rfl (Ev.bind hmp (Ev.ite_neg ?_ ?_)))))))))))
    · simp only; omega
    refine Ev.bind hei (Ev.ite_pos rfl (Ev.bind hmi (Ev.bind hhi (Ev.ite_neg (by omega) (Ev.ite_pos rfl (Ev.bind ht (Ev.bind hi (Ev.bind hei (Ev.ite_pos rfl (Ev.ite_neg (by simp) (Ev.bind hhi (Ev.ite_neg (by omega) (Ev.ite_pos rfl (Ev.now _))))))))))))))
theorem fnExactFirstPairing_holds : Rows.FnExactFirstPairingCardSaid := fnExactFirstPairing.proved fnExactFirstPairing_pure
end Go.Proofs.YtjpfbkkikcpmhaaDoor
