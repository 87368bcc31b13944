/- FnExactCountRows: whatever the party, the program counts the rows of its people as the reference does, and leaves the party as it was. Condition: the table of math/bits lies as its initialiser lays it (the card's own). -/
import Derived.Test.YtjpfbkkikcpmhaaDoorLawFnExactCountRows
import Derived.Test.YtjpfbkkikcpmhaaDoorPBase
import Derived.Test.YtjpfbkkikcpmhaaDoorGraph
namespace Go.Proofs.YtjpfbkkikcpmhaaDoor.PFnExactCountRows
set_option linter.unusedVariables false
set_option linter.unusedSimpArgs false
open Go.RowKit Go.Proofs.YtjpfbkkikcpmhaaDoor.Base Go.Proofs.YtjpfbkkikcpmhaaDoor.PFnExactCountRows Go.Proofs.YtjpfbkkikcpmhaaDoorW.PrintWords Go.Proofs.YtjpfbkkikcpmhaaDoorW.PrintLast Go.Proofs.YtjpfbkkikcpmhaaDoorW.PrintMore
theorem laws_szPairS.ok (l : List S118) (n : Int) (h0 : 0 ≤ n) (h1 : n ≤ 1048576) (hl : l.length ≤ maxLen) : laws_szPairS.f l n = some (if n - l.length < 0 then -1 else n - l.length) := by
  unfold maxLen at hl
  unfold laws_szPairS.f
  rw [wrap_id (by omega) (by omega)]
  split <;> rfl

theorem laws_szParty.ok (p : Int) (l : List S118) (n : Int) (h0 : 0 ≤ n) (h1 : n ≤ 1048576) (hl : l.length ≤ maxLen) : laws_szParty.f p l n = some (if n - l.length < 0 then -1 else n - l.length) := by
  unfold laws_szParty.f
  rw [laws_szPairS.ok l n h0 h1 hl]
  simp only [Option.bind_some]
  by_cases h : n - (l.length : Int) < 0
  · simp [h]
  · simp [h]

theorem rd_T118_nat (l : List S118) (i : Nat) (h : i < l.length) : rd_T118 l (i : Int) = l[i] := by simp [rd_T118, List.getD, h]
def prs (l : List S118) : List S105 := l.map fun x => ⟨x.f0, x.f1⟩
theorem prs_length (l : List S118) : (prs l).length = l.length := by simp [prs]
theorem laws_toPairS.ok (l : List S118) (hl : l.length ≤ 1048576) (k : Nat) (hk : l.length < k) : laws_toPairS.f k l = some (prs l) := by
  unfold laws_toPairS.f
  rw [if_pos (by omega), if_pos (by omega)]
  refine fill_loop (fun k acc i => laws_toPairS.l0 k l acc i) _ l _ (by omega) 0 ?_ ?_ k hk
  · intro k acc i h _ ha
    simp only [laws_toPairS.l0, laws_toPair.f, Option.bind_some]
    rw [if_pos (by omega), if_pos (by omega), if_pos (by omega), rd_T118_nat l i h]
    rfl
  · intro k acc ha
    simp only [laws_toPairS.l0]
    rw [if_neg (by omega)]

theorem laws_toParty.ok (n : Int) (l : List S118) (hl : l.length ≤ 1048576) (k : Nat) (hk : l.length < k) : laws_toParty.f k n l = some (n, prs l) := by
  unfold laws_toParty.f
  rw [laws_toPairS.ok l hl k hk]; rfl

theorem laws_eqPairS.refl (l : List S105) (hl : l.length ≤ 1048576) (k : Nat) (hk : l.length < k) : laws_eqPairS.f k l l = some true := by
  unfold laws_eqPairS.f
  rw [if_pos rfl]
  rw [all_loop (fun k i => laws_eqPairS.l0 k l l i) l.length (fun _ => true) (by omega) 0 ?_ ?_ k hk]
  · simp
  · intro k i h _
    simp only [laws_eqPairS.l0, laws_eqPair.f]
    rw [if_pos (by omega), if_pos (by omega), if_pos (by omega)]
    simp
  · intro k
    simp only [laws_eqPairS.l0]
    rw [if_neg (by omega)]

theorem laws_eqParty.refl (n : Int) (l : List S105) (hl : l.length ≤ 1048576) (k : Nat) (hk : l.length < k) : laws_eqParty.f k n l n l = some true := by
  unfold laws_eqParty.f
  rw [if_pos rfl, laws_eqPairS.refl l hl k hk]; rfl

theorem spec_l1In.ok (n lo hi : Int) : spec_l1In.f n lo hi = some (decide (lo ≤ n ∧ n ≤ hi)) := by
  unfold spec_l1In.f
  by_cases h : lo ≤ n <;> simp [h]

theorem spec_paPeople.ok (n : Int) : spec_paPeople.f n = some (crowd n) := by unfold spec_paPeople.f crowd; simp [spec_l1In.ok]

def lessB (x y : S105) : Bool := decide (x.f0 < y.f0 ∨ x.f0 = y.f0 ∧ x.f1 < y.f1)
theorem spec_paLess.ok (a b c d : Int) : spec_paLess.f a b c d = some (lessB ⟨a, b⟩ ⟨c, d⟩) := by
  unfold spec_paLess.f lessB
  by_cases h : a < c
  · simp [h]
  · by_cases h2 : a = c
    · subst h2; simp
    · simp [h, h2]

theorem rd_T105_nat (l : List S105) (i : Nat) (h : i < l.length) : rd_T105 l (i : Int) = l[i] := by simp [rd_T105, List.getD, h]
-- pairnat
/-- What is asked of pair number i of a party of n people. -/
def stepB (n : Int) (l : List S105) (i : Nat) : Bool := decide (0 ≤ (l.getD i z105).f0 ∧ (l.getD i z105).f0 < (l.getD i z105).f1 ∧ (l.getD i z105).f1 < n) && (i == 0 || lessB (l.getD (i - 1) z105) (l.getD i z105))
/-- n and l are a party. -/
def goodB (n : Int) (l : List S105) : Bool := crowd n && (List.range l.length).all (stepB n l)
theorem goodB_people {n : Int} {l : List S105} (h : goodB n l = true) : 0 ≤ n ∧ n ≤ 12 := by
  unfold goodB crowd at h
  simp only [Bool.and_eq_true, decide_eq_true_eq] at h
  exact h.1
theorem goodB_step {n : Int} {l : List S105} (h : goodB n l = true) (i : Nat) (hi : i < l.length) : (0 ≤ l[i].f0 ∧ l[i].f0 < l[i].f1 ∧ l[i].f1 < n) ∧ (∀ h0 : 0 < i, l[i - 1].f0 < l[i].f0 ∨ l[i - 1].f0 = l[i].f0 ∧ l[i - 1].f1 < l[i].f1) := by
  unfold goodB at h
  simp only [Bool.and_eq_true, List.all_eq_true] at h
  have := h.2 i (List.mem_range.2 hi)
  unfold stepB lessB at this
  simp only [List.getD, List.getElem?_eq_getElem hi, List.getElem?_eq_getElem (show i - 1 < l.length by omega), Option.getD_some, Bool.and_eq_true, Bool.or_eq_true, decide_eq_true_eq, beq_iff_eq] at this
  refine ⟨this.1, fun h0 => ?_⟩
  rcases this.2 with h | h
  · omega
  · exact h
theorem goodB_len {n : Int} {l : List S105} (h : goodB n l = true) : 2 * (l.length : Int) ≤ n * (n - 1) := by
  refine pairs_bound n l.length (fun i => (l.getD i z105).f0) (fun i => (l.getD i z105).f1) ?_ ?_ (goodB_people h).1
  · intro i hi
    simp only [List.getD, List.getElem?_eq_getElem hi, Option.getD_some]
    exact (goodB_step h i hi).1
  · intro i hi
    simp only [List.getD, List.getElem?_eq_getElem hi, List.getElem?_eq_getElem (show i < l.length by omega), Option.getD_some]
    exact (goodB_step h (i + 1) hi).2 (by omega)
theorem goodB_len66 {n : Int} {l : List S105} (h : goodB n l = true) : l.length ≤ 66 := by
  have h1 := goodB_len h
  have h2 := goodB_people h
  obtain ⟨m, rfl⟩ := Int.eq_ofNat_of_zero_le h2.1
  obtain rfl | rfl | rfl | rfl | rfl | rfl | rfl | rfl | rfl | rfl | rfl | rfl | rfl : m = 0 ∨ m = 1 ∨ m = 2 ∨ m = 3 ∨ m = 4 ∨ m = 5 ∨ m = 6 ∨ m = 7 ∨ m = 8 ∨ m = 9 ∨ m = 10 ∨ m = 11 ∨ m = 12 := by omega
  all_goals omega
-- pairnat
theorem stepB_eq (n : Int) (l : List S105) (i : Nat) (hi : i < l.length) : stepB n l i = (decide (0 ≤ l[i].f0 ∧ l[i].f0 < l[i].f1 ∧ l[i].f1 < n) && (i == 0 || lessB l[i - 1] l[i])) := by
  unfold stepB
  simp only [List.getD, List.getElem?_eq_getElem hi, List.getElem?_eq_getElem (show i - 1 < l.length by omega), Option.getD_some]
theorem half (n : Int) (h0 : 0 ≤ n) (h1 : n ≤ 12) : wrap64 (Int.tdiv (wrap64 (n * (wrap64 (n - 1)))) 2) = n * (n - 1) / 2 := by
  obtain ⟨m, rfl⟩ := Int.eq_ofNat_of_zero_le h0
  have : m ≤ 12 := by omega
  obtain rfl | rfl | rfl | rfl | rfl | rfl | rfl | rfl | rfl | rfl | rfl | rfl | rfl : m = 0 ∨ m = 1 ∨ m = 2 ∨ m = 3 ∨ m = 4 ∨ m = 5 ∨ m = 6 ∨ m = 7 ∨ m = 8 ∨ m = 9 ∨ m = 10 ∨ m = 11 ∨ m = 12 := by omega
  all_goals (unfold wrap64; decide)
theorem spec_paGood.ok (n : Int) (l : List S105) (k : Nat) (hk : 70 ≤ k) : spec_paGood.f k n l = some (goodB n l) := by
  obtain ⟨k, rfl⟩ : ∃ m, k = m + 1 := ⟨k - 1, by omega⟩
  unfold spec_paGood.f
  rw [spec_paPeople.ok]
  simp only [Option.bind_some]
  by_cases hn : crowd n = true
  · have hc : 0 ≤ n ∧ n ≤ 12 := by simpa [crowd] using hn
    rw [if_pos hn, half n hc.1 hc.2]
    simp only [spec_paGood.j0]
    by_cases hl : (l.length : Int) > n * (n - 1) / 2
    · rw [if_pos (by simpa using hl)]
      congr 1
      symm
      rw [Bool.eq_false_iff]
      intro h
      have := goodB_len h
      omega
    · rw [if_neg (by simpa using hl)]
      have h66 : l.length ≤ 66 := by
        obtain ⟨m, rfl⟩ := Int.eq_ofNat_of_zero_le hc.1
        have : m ≤ 12 := by omega
        obtain rfl | rfl | rfl | rfl | rfl | rfl | rfl | rfl | rfl | rfl | rfl | rfl | rfl : m = 0 ∨ m = 1 ∨ m = 2 ∨ m = 3 ∨ m = 4 ∨ m = 5 ∨ m = 6 ∨ m = 7 ∨ m = 8 ∨ m = 9 ∨ m = 10 ∨ m = 11 ∨ m = 12 := by omega
        all_goals omega
      rw [all_loop (fun k i => spec_paGood.l0 k l (l.length : Int) i n l) l.length (stepB n l) (by omega) 0 ?_ ?_ k (by omega)]
      · unfold goodB; rw [hn]; rfl
      · intro k i h _
        have e1 : wrap64 (n - 1) = n - 1 := wrap_id (by omega) (by omega)
        simp only [spec_paGood.l0]
        rw [if_pos (by omega), if_pos (by omega), if_pos (by omega), rd_T105_nat l i h, spec_l1In.ok]
        simp only [Option.bind_some, e1]
        rw [stepB_eq n l i h]
        by_cases hA : 0 ≤ l[i].f0 ∧ l[i].f0 ≤ n - 1
        · have e2 : wrap64 (l[i].f0 + 1) = l[i].f0 + 1 := wrap_id (by omega) (by omega)
          rw [if_pos (by simpa using hA), spec_l1In.ok, e2]
          simp only [Option.bind_some]
          by_cases hB : l[i].f0 + 1 ≤ l[i].f1 ∧ l[i].f1 ≤ n - 1
          · rw [if_pos (by simpa using hB), decide_eq_true (show 0 ≤ l[i].f0 ∧ l[i].f0 < l[i].f1 ∧ l[i].f1 < n from ⟨by omega, by omega, by omega⟩)]
            simp only [Bool.true_and]
            rcases Nat.eq_zero_or_pos i with rfl | hi
            · rw [if_neg (by simp)]; simp
            · have e3 : wrap64 ((i : Int) - 1) = ((i - 1 : Nat) : Int) := by rw [wrap_id (by omega) (by omega)]; omega
              rw [if_pos (by omega), e3, if_pos (by omega), if_pos (by omega), rd_T105_nat l (i - 1) (by omega), spec_paLess.ok]
              simp only [Option.bind_some]
              rw [show (i == 0) = false from by simp; omega, Bool.false_or]
          · rw [if_neg (by simpa using hB), decide_eq_false (show ¬ (0 ≤ l[i].f0 ∧ l[i].f0 < l[i].f1 ∧ l[i].f1 < n) from by omega)]; simp
        · rw [if_neg (by simpa using hA), decide_eq_false (show ¬ (0 ≤ l[i].f0 ∧ l[i].f0 < l[i].f1 ∧ l[i].f1 < n) from by omega)]; simp
      · intro k
        simp only [spec_paGood.l0]
        rw [if_neg (by omega)]
  · have hn : crowd n = false := by simpa using hn
    rw [hn, if_neg (by simp)]
    simp [spec_paGood.j0, goodB, hn]

theorem rdL_tabB (n : Nat) (F : Nat → Nat → Bool) (a : Nat) (h : a < n) : rd_L4 (tabB n F) (a : Int) = (List.range n).map (F a) := by
  simp only [rd_L4, Int.toNat_natCast]
  exact tabB_getD n F a h
/-- Two people are friends. -/
def adj (l : List S105) (a b : Nat) : Bool := l.any fun x => decide (x.f0.toNat = a ∧ x.f1.toNat = b ∨ x.f1.toNat = a ∧ x.f0.toNat = b)
theorem adj_symm (l : List S105) (a b : Nat) : adj l a b = adj l b a := by
  unfold adj
  congr 1
  funext x
  rw [decide_eq_decide]
  constructor <;> intro h <;> omega
/-- All pairs are of people below n. -/
def pin (n : Nat) (l : List S105) : Prop := ∀ x ∈ l, 0 ≤ x.f0 ∧ x.f0 < n ∧ 0 ≤ x.f1 ∧ x.f1 < n
-- pairnat
theorem adj_take (l : List S105) (i : Nat) (hi : i < l.length) : adj (l.take (i + 1)) = upd (upd (adj (l.take i)) l[i].f0.toNat l[i].f1.toNat true) l[i].f1.toNat l[i].f0.toNat true := by
  funext x y
  unfold adj upd
  rw [List.take_succ_eq_append_getElem hi, List.any_append]
  simp only [List.any_cons, List.any_nil, Bool.or_false]
  by_cases h1 : x = l[i].f1.toNat ∧ y = l[i].f0.toNat
  · rw [if_pos h1, decide_eq_true (by omega), Bool.or_true]
  · by_cases h2 : x = l[i].f0.toNat ∧ y = l[i].f1.toNat
    · rw [if_neg h1, if_pos h2, decide_eq_true (by omega), Bool.or_true]
    · rw [if_neg h1, if_neg h2, decide_eq_false (by omega), Bool.or_false]
theorem tabB_none (n : Nat) : List.replicate n (List.replicate n false) = tabB n (adj []) := by
  apply List.ext_getElem (by simp [tabB])
  intro i h1 h2
  simp only [List.getElem_replicate, tabB, List.getElem_map]
  apply List.ext_getElem (by simp)
  intro j g1 g2
  simp [adj]
theorem spec_paTable.ok (n : Nat) (hn : n ≤ 12) (l : List S105) (hl : l.length ≤ 1048576) (hp : pin n l) : Ev (fun k => spec_paTable.f k (n : Int) l) (tabB n (adj l)) := by
  have h1 : Ev (fun k => spec_paTable.l1 k (tabB n (adj (l.take 0))) l (l.length : Int) ((0 : Nat) : Int)) (tabB n (adj l)) := by
    refine up_loop (P := fun i => Ev (fun k => spec_paTable.l1 k (tabB n (adj (l.take i))) l (l.length : Int) (i : Int)) (tabB n (adj l))) (n := l.length) ?_ ?_ 0 (Nat.zero_le _)
    · refine Ev.step (f := fun _ => some (tabB n (adj l))) (fun k => ?_) (Ev.now _)
      simp only [spec_paTable.l1]
      rw [if_neg (by omega), List.take_length]
    · intro i hi h
      refine Ev.step (fun k => ?_) h
      obtain ⟨q0, q1, q2, q3⟩ := hp l[i] (List.getElem_mem hi)
      obtain ⟨a, ea⟩ := Int.eq_ofNat_of_zero_le q0
      obtain ⟨b, eb⟩ := Int.eq_ofNat_of_zero_le q2
      have ha : a < n := by omega
      have hb : b < n := by omega
      simp only [spec_paTable.l1, Option.bind_some]
      rw [if_pos (by omega), if_pos (by omega), if_pos (by omega), rd_T105_nat l i hi, ea, eb, rdL_tabB n _ a ha, if_pos (by omega), if_pos (by rw [tabB_length]; omega), if_pos (by omega), if_pos (by simp; omega), if_pos (by rw [tabB_length]; omega)]
      simp only [Int.toNat_natCast]
      rw [tabB_set n _ a b true ha, rdL_tabB n _ b hb, if_pos (by simp; omega), tabB_set n _ b a true hb, nat_succ i (by omega), adj_take l i hi, ea, eb]
      simp only [Int.toNat_natCast]
  unfold spec_paTable.f
  have h0 := up_loop (P := fun i => Ev (fun k => spec_paTable.l0 k (List.replicate i (List.replicate n false)) (i : Int) (n : Int) l) (tabB n (adj l))) (n := n) (by
      refine Ev.step (fun k => ?_) h1
      simp only [spec_paTable.l0]
      rw [if_neg (by omega), tabB_none]
      rfl) (by
      intro i hi h
      refine Ev.step (fun k => ?_) h
      simp only [spec_paTable.l0]
      rw [if_pos (by omega), if_pos (by omega), if_pos (by omega), if_pos (by simp; omega), nat_succ i (by omega), List.replicate_succ']
      rfl) 0 (Nat.zero_le _)
  exact h0

theorem spec_l1Own.ok (l : List Int) (h : l.length < 17592186044416) : spec_l1Own.f l = some l := by
  unfold spec_l1Own.f
  simp only [Option.bind_some, List.nil_append]
  rw [if_pos (by simpa using h)]

def ints (bs : List Nat) : List Int := bs.map fun (b : Nat) => (b : Int)
theorem ints_length (bs : List Nat) : (ints bs).length = bs.length := by simp [ints]
theorem rd_ints (bs : List Nat) (i : Nat) (h : i < bs.length) : rd (ints bs) (i : Int) = ((bs[i] : Nat) : Int) := by simp [rd, ints, List.getD, h]
theorem spec_l1Has.ok (bs : List Nat) (a : Nat) (hl : bs.length ≤ 1000) : Ev (fun k => spec_l1Has.f k (ints bs) (a : Int)) (bs.any fun b => b == a) := by
  unfold spec_l1Has.f
  rw [ints_length]
  refine up_loop (P := fun i => Ev (fun k => spec_l1Has.l0 k (a : Int) (ints bs) (bs.length : Int) (i : Int)) ((bs.drop i).any fun b => b == a)) (n := bs.length) ?_ ?_ 0 (Nat.zero_le _)
  · refine Ev.step (f := fun _ => some false) (fun k => ?_) (by rw [List.drop_length]; exact Ev.now _)
    simp only [spec_l1Has.l0]
    rw [if_neg (by omega)]
  · intro i hi h
    rw [List.drop_eq_getElem_cons hi, List.any_cons]
    by_cases e : bs[i] = a
    · rw [show (bs[i] == a) = true from by simpa using e, Bool.true_or]
      refine Ev.step (f := fun _ => some true) (fun k => ?_) (Ev.now _)
      simp only [spec_l1Has.l0]
      rw [if_pos (by omega), if_pos (by omega), if_pos (by rw [ints_length]; omega), rd_ints bs i hi, if_pos (by omega)]
    · rw [show (bs[i] == a) = false from by simpa using e, Bool.false_or]
      refine Ev.step (fun k => ?_) h
      simp only [spec_l1Has.l0]
      rw [if_pos (by omega), if_pos (by omega), if_pos (by rw [ints_length]; omega), rd_ints bs i hi, if_neg (by omega), nat_succ i (by omega)]
theorem spec_l1Has.okI (l : List Int) (a : Int) (hl : l.length ≤ 1048576) : Ev (fun k => spec_l1Has.f k l a) (decide (a ∈ l)) := by
  unfold spec_l1Has.f
  refine up_loop (P := fun i => Ev (fun k => spec_l1Has.l0 k a l (l.length : Int) (i : Int)) (decide (a ∈ l.drop i))) (n := l.length) ?_ ?_ 0 (Nat.zero_le _)
  · refine Ev.step (f := fun _ => some false) (fun k => ?_) (by rw [List.drop_length]; exact Ev.now _)
    rw [spec_l1Has.l0, if_neg (by omega)]
  · intro i hi h
    have er : rd l (i : Int) = l[i] := by simp [rd, List.getD, hi]
    rw [List.drop_eq_getElem_cons hi]
    by_cases e : l[i] = a
    · rw [decide_eq_true (by rw [e]; exact List.mem_cons_self)]
      refine Ev.step (f := fun _ => some true) (fun k => ?_) (Ev.now _)
      rw [spec_l1Has.l0, if_pos (by omega), if_pos (by omega), if_pos (by omega), er, if_pos e]
    · have e2 : decide (a ∈ l[i] :: l.drop (i + 1)) = decide (a ∈ l.drop (i + 1)) := by
        have : ¬ a = l[i] := fun h => e h.symm
        simp only [List.mem_cons, this, false_or]
      rw [e2]
      refine Ev.step (fun k => ?_) h
      rw [spec_l1Has.l0, if_pos (by omega), if_pos (by omega), if_pos (by omega), er, if_neg e, nat_succ i (by omega)]

section
variable (F : Nat → Nat → Bool) (n : Nat)
/-- Who may sit behind a row. -/
def rwC (p : List Nat) : List Nat := (List.range n).filter fun a => F (p.getLast?.getD 0) a && !p.contains a
/-- The rows of k + 1 people. -/
def rwR : Nat → List (List Nat)
  | 0 => (List.range n).map fun a => [a]
  | k + 1 => (rwR k).flatMap fun p => (rwC F n p).map fun a => p ++ [a]
/-- How many rows of m people more go on with one. -/
def rwD : Nat → List Nat → Nat
  | 0, _ => 1
  | m + 1, p => ((rwC F n p).map fun a => rwD m (p ++ [a])).sum
theorem sum_flatMap {α β : Type} (f : α → List β) (g : β → Nat) : ∀ l : List α, ((l.flatMap f).map g).sum = (l.map fun x => ((f x).map g).sum).sum
  | [] => rfl
  | x :: l => by rw [List.flatMap_cons, List.map_append, List.sum_append, sum_flatMap f g l, List.map_cons, List.sum_cons]
theorem rwD_step (k m : Nat) : ((rwR F n k).map (rwD F n (m + 1))).sum = ((rwR F n (k + 1)).map (rwD F n m)).sum := by
  rw [rwR, sum_flatMap]
  congr 1
  apply List.map_congr_left
  intro p _
  rw [rwD, List.map_map]
  rfl
theorem rwD_all : ∀ m k, ((rwR F n k).map (rwD F n m)).sum = (rwR F n (k + m)).length
  | 0, k => by
    have : (rwR F n k).map (rwD F n 0) = (rwR F n k).map fun _ => 1 := List.map_congr_left (fun _ _ => rfl)
    rw [this, Nat.add_zero]
    generalize rwR F n k = l
    induction l with
    | nil => rfl
    | cons x l ih => simp [ih]; omega
  | m + 1, k => by rw [rwD_step, rwD_all m (k + 1)]; congr 2; omega
/-- The people of a row, as bits. -/
def rwS (p : List Nat) : Nat := p.foldr (fun a s => 2 ^ a ||| s) 0
theorem rwS_bit (p : List Nat) (i : Nat) : (rwS p).testBit i = decide (i ∈ p) := by
  induction p with
  | nil => simp [rwS]
  | cons a p ih =>
    show (2 ^ a ||| rwS p).testBit i = _
    rw [Nat.testBit_or, ih, Nat.testBit_two_pow]
    by_cases h : a = i
    · subst h; simp
    · have : ¬ i = a := fun e => h e.symm
      simp [h, this]
theorem rwS_snoc (p : List Nat) (a : Nat) : rwS (p ++ [a]) = rwS p ||| 2 ^ a := by
  apply Nat.eq_of_testBit_eq
  intro i
  rw [rwS_bit, Nat.testBit_or, rwS_bit, Nat.testBit_two_pow]
  by_cases h : a = i
  · subst h; simp
  · have : ¬ i = a := fun e => h e.symm
    simp [h, this]
/-- Of a row of k + 1 people. -/
theorem rwR_mem : ∀ k p, p ∈ rwR F n k → p.length = k + 1 ∧ p.Nodup ∧ ∀ b ∈ p, b < n
  | 0, p, h => by
    obtain ⟨a, ha, rfl⟩ := List.mem_map.1 h
    have := List.mem_range.1 ha
    simp [this]
  | k + 1, p, h => by
    rw [rwR] at h
    obtain ⟨q, hq, h⟩ := List.mem_flatMap.1 h
    obtain ⟨a, ha, rfl⟩ := List.mem_map.1 h
    obtain ⟨h1, h2, h3⟩ := rwR_mem k q hq
    unfold rwC at ha
    rw [List.mem_filter] at ha
    have hr := List.mem_range.1 ha.1
    have hc : a ∉ q := by
      intro hx
      have := ha.2
      simp [hx] at this
    refine ⟨by simp [h1], ?_, ?_⟩
    · rw [List.nodup_append]
      refine ⟨h2, by simp, ?_⟩
      intro x hx y hy
      obtain rfl := List.mem_singleton.1 hy
      rintro rfl
      exact hc hx
    · intro b hb
      rcases List.mem_append.1 hb with hb | hb
      · exact h3 b hb
      · obtain rfl := List.mem_singleton.1 hb
        exact hr
/-- How many rows of k + 1 people sit in a set and end with one. -/
def rwN (k s l : Nat) : Nat := ((rwR F n k).filter fun p => decide (rwS p = s) && decide (p.getLast?.getD 0 = l)).length
theorem len_sum {α : Type} (p : α → Bool) : ∀ l : List α, (l.filter p).length = (l.map fun x => if p x = true then 1 else 0).sum
  | [] => rfl
  | x :: l => by
    rw [List.map_cons, List.sum_cons, ← len_sum p l]
    cases h : p x with
    | true => rw [List.filter_cons_of_pos h, List.length_cons, if_pos rfl, Nat.add_comm]
    | false => rw [List.filter_cons_of_neg (by simp [h]), if_neg (by simp), Nat.zero_add]
theorem sum_if (a c : Nat) : ∀ n : Nat, ((List.range n).map fun b => if b = a then c else 0).sum = if a < n then c else 0
  | 0 => by simp
  | n + 1 => by
    rw [List.range_succ, List.map_append, List.sum_append, sum_if a c n]
    simp only [List.map_cons, List.map_nil, List.sum_cons, List.sum_nil, Nat.add_zero]
    split <;> split <;> split <;> omega
theorem sum_zero {α : Type} : ∀ l : List α, (l.map fun _ => 0).sum = 0
  | [] => rfl
  | x :: l => by rw [List.map_cons, List.sum_cons, sum_zero l]
theorem sum_add {α : Type} (f g : α → Nat) : ∀ l : List α, (l.map fun x => f x + g x).sum = (l.map f).sum + (l.map g).sum
  | [] => rfl
  | x :: l => by
    simp only [List.map_cons, List.sum_cons, sum_add f g l]
    omega
theorem sum_swap {α β : Type} (f : α → β → Nat) (m : List β) : ∀ l : List α, (l.map fun x => (m.map fun y => f x y).sum).sum = (m.map fun y => (l.map fun x => f x y).sum).sum
  | [] => by simp only [List.map_nil, List.sum_nil]; exact (sum_zero m).symm
  | x :: l => by
    simp only [List.map_cons, List.sum_cons]
    rw [sum_swap f m l, sum_add]
theorem sum_filter {α : Type} (p : α → Bool) (g : α → Nat) : ∀ l : List α, ((l.filter p).map g).sum = (l.map fun x => if p x = true then g x else 0).sum
  | [] => rfl
  | x :: l => by
    rw [List.map_cons, List.sum_cons, ← sum_filter p g l]
    cases h : p x with
    | true => rw [List.filter_cons_of_pos h, List.map_cons, List.sum_cons, if_pos rfl]
    | false => rw [List.filter_cons_of_neg (by simp [h]), if_neg (by simp), Nat.zero_add]
theorem pow_inj {a b : Nat} (h : 2 ^ b = 2 ^ a) : b = a := by
  have h1 : (2 ^ b).testBit b = true := by rw [Nat.testBit_two_pow]; simp
  rw [h, Nat.testBit_two_pow] at h1
  have h2 : a = b := by simpa using h1
  exact h2.symm
theorem rwN_zero (a l : Nat) (ha : a < n) : rwN F n 0 (2 ^ a) l = if l = a then 1 else 0 := by
  unfold rwN rwR
  rw [len_sum, List.map_map]
  have e : (List.range n).map ((fun p : List Nat => if (decide (rwS p = 2 ^ a) && decide (p.getLast?.getD 0 = l)) = true then 1 else 0) ∘ fun a => [a]) = (List.range n).map fun b => if b = a then (if l = a then 1 else 0) else 0 := by
    apply List.map_congr_left
    intro b _
    have h1 : rwS [b] = 2 ^ b := by simp [rwS]
    show (if (decide (rwS [b] = 2 ^ a) && decide (b = l)) = true then 1 else 0) = _
    rw [h1]
    by_cases h : b = a
    · subst h
      rw [if_pos rfl]
      by_cases h2 : l = b
      · subst h2; simp
      · have : ¬ b = l := fun e => h2 e.symm
        simp [h2, this]
    · have : ¬ 2 ^ b = 2 ^ a := fun e => h (pow_inj e)
      rw [if_neg h]
      simp [this]
  rw [e, sum_if, if_pos ha]
theorem or_bit (s t a : Nat) (hs : s.testBit a = false) (ht : t.testBit a = false) : (t ||| 2 ^ a = s ||| 2 ^ a) ↔ t = s := by
  constructor
  · intro h
    apply Nat.eq_of_testBit_eq
    intro i
    by_cases e : i = a
    · subst e; rw [hs, ht]
    · have h1 := congrArg (fun x => x.testBit i) h
      have e2 : ¬ a = i := fun h => e h.symm
      simpa [Nat.testBit_or, Nat.testBit_two_pow, e2] using h1
  · rintro rfl; rfl
theorem rwN_step (k s a : Nat) (ha : a < n) (hs : s.testBit a = false) : rwN F n (k + 1) (s ||| 2 ^ a) a = ((List.range n).map fun l => if F l a = true then rwN F n k s l else 0).sum := by
  have e1 : rwN F n (k + 1) (s ||| 2 ^ a) a = ((rwR F n k).map fun p => if rwS p = s ∧ F (p.getLast?.getD 0) a = true then 1 else 0).sum := by
    unfold rwN
    rw [len_sum, rwR, sum_flatMap]
    congr 1
    apply List.map_congr_left
    intro p hp
    rw [List.map_map]
    unfold rwC
    rw [sum_filter]
    have e : (List.range n).map (fun x => if (F (p.getLast?.getD 0) x && !p.contains x) = true then ((fun q : List Nat => if (decide (rwS q = s ||| 2 ^ a) && decide (q.getLast?.getD 0 = a)) = true then 1 else 0) ∘ fun c => p ++ [c]) x else 0) = (List.range n).map fun b => if b = a then (if rwS p = s ∧ F (p.getLast?.getD 0) a = true then 1 else 0) else 0 := by
      apply List.map_congr_left
      intro b _
      show (if (F (p.getLast?.getD 0) b && !p.contains b) = true then (if (decide (rwS (p ++ [b]) = s ||| 2 ^ a) && decide ((p ++ [b]).getLast?.getD 0 = a)) = true then 1 else 0) else 0) = _
      have h1 : (p ++ [b]).getLast?.getD 0 = b := by simp
      rw [h1, rwS_snoc]
      by_cases h : b = a
      · subst h
        rw [if_pos rfl]
        have hb := rwS_bit p b
        by_cases hm : b ∈ p
        · have : ¬ rwS p = s := by
            intro e
            rw [e, hs] at hb
            simp [hm] at hb
          simp [hm, this]
        · have hb2 : (rwS p).testBit b = false := by rw [hb]; simpa using hm
          have := or_bit s (rwS p) b hs hb2
          simp only [this]
          cases hf : F (p.getLast?.getD 0) b <;> simp [hm]
      · rw [if_neg h]
        simp [h]
    rw [e, sum_if, if_pos ha]
  have e2 : ((List.range n).map fun l => if F l a = true then rwN F n k s l else 0) = (List.range n).map fun l => ((rwR F n k).map fun p => if F l a = true ∧ rwS p = s ∧ p.getLast?.getD 0 = l then 1 else 0).sum := by
    apply List.map_congr_left
    intro l _
    unfold rwN
    by_cases hf : F l a = true
    · rw [if_pos hf, len_sum]
      congr 1
      apply List.map_congr_left
      intro p _
      simp [hf]
    · rw [if_neg hf]
      simp only [hf, false_and, if_false]
      exact (sum_zero _).symm
  rw [e1, e2, ← sum_swap]
  congr 1
  apply List.map_congr_left
  intro p hp
  obtain ⟨h1, _, h3⟩ := rwR_mem F n k p hp
  have hl : p.getLast?.getD 0 < n := by
    cases p with
    | nil => simp at h1
    | cons x p =>
      rw [List.getLast?_eq_some_getLast (by simp), Option.getD_some]
      exact h3 _ (List.getLast_mem _)
  have e3 : ((List.range n).map fun l => if F l a = true ∧ rwS p = s ∧ p.getLast?.getD 0 = l then 1 else 0) = (List.range n).map fun l => if l = p.getLast?.getD 0 then (if rwS p = s ∧ F (p.getLast?.getD 0) a = true then 1 else 0) else 0 := by
    apply List.map_congr_left
    intro l _
    by_cases h : l = p.getLast?.getD 0
    · subst h
      rw [if_pos rfl]
      by_cases hf : F (p.getLast?.getD 0) a = true <;> by_cases hq : rwS p = s <;> simp [hf, hq]
    · have : ¬ p.getLast?.getD 0 = l := fun e => h e.symm
      simp [h, this]
  rw [e3, sum_if, if_pos hl]
theorem nodup_len : ∀ (n : Nat) (l : List Nat), l.Nodup → (∀ b ∈ l, b < n) → l.length ≤ n
  | 0, l, _, h => by
    cases l with
    | nil => simp
    | cons x l => exact absurd (h x List.mem_cons_self) (by omega)
  | n + 1, l, hd, h => by
    have h1 := nodup_len n (l.erase n) (hd.erase n) (fun b hb => by
      have := (List.Nodup.mem_erase_iff hd).1 hb
      have := h b this.2
      omega)
    rw [List.length_erase] at h1
    split at h1 <;> omega
theorem rwS_full (p : List Nat) (hd : p.Nodup) (hb : ∀ b ∈ p, b < n) (hl : p.length = n) : rwS p = 2 ^ n - 1 := by
  apply Nat.eq_of_testBit_eq
  intro i
  rw [rwS_bit, Nat.testBit_two_pow_sub_one]
  rw [decide_eq_decide]
  constructor
  · intro h; exact hb i h
  · intro h
    refine Classical.byContradiction (fun hn => ?_)
    have := nodup_len n (i :: p) (List.nodup_cons.2 ⟨hn, hd⟩) (fun b hm => by
      rcases List.mem_cons.1 hm with rfl | hm
      · exact h
      · exact hb b hm)
    rw [List.length_cons] at this
    omega
theorem rwN_all (k : Nat) (hk : k + 1 = n) : ((List.range n).map fun l => rwN F n k (2 ^ n - 1) l).sum = (rwR F n k).length := by
  have e : (List.range n).map (fun l => rwN F n k (2 ^ n - 1) l) = (List.range n).map fun l => ((rwR F n k).map fun p => if rwS p = 2 ^ n - 1 ∧ p.getLast?.getD 0 = l then 1 else 0).sum := by
    apply List.map_congr_left
    intro l _
    unfold rwN
    rw [len_sum]
    congr 1
    apply List.map_congr_left
    intro p _
    simp
  rw [e, ← sum_swap]
  have e2 : (rwR F n k).map (fun p => ((List.range n).map fun l => if rwS p = 2 ^ n - 1 ∧ p.getLast?.getD 0 = l then 1 else 0).sum) = (rwR F n k).map fun _ => 1 := by
    apply List.map_congr_left
    intro p hp
    obtain ⟨h1, h2, h3⟩ := rwR_mem F n k p hp
    have hf := rwS_full n p h2 h3 (by omega)
    have hl : p.getLast?.getD 0 < n := by
      cases p with
      | nil => simp at h1
      | cons x p =>
        rw [List.getLast?_eq_some_getLast (by simp), Option.getD_some]
        exact h3 _ (List.getLast_mem _)
    have e3 : ((List.range n).map fun l => if rwS p = 2 ^ n - 1 ∧ p.getLast?.getD 0 = l then 1 else 0) = (List.range n).map fun l => if l = p.getLast?.getD 0 then 1 else 0 := by
      apply List.map_congr_left
      intro l _
      by_cases h : l = p.getLast?.getD 0
      · subst h; simp [hf]
      · have : ¬ p.getLast?.getD 0 = l := fun e => h e.symm
        simp [h, this]
    rw [e3, sum_if, if_pos hl]
  rw [e2]
  generalize rwR F n k = l
  induction l with
  | nil => rfl
  | cons x l ih => simp [ih]; omega
end
-- rwC
-- ints
theorem last_ints (p : List Nat) (hp : p ≠ []) : rd (ints p) ((p.length - 1 : Nat) : Int) = ((p.getLast?.getD 0 : Nat) : Int) := by
  rw [rd_ints p (p.length - 1) (by have := List.length_pos_iff.2 hp; omega), List.getLast?_eq_some_getLast hp, Option.getD_some, List.getLast_eq_getElem]
theorem wrap_wrap2 (x y : Int) : wrap64 (wrap64 x + y) = wrap64 (x + y) := by unfold wrap64; omega
theorem wrap_wrap3 (x y : Int) : wrap64 (x + wrap64 y) = wrap64 (x + y) := by unfold wrap64; omega
theorem wrap_same (x : Int) : wrap64 (wrap64 x) = wrap64 x := by unfold wrap64; omega
theorem last_lt (n : Nat) (p : List Nat) (hp : p ≠ []) (hb : ∀ b ∈ p, b < n) : p.getLast?.getD 0 < n := by
  rw [List.getLast?_eq_some_getLast hp, Option.getD_some]
  exact hb _ (List.getLast_mem _)
theorem spec_taLook.step (n : Nat) (hn : n ≤ 12) (F : Nat → Nat → Bool) (p : List Nat) (hp : p ≠ []) (hb : ∀ b ∈ p, b < n) (hpl : p.length ≤ n) (c : Int) (k : Nat) : spec_taLook.f (k + 1) (tabB n F) (ints p) c = if p.length = n then (if c = 0 then ((spec_l1Own.f (ints p)).bind fun _ => some (wrap64 (c + 1))) else some (wrap64 (c + 1))) else spec_taLook.l0 k (tabB n F) (ints p) ((List.range n).map (F (p.getLast?.getD 0))) ((0 : Nat) : Int) c := by
  have h0 := List.length_pos_iff.2 hp
  have hw : wrap64 (((ints p).length : Int) - 1) = ((p.length - 1 : Nat) : Int) := by rw [ints_length, wrap_id (by omega) (by omega)]; omega
  have hl := last_lt n p hp hb
  rw [spec_taLook.f, hw, if_pos (by omega), if_pos (by rw [ints_length]; omega), ints_length, tabB_length, last_ints p hp, if_pos (show (0 : Int) ≤ ((p.getLast?.getD 0 : Nat) : Int) by omega), if_pos (show ((p.getLast?.getD 0 : Nat) : Int) < (n : Int) by omega), Int.toNat_natCast, tabB_getD n F _ hl]
  by_cases e : p.length = n
  · rw [if_pos (by omega), if_pos e]
  · rw [if_neg (by omega), if_neg e]
    rfl
theorem spec_taLook.ok (n : Nat) (hn : n ≤ 12) (F : Nat → Nat → Bool) : ∀ (m : Nat) (p : List Nat) (c : Int), p.length + m = n → p ≠ [] → (∀ b ∈ p, b < n) → wrap64 c = c → Ev (fun k => spec_taLook.f k (tabB n F) (ints p) c) (wrap64 (c + ((rwD F n m p : Nat) : Int))) := by
  intro m
  induction m with
  | zero =>
    intro p c hm hp hb hc
    refine Ev.step (spec_taLook.step n hn F p hp hb (by omega) c) (Ev.ite_pos (by omega) ?_)
    by_cases h : c = 0
    · refine Ev.ite_pos h ?_
      rw [spec_l1Own.ok _ (by rw [ints_length]; omega)]
      exact Ev.now _
    · exact Ev.ite_neg h (Ev.now _)
  | succ m ih =>
    intro p c hm hp hb hc
    refine Ev.step (spec_taLook.step n hn F p hp hb (by omega) c) (Ev.ite_neg (by omega) ?_)
    have hl := last_lt n p hp hb
    generalize hla : p.getLast?.getD 0 = la at hl ⊢
    have loop := up_loop (P := fun i => ∀ c : Int, wrap64 c = c → Ev (fun k => spec_taLook.l0 k (tabB n F) (ints p) ((List.range n).map (F la)) (i : Int) c) (wrap64 (c + (((((List.range' i (n - i)).filter fun a => F la a && !p.contains a).map fun a => rwD F n m (p ++ [a])).sum : Nat) : Int)))) (n := n) (by
        intro c hc
        refine Ev.step (f := fun _ => some c) (fun k => ?_) (by
          rw [Nat.sub_self]
          simp only [List.range'_zero, List.filter_nil, List.map_nil, List.sum_nil]
          rw [show c + ((0 : Nat) : Int) = c from by omega, hc]
          exact Ev.now _)
        rw [spec_taLook.l0, if_neg (by simp)]) (by
        intro i hi h c hc
        have hl0 : ∀ k, spec_taLook.l0 (k + 1) (tabB n F) (ints p) ((List.range n).map (F la)) (i : Int) c = if F la i = true then ((spec_l1Has.f k (ints p) (i : Int)).bind fun h => if h = true then spec_taLook.l0 k (tabB n F) (ints p) ((List.range n).map (F la)) ((i + 1 : Nat) : Int) c else ((spec_taLook.f k (tabB n F) (ints (p ++ [i])) c).bind fun c2 => spec_taLook.l0 k (tabB n F) (ints p) ((List.range n).map (F la)) ((i + 1 : Nat) : Int) c2)) else spec_taLook.l0 k (tabB n F) (ints p) ((List.range n).map (F la)) ((i + 1 : Nat) : Int) c := by
          intro k
          rw [spec_taLook.l0, if_pos (by simp; omega), if_pos (by omega), row_get n (F la) i hi, spec_l1Own.ok _ (by rw [ints_length]; omega), Option.bind_some, if_pos (show (ints p).length < 17592186044416 by rw [ints_length]; omega), nat_succ i (by omega)]
          have e : ints p ++ [(i : Int)] = ints (p ++ [i]) := by simp [ints]
          rw [e]
        rw [range'_cons i n hi]
        cases hF : F la i with
        | false =>
          rw [List.filter_cons_of_neg (by simp [hF])]
          refine Ev.step hl0 ?_
          rw [hF]
          exact Ev.ite_neg (by simp) (h c hc)
        | true =>
          have hhas := spec_l1Has.ok p i (by omega)
          rw [List.any_beq'] at hhas
          refine Ev.step hl0 ?_
          rw [hF]
          refine Ev.ite_pos rfl (Ev.bind hhas ?_)
          cases hcn : p.contains i with
          | true =>
            rw [List.filter_cons_of_neg (by show ¬ ((F la i && !p.contains i) = true); rw [hF, hcn]; simp)]
            exact Ev.ite_pos rfl (h c hc)
          | false =>
            rw [List.filter_cons_of_pos (by show (F la i && !p.contains i) = true; rw [hF, hcn]; rfl), List.map_cons, List.sum_cons]
            have h1 := ih (p ++ [i]) c (by simp; omega) (by simp) (by
              intro b hb'
              rcases List.mem_append.1 hb' with hb' | hb'
              · exact hb b hb'
              · rw [List.mem_singleton.1 hb']; exact hi) hc
            have h2 := h _ (wrap_same (c + ((rwD F n m (p ++ [i]) : Nat) : Int)))
            rw [wrap_wrap2] at h2
            refine Ev.ite_neg (by simp) (Ev.bind h1 ?_)
            rw [show c + ((rwD F n m (p ++ [i]) + (((List.range' (i + 1) (n - (i + 1))).filter fun a => F la a && !p.contains a).map fun a => rwD F n m (p ++ [a])).sum : Nat) : Int) = c + ((rwD F n m (p ++ [i]) : Nat) : Int) + (((((List.range' (i + 1) (n - (i + 1))).filter fun a => F la a && !p.contains a).map fun a => rwD F n m (p ++ [a])).sum : Nat) : Int) from by omega]
            exact h2)
    have h3 := loop 0 (Nat.zero_le _) c hc
    have e : rwD F n (m + 1) p = (((List.range' 0 (n - 0)).filter fun a => F la a && !p.contains a).map fun a => rwD F n m (p ++ [a])).sum := by
      rw [rwD, rwC, hla, List.range_eq_range', Nat.sub_zero]
    rw [e]
    exact h3

theorem spec_taAll.ok (n : Nat) (hn : n ≤ 12) (l : List S105) (hl : l.length ≤ 1048576) (hp : pin n l) : Ev (fun k => spec_taAll.f k (n : Int) l) (wrap64 (((if n = 0 then 0 else (rwR (adj l) n (n - 1)).length : Nat)) : Int)) := by
  have h1 := spec_paTable.ok n hn l hl hp
  refine Ev.bind h1 ?_
  have loop := up_loop (P := fun i => ∀ c : Int, wrap64 c = c → Ev (fun k => spec_taAll.l1 k (tabB n (adj l)) (i : Int) c) (wrap64 (c + ((((List.range' i (n - i)).map fun a => rwD (adj l) n (n - 1) [a]).sum : Nat) : Int)))) (n := n) (by
      intro c hc
      refine Ev.step (f := fun _ => some c) (fun k => ?_) (by
        rw [Nat.sub_self]
        simp only [List.range'_zero, List.map_nil, List.sum_nil]
        rw [show c + ((0 : Nat) : Int) = c from by omega, hc]
        exact Ev.now _)
      rw [spec_taAll.l1, if_neg (by rw [tabB_length]; omega)]) (by
      intro i hi h c hc
      have h2 := spec_taLook.ok n hn (adj l) (n - 1) [i] c (by simp; omega) (by simp) (by intro b hb; rw [List.mem_singleton.1 hb]; exact hi) hc
      have h3 := h _ (wrap_same (c + ((rwD (adj l) n (n - 1) [i] : Nat) : Int)))
      rw [wrap_wrap2] at h3
      rw [range'_cons i n hi, List.map_cons, List.sum_cons]
      refine Ev.step (fun k => ?_) (Ev.bind h2 (f := fun k c2 => spec_taAll.l1 k (tabB n (adj l)) ((i + 1 : Nat) : Int) c2) ?_)
      · rw [spec_taAll.l1, if_pos (by rw [tabB_length]; omega), nat_succ i (by omega)]
        rfl
      · rw [show c + ((rwD (adj l) n (n - 1) [i] + ((List.range' (i + 1) (n - (i + 1))).map fun a => rwD (adj l) n (n - 1) [a]).sum : Nat) : Int) = c + ((rwD (adj l) n (n - 1) [i] : Nat) : Int) + ((((List.range' (i + 1) (n - (i + 1))).map fun a => rwD (adj l) n (n - 1) [a]).sum : Nat) : Int) from by omega]
        exact h3)
  have h4 := loop 0 (Nat.zero_le _) 0 wrap_zero
  rw [Int.zero_add] at h4
  by_cases h0 : n = 0
  · subst h0
    exact h4
  · rw [if_neg h0]
    have e := rwD_all (adj l) n (n - 1) 0
    rw [rwR, List.map_map, Nat.zero_add, List.range_eq_range'] at e
    rw [← e]
    exact h4

-- rwC
def countR (n : Int) (l : List S105) : Int × Bool := if goodB n l = true then (if n ≤ 9 then (wrap64 (((if n.toNat = 0 then 0 else (rwR (adj l) n.toNat (n.toNat - 1)).length : Nat)) : Int), true) else (0, false)) else (0, false)
theorem goodB_pin {n : Int} {l : List S105} (h : goodB n l = true) : pin n.toNat l := by
  intro x hx
  obtain ⟨i, hi, rfl⟩ := List.getElem_of_mem hx
  have := (goodB_step h i hi).1
  have := goodB_people h
  omega
-- countR
theorem spec_CountRows.ok (n : Int) (l : List S105) : Ev (fun k => spec_CountRows.f k n l) (countR n l) := by
  unfold spec_CountRows.f countR
  have h0 : Ev (fun k => spec_taFew.f k n l) (goodB n l && decide (n ≤ 9)) := by
    unfold spec_taFew.f
    refine Ev.bind (ev_of 70 fun k hk => spec_paGood.ok n l k hk) ?_
    cases hg : goodB n l with
    | true => exact Ev.ite_pos rfl (Ev.now _)
    | false => exact Ev.ite_neg (by simp) (Ev.now _)
  refine Ev.bind h0 ?_
  by_cases hg : goodB n l = true
  · rw [if_pos hg, hg, Bool.true_and]
    by_cases h9 : n ≤ 9
    · rw [if_pos h9]
      refine Ev.ite_pos (by simp [h9]) ?_
      have hp := goodB_people hg
      have h66 := goodB_len66 hg
      have h1 := spec_taAll.ok n.toNat (by omega) l (by omega) (goodB_pin hg)
      rw [Int.toNat_of_nonneg hp.1] at h1
      exact Ev.bind h1 (Ev.now _)
    · rw [if_neg h9]
      exact Ev.ite_neg (by simp [h9]) (Ev.now _)
  · rw [if_neg hg]
    exact Ev.ite_neg (by simp [hg]) (Ev.now _)

theorem tabI_none (n : Nat) : List.replicate n (0 : Int) = tabI n (adj []) := by
  apply List.ext_getElem (by simp [tabI])
  intro i h1 h2
  have : msk (adj [] i) n = 0 := by
    apply Nat.eq_of_testBit_eq
    intro j
    rw [msk_testBit]
    simp [adj]
  simp [tabI, this]
-- pairnat
theorem impl_Party_table.ok (n : Nat) (hn : n ≤ 12) (l : List S105) (hl : l.length ≤ 1048576) (hp : pin n l) : Ev (fun k => impl_Party_table.f k (n : Int) l) (tabI n (adj l)) := by
  have h1 : Ev (fun k => impl_Party_table.l0 k (tabI n (adj (l.take 0))) l (l.length : Int) ((0 : Nat) : Int)) (tabI n (adj l)) := by
    refine up_loop (P := fun i => Ev (fun k => impl_Party_table.l0 k (tabI n (adj (l.take i))) l (l.length : Int) (i : Int)) (tabI n (adj l))) (n := l.length) ?_ ?_ 0 (Nat.zero_le _)
    · refine Ev.step (f := fun _ => some (tabI n (adj l))) (fun k => ?_) (Ev.now _)
      simp only [impl_Party_table.l0]
      rw [if_neg (by omega), List.take_length]
    · intro i hi h
      refine Ev.step (fun k => ?_) h
      obtain ⟨q0, q1, q2, q3⟩ := hp l[i] (List.getElem_mem hi)
      obtain ⟨a, ea⟩ := Int.eq_ofNat_of_zero_le q0
      obtain ⟨b, eb⟩ := Int.eq_ofNat_of_zero_le q2
      have ha : a < n := by omega
      have hb : b < n := by omega
      simp only [impl_Party_table.l0, Option.bind_some]
      rw [if_pos (by omega), if_pos (by omega), if_pos (by omega), rd_T105_nat l i hi, ea, eb, tabI_rd n _ a ha, if_pos (by omega), if_pos (by rw [tabI_length]; omega), if_pos (by omega), if_pos (by rw [tabI_length]; omega)]
      simp only [Int.toNat_natCast]
      rw [tabI_set n _ a b (by omega) ha hb, tabI_rd n _ b hb, tabI_set n _ b a (by omega) hb ha, nat_succ i (by omega), adj_take l i hi, ea, eb]
      simp only [Int.toNat_natCast]
  unfold impl_Party_table.f
  refine Ev.congr (fun k => ?_) h1
  rw [if_pos (by omega), if_pos (by omega)]
  simp only [Int.toNat_natCast, tabI_none, List.take_zero]
  rfl

theorem impl_table_all.ok (n : Nat) (hn : n ≤ 12) (F : Nat → Nat → Bool) : impl_table_all.f (tabI n F) = some ((msk (fun _ => true) n : Nat) : Int) := by
  unfold impl_table_all.f
  rw [tabI_length, all_bits n hn]

theorem cmp_Compare_int.ok (a b : Int) : cmp_Compare_int.f a b = some (if a < b then -1 else if a > b then 1 else 0) := by
  unfold cmp_Compare_int.f cmp_isNaN_int.f
  simp only [Option.bind_some, bne_self_eq_false]
  rw [if_neg (by simp), if_neg (by simp)]
  split <;> (try split) <;> rfl
def cmpI (a b c d : Int) : Int := if a < c then -1 else if a > c then 1 else if b < d then -1 else if b > d then 1 else 0
theorem cmp_Or_int.two (k : Nat) (x y : Int) : cmp_Or_int.f (k + 3) [x, y] = some (if x = 0 then y else x) := by
  unfold cmp_Or_int.f
  simp only [cmp_Or_int.l0, List.length_cons, List.length_nil, rd]
  by_cases hx : x = 0
  · by_cases hy : y = 0
    · simp [hx, hy, wrap_one, wrap_two]
    · simp [hx, hy, wrap_one]
  · simp [hx]
theorem impl_comparePairs.ok (k : Nat) (hk : 3 ≤ k) (a b c d : Int) : impl_comparePairs.f k a b c d = some (cmpI a b c d) := by
  obtain ⟨k, rfl⟩ : ∃ m, k = m + 3 := ⟨k - 3, by omega⟩
  unfold impl_comparePairs.f cmpI
  simp only [cmp_Compare_int.ok, Option.bind_some, cmp_Or_int.two]
  split
  · simp
  · split <;> simp
theorem cmpI_neg (x y : S105) : (cmpI x.f0 x.f1 y.f0 y.f1 ≥ 0) = (lessB x y = false) := by
  unfold cmpI lessB
  rw [eq_iff_iff, decide_eq_false_iff_not]
  split
  · constructor <;> intro h <;> omega
  · split
    · constructor <;> intro h <;> omega
    · split
      · constructor <;> intro h <;> omega
      · split <;> constructor <;> intro h <;> omega

theorem impl_areCrowd.ok (n : Int) : impl_areCrowd.f n = some (crowd n) := by unfold impl_areCrowd.f crowd; simp [impl_within.ok]

theorem impl_IsParty.ok (n : Int) (l : List S105) (hl : l.length ≤ 1048576) (k : Nat) (hk : l.length + 4 < k) : impl_IsParty.f k n l = some (goodB n l) := by
  unfold impl_IsParty.f
  rw [all_loop_fin (fun k i => impl_IsParty.l0 k l (l.length : Int) i n l) l.length (stepB n l) (crowd n) (by omega) 3 ?_ ?_ k (by omega)]
  · unfold goodB; rw [Bool.and_comm]
  · intro k i h hk3
    simp only [impl_IsParty.l0]
    rw [if_pos (by omega), if_pos (by omega), if_pos (by omega), rd_T105_nat l i h, stepB_eq n l i h]
    by_cases h1 : 0 ≤ l[i].f0 ∧ l[i].f0 < l[i].f1 ∧ l[i].f1 < n
    · rw [if_neg (by omega), if_neg (by omega), if_neg (by omega), decide_eq_true h1, Bool.true_and]
      rcases Nat.eq_zero_or_pos i with rfl | hi
      · rw [if_neg (by simp)]; simp
      · have e3 : wrap64 ((i : Int) - 1) = ((i - 1 : Nat) : Int) := by rw [wrap_id (by omega) (by omega)]; omega
        rw [if_pos (by omega), e3, if_pos (by omega), if_pos (by omega), rd_T105_nat l (i - 1) (by omega), impl_comparePairs.ok _ hk3]
        simp only [Option.bind_some, cmpI_neg]
        rw [show (i == 0) = false from by simp; omega, Bool.false_or]
        cases lessB l[i - 1] l[i] <;> rfl
    · rw [decide_eq_false h1, Bool.false_and]
      simp only [Bool.false_eq_true, if_false]
      by_cases a1 : l[i].f0 < 0
      · rw [if_pos a1]
      · rw [if_neg a1]
        by_cases a2 : l[i].f0 ≥ l[i].f1
        · rw [if_pos a2]
        · rw [if_neg a2, if_pos (by omega)]
  · intro k hk3
    simp only [impl_IsParty.l0]
    rw [if_neg (by omega), impl_areCrowd.ok]; rfl

theorem impl_sum.ok (l : List Int) (hl : l.length ≤ 1000) : Ev (fun k => impl_sum.f k l) (wrap64 l.sum) := by
  unfold impl_sum.f
  have loop := up_loop (P := fun i => ∀ c : Int, wrap64 c = c → Ev (fun k => impl_sum.l0 k c l (l.length : Int) (i : Int)) (wrap64 (c + (l.drop i).sum))) (n := l.length) (by
      intro c hc
      refine Ev.step (f := fun _ => some c) (fun k => ?_) (by
        rw [List.drop_length]
        simp only [List.sum_nil, Int.add_zero]
        rw [hc]
        exact Ev.now _)
      rw [impl_sum.l0, if_neg (by omega)]) (by
      intro i hi h c hc
      have h1 := h (wrap64 (c + l[i])) (by unfold wrap64; omega)
      have e : wrap64 (wrap64 (c + l[i]) + (l.drop (i + 1)).sum) = wrap64 (c + (l.drop i).sum) := by
        rw [List.drop_eq_getElem_cons hi, List.sum_cons]
        unfold wrap64; omega
      rw [e] at h1
      refine Ev.step (fun k => ?_) h1
      have e2 : rd l (i : Int) = l[i] := by simp [rd, List.getD, hi]
      rw [impl_sum.l0, if_pos (by omega), if_pos (by omega), if_pos (by omega), e2, nat_succ i (by omega)])
  have h := loop 0 (Nat.zero_le _) 0 wrap_zero
  rw [List.drop_zero, Int.zero_add] at h
  exact h

-- ints
theorem impl_listed.go : ∀ (m s : Nat) (acc : List Int), (bof s).length = m → s < 65536 → acc.length + m ≤ 1000 → Ev (fun k => impl_listed.l0 k (s : Int) acc) (acc ++ ints (bof s)) := by
  intro m
  induction m with
  | zero =>
    intro s acc hm hs _
    have e := bof_nil s hs (List.length_eq_zero_iff.1 hm)
    rw [List.length_eq_zero_iff.1 hm]
    subst e
    refine Ev.step (f := fun _ => some acc) (fun k => ?_) (by rw [show acc ++ ints [] = acc from by simp [ints]]; exact Ev.now _)
    rw [impl_listed.l0, if_neg (by simp)]
  | succ m ih =>
    intro s acc hm hs ha
    have h0 : s ≠ 0 := by rintro rfl; rw [bof_zero] at hm; simp at hm
    have es := bof_step s h0 hs
    rw [es] at hm ⊢
    have h1 := ih (s &&& (s - 1)) (acc ++ [((Go.Lib.ctz 16 s : Nat) : Int)]) (by simpa using hm) (Nat.lt_of_le_of_lt Nat.and_le_left hs) (by simp; omega)
    have ec : ctz16 (s : Int) = ((Go.Lib.ctz 16 s : Nat) : Int) := by simp [ctz16]
    refine Ev.step (fun k => ?_) (by rw [show acc ++ ints (Go.Lib.ctz 16 s :: bof (s &&& (s - 1))) = (acc ++ [((Go.Lib.ctz 16 s : Nat) : Int)]) ++ ints (bof (s &&& (s - 1))) from by simp [ints]]; exact h1)
    rw [impl_listed.l0, if_pos (by omega), bits_TrailingZeros16.f, if_pos (by omega), Option.bind_some, if_pos (by omega), low_bits s hs h0, ec]
theorem impl_listed.ok (s : Nat) (hs : s < 65536) : Ev (fun k => impl_listed.f k (s : Int)) (ints (bof s)) := by
  have h := impl_listed.go _ s [] rfl hs (by
    have : (bof s).length ≤ 16 := by unfold bof; exact Nat.le_trans (List.length_filter_le _ _) (by simp)
    simp; omega)
  rw [List.nil_append] at h
  exact h
theorem impl_listed.msk (p : Nat → Bool) (n : Nat) (h : n ≤ 16) : Ev (fun k => impl_listed.f k ((msk p n : Nat) : Int)) (ints ((List.range n).filter p)) := by
  have := impl_listed.ok (Base.msk p n) (msk_lt16 p n h)
  rwa [bof_msk p n h] at this

/-- What is left of a set without two. -/
def rem2 (p : Nat → Bool) (a b : Nat) : Nat → Bool := fun i => p i && (i != a) && (i != b)
/-- How many pairings the people of a set have. -/
def pmc (n : Nat) (F : Nat → Nat → Bool) : Nat → (Nat → Bool) → Nat
  | 0, _ => 1
  | m + 1, p => match (List.range n).filter p with
    | [] => 1
    | a :: _ => (((List.range n).filter fun y => F a y && p y).map fun b => pmc n F m (rem2 p a b)).sum
theorem least (p : Nat → Bool) : ∀ n : Nat, (∃ a, a < n ∧ p a = true ∧ ∀ i, i < a → p i = false) ∨ (∀ i, i < n → p i = false)
  | 0 => .inr (fun i h => absurd h (Nat.not_lt_zero i))
  | n + 1 => by
    rcases least p n with ⟨a, h1, h2, h3⟩ | h
    · exact .inl ⟨a, by omega, h2, h3⟩
    · cases hp : p n with
      | true => exact .inl ⟨n, by omega, hp, h⟩
      | false =>
        refine .inr (fun i hi => ?_)
        by_cases e : i = n
        · rw [e]; exact hp
        · exact h i (by omega)
theorem filter_none (p : Nat → Bool) (n : Nat) (h : ∀ i, i < n → p i = false) : (List.range n).filter p = [] := by
  rw [List.filter_eq_nil_iff]
  intro i hi
  rw [h i (List.mem_range.1 hi)]
  simp
theorem pmc_none (n : Nat) (F : Nat → Nat → Bool) (m : Nat) (p : Nat → Bool) (h : ∀ i, i < n → p i = false) : pmc n F m p = 1 := by
  cases m with
  | zero => rfl
  | succ m => unfold pmc; rw [filter_none p n h]
theorem pmc_some (n : Nat) (F : Nat → Nat → Bool) (m : Nat) (p : Nat → Bool) (a : Nat) (ha : a < n) (hp : p a = true) (hl : ∀ i, i < a → p i = false) : pmc n F (m + 1) p = (((List.range n).filter fun y => F a y && p y).map fun b => pmc n F m (rem2 p a b)).sum := by
  rw [pmc, filter_least p a hp hl n ha]
theorem filter_behind (q : Nat → Bool) (n a : Nat) (ha : a < n) (h : ∀ y, y ≤ a → q y = false) : (List.range n).filter q = (List.range' (a + 1) (n - (a + 1))).filter q := by
  have e : List.range n = List.range' 0 (a + 1) ++ List.range' (a + 1) (n - (a + 1)) := by
    rw [List.range_eq_range', show n = (a + 1) + (n - (a + 1)) from by omega]
    rw [show List.range' (a + 1) (a + 1 + (n - (a + 1)) - (a + 1)) = List.range' (0 + (a + 1)) (n - (a + 1)) from by rw [Nat.zero_add, Nat.add_sub_cancel_left]]
    rw [List.range'_append_1]
  rw [e, List.filter_append]
  have : (List.range' 0 (a + 1)).filter q = [] := by
    rw [List.filter_eq_nil_iff]
    intro i hi
    rw [h i (by have := List.mem_range'_1.1 hi; omega)]
    simp
  rw [this, List.nil_append]
theorem rem2_len (n : Nat) (p : Nat → Bool) (a b m : Nat) (ha : a < n) (hp : p a = true) (hl : ∀ i, i < a → p i = false) (h : ((List.range n).filter p).length ≤ m + 1) : ((List.range n).filter (rem2 p a b)).length ≤ m := by
  rw [filter_least p a hp hl n ha] at h
  have e : (List.range n).filter (rem2 p a b) = ((List.range n).filter fun i => p i && (i != a)).filter fun i => i != b := by
    rw [List.filter_filter]
    apply List.filter_congr
    intro i _
    unfold rem2
    rw [Bool.and_comm]
  rw [e]
  have := List.length_filter_le (fun i => i != b) ((List.range n).filter fun i => p i && (i != a))
  simp at h
  omega
theorem wrap_wrap (x y : Int) : wrap64 (wrap64 x + y) = wrap64 (x + y) := by unfold wrap64; omega
theorem wrap_twice (x : Int) : wrap64 (wrap64 x) = wrap64 x := by unfold wrap64; omega
-- pmc
/-- What is left of a set without one. -/
def rem1 (p : Nat → Bool) (a : Nat) : Nat → Bool := fun i => p i && (i != a)
/-- How many people a set has. -/
def card (n : Nat) (p : Nat → Bool) : Nat := ((List.range n).filter p).length
theorem card_rem1 (n : Nat) (p : Nat → Bool) (a : Nat) (ha : a < n) (hp : p a = true) : card n (rem1 p a) + 1 = card n p := by
  unfold card
  have : ∀ n, a < n → ((List.range n).filter (rem1 p a)).length + 1 = ((List.range n).filter p).length := by
    intro n
    induction n with
    | zero => intro h; omega
    | succ n ih =>
      intro h
      rw [List.range_succ, List.filter_append, List.filter_append, List.length_append, List.length_append]
      by_cases e : a = n
      · subst e
        have e1 : (List.range a).filter (rem1 p a) = (List.range a).filter p := by
          apply List.filter_congr
          intro i hi
          have := List.mem_range.1 hi
          have e2 : (i != a) = true := by simp; omega
          unfold rem1
          rw [e2, Bool.and_true]
        have e2 : [a].filter (rem1 p a) = [] := by simp [rem1]
        rw [e1, e2]
        simp [hp]
      · have := ih (by omega)
        have e3 : [n].filter (rem1 p a) = [n].filter p := by
          apply List.filter_congr
          intro i hi
          obtain rfl := List.mem_singleton.1 hi
          have e2 : (i != a) = true := by simp; omega
          unfold rem1
          rw [e2, Bool.and_true]
        rw [e3]
        omega
  exact this n ha
/-- A table of numbers, row by row. -/
def tabW (m n : Nat) (K : Nat → Nat → Nat) : List (List Int) := (List.range m).map fun t => (List.range n).map fun a => wrap64 ((K t a : Nat) : Int)
theorem tabW_length (m n : Nat) (K : Nat → Nat → Nat) : (tabW m n K).length = m := by simp [tabW]
theorem tabW_getD (m n : Nat) (K : Nat → Nat → Nat) (t : Nat) (h : t < m) : (tabW m n K).getD t [] = (List.range n).map fun a => wrap64 ((K t a : Nat) : Int) := by simp [tabW, List.getD, h]
theorem tabW_rd (m n : Nat) (K : Nat → Nat → Nat) (t a : Nat) (h : t < m) (ha : a < n) : rd ((tabW m n K).getD t []) (a : Int) = wrap64 ((K t a : Nat) : Int) := by rw [tabW_getD m n K t h]; unfold rd; rw [Int.toNat_natCast, List.getD_eq_getElem?_getD, List.getElem?_map, List.getElem?_range ha, Option.map_some, Option.getD_some]
/-- One entry is another. -/
def updN (K : Nat → Nat → Nat) (t a v : Nat) : Nat → Nat → Nat := fun x y => if x = t ∧ y = a then v else K x y
theorem tabW_set (m n : Nat) (K : Nat → Nat → Nat) (t a v : Nat) (h : t < m) : (tabW m n K).set t (((tabW m n K).getD t []).set a (wrap64 ((v : Nat) : Int))) = tabW m n (updN K t a v) := by
  rw [tabW_getD m n K t h]
  apply List.ext_getElem (by simp [tabW])
  intro i h1 h2
  have hi : i < m := by simpa [tabW] using h2
  by_cases e : t = i
  · subst e
    simp only [List.getElem_set_self, tabW, List.getElem_map, List.getElem_range]
    apply List.ext_getElem (by simp)
    intro j g1 g2
    by_cases e2 : a = j
    · subst e2
      simp [updN]
    · rw [List.getElem_set_ne e2]
      have : ¬ (j = a) := fun h => e2 h.symm
      simp [updN, this]
  · rw [List.getElem_set_ne e]
    have : ∀ y, updN K t a v i y = K i y := fun y => by
      unfold updN
      rw [if_neg (fun h => e h.1.symm)]
    simp only [tabW, List.getElem_map, List.getElem_range, this]
theorem tabW_congr (m n : Nat) (K K' : Nat → Nat → Nat) (h : ∀ t a, t < m → a < n → wrap64 ((K t a : Nat) : Int) = wrap64 ((K' t a : Nat) : Int)) : tabW m n K = tabW m n K' := by
  unfold tabW
  apply List.map_congr_left
  intro t ht
  apply List.map_congr_left
  intro a ha
  exact h t a (List.mem_range.1 ht) (List.mem_range.1 ha)
theorem shl64_one (b : Nat) (h : b < 16) : shl .i64 1 (b : Int) = ((2 ^ b : Nat) : Int) := by
  have h2 : 2 ^ b < 65536 := pow_lt16 b h
  have e : ((2 : Int) ^ b) = ((2 ^ b : Nat) : Int) := by simp
  unfold shl
  rw [Int.toNat_natCast, Nat.min_eq_left (show b ≤ IntKind.i64.bits from by have : IntKind.i64.bits = 64 := rfl; omega), Int.one_mul, e, i64_w]
  clear e
  generalize 2 ^ b = x at h2 ⊢
  exact wrap_id (by omega) (by omega)
theorem i64_or_nat (a b : Nat) (ha : a < 65536) (hb : b < 65536) : Go.bits .or .i64 (a : Int) (b : Int) = ((a ||| b : Nat) : Int) := by
  have hx : a ||| b < 2 ^ 16 := Nat.or_lt_two_pow (by omega) (by omega)
  show IntKind.i64.wrap ((BitVec.ofInt 64 (a : Int) ||| BitVec.ofInt 64 (b : Int)).toNat : Int) = _
  rw [BitVec.toNat_or, ofInt_u64 a (by omega), ofInt_u64 b (by omega)]
  rw [i64_w, wrap_id (by omega) (by omega)]
/-- A set without one. -/
def remN (t a : Nat) : Nat := t ^^^ 2 ^ a
theorem remN_bit (t a i : Nat) (h : t.testBit a = true) : (remN t a).testBit i = (t.testBit i && (i != a)) := by
  unfold remN
  rw [Nat.testBit_xor, Nat.testBit_two_pow]
  by_cases e : a = i
  · subst e; simp [h]
  · have e2 : (i != a) = true := by simp; exact fun h => e h.symm
    simp [e, e2]
theorem remN_lt (t a : Nat) (h : t.testBit a = true) : remN t a < t := by
  have e : remN t a ||| 2 ^ a = t := by
    apply Nat.eq_of_testBit_eq
    intro i
    rw [Nat.testBit_or, remN_bit t a i h, Nat.testBit_two_pow]
    by_cases e : a = i
    · subst e; simp [h]
    · have e2 : (i != a) = true := by simp; exact fun h => e h.symm
      simp [e, e2]
  have h1 : remN t a ≤ t := by
    have := Nat.left_le_or (n := remN t a) (m := 2 ^ a)
    rwa [e] at this
  have h2 : remN t a ≠ t := by
    intro e2
    have := remN_bit t a a h
    rw [e2, h] at this
    simp at this
  omega
theorem remN_or (s a : Nat) (h : s.testBit a = false) : remN (s ||| 2 ^ a) a = s := by
  apply Nat.eq_of_testBit_eq
  intro i
  rw [remN_bit _ _ _ (by rw [Nat.testBit_or, Nat.testBit_two_pow]; simp), Nat.testBit_or, Nat.testBit_two_pow]
  by_cases e : a = i
  · subst e; simp [h]
  · have e2 : (i != a) = true := by simp; exact fun h => e h.symm
    simp [e, e2]
theorem or_remN (t a : Nat) (h : t.testBit a = true) : remN t a ||| 2 ^ a = t ∧ (remN t a).testBit a = false := by
  refine ⟨?_, by rw [remN_bit t a a h]; simp⟩
  apply Nat.eq_of_testBit_eq
  intro i
  rw [Nat.testBit_or, remN_bit t a i h, Nat.testBit_two_pow]
  by_cases e : a = i
  · subst e; simp [h]
  · have e2 : (i != a) = true := by simp; exact fun h => e h.symm
    simp [e, e2]
-- rwC
-- card
-- tabW
-- pmc
section
variable (F : Nat → Nat → Bool) (n : Nat)
theorem rwN_out (k s l : Nat) (h : s.testBit l = false) : rwN F n k s l = 0 := by
  unfold rwN
  rw [List.length_eq_zero_iff, List.filter_eq_nil_iff]
  intro p hp hh
  simp only [Bool.and_eq_true, decide_eq_true_eq] at hh
  obtain ⟨h1, _, _⟩ := rwR_mem F n k p hp
  have hl : l ∈ p := by
    cases p with
    | nil => simp at h1
    | cons x p =>
      rw [← hh.2, List.getLast?_eq_some_getLast (by simp), Option.getD_some]
      exact List.getLast_mem _
  have h2 := rwS_bit p l
  rw [hh.1, h] at h2
  simp [hl] at h2
/-- The rows of a set that end with one. -/
def rwT (t a : Nat) : Nat := rwN F n (card n (fun i => t.testBit i) - 1) t a
theorem rwT_out (t a : Nat) (h : t.testBit a = false) : rwT F n t a = 0 := rwN_out F n _ t a h
theorem card_or (s a : Nat) (ha : a < n) (hs : s.testBit a = false) : card n (fun i => (s ||| 2 ^ a).testBit i) = card n (fun i => s.testBit i) + 1 := by
  have h := card_rem1 n (fun i => (s ||| 2 ^ a).testBit i) a ha (by rw [Nat.testBit_or, Nat.testBit_two_pow]; simp)
  have e : rem1 (fun i => (s ||| 2 ^ a).testBit i) a = fun i => s.testBit i := by
    funext i
    show ((s ||| 2 ^ a).testBit i && (i != a)) = s.testBit i
    rw [Nat.testBit_or, Nat.testBit_two_pow]
    by_cases e : a = i
    · subst e; simp [hs]
    · have e2 : (i != a) = true := by simp; exact fun h => e h.symm
      simp [e, e2]
  rw [e] at h
  omega
theorem card_pos (s : Nat) (h0 : s ≠ 0) (hs : s < 2 ^ n) : 1 ≤ card n (fun i => s.testBit i) := by
  rcases least (fun i => s.testBit i) n with ⟨a, ha, hp, _⟩ | h
  · have := card_rem1 n (fun i => s.testBit i) a ha hp
    omega
  · exfalso
    apply h0
    apply Nat.eq_of_testBit_eq
    intro i
    rw [Nat.zero_testBit]
    by_cases hi : i < n
    · exact h i hi
    · exact Nat.testBit_lt_two_pow (Nat.lt_of_lt_of_le hs (Nat.pow_le_pow_right (by omega) (by omega)))
theorem rwT_one (a : Nat) (ha : a < n) : rwT F n (2 ^ a) a = 1 := by
  have h := card_or n 0 a ha (by simp)
  rw [Nat.zero_or] at h
  have h0 : card n (fun i => (0 : Nat).testBit i) = 0 := by
    unfold card
    rw [filter_none _ n (by intro i _; exact Nat.zero_testBit i)]
    rfl
  unfold rwT
  rw [h, h0]
  rw [rwN_zero F n a a ha, if_pos rfl]
theorem rwT_step (s a : Nat) (ha : a < n) (h0 : s ≠ 0) (hs : s < 2 ^ n) (hb : s.testBit a = false) : rwT F n (s ||| 2 ^ a) a = ((List.range n).map fun l => if F l a = true then rwT F n s l else 0).sum := by
  have h1 := card_pos n s h0 hs
  unfold rwT
  rw [card_or n s a ha hb, show card n (fun i => s.testBit i) + 1 - 1 = (card n (fun i => s.testBit i) - 1) + 1 from by omega]
  exact rwN_step F n _ s a ha hb
/-- The table where all sets below one were gone through. -/
def rwK (s t a : Nat) : Nat := if t.testBit a = true ∧ (remN t a < s ∨ t = 2 ^ a) then rwT F n t a else 0
/-- The table where of a set those who are last, below one, were gone through. -/
def rwJ (s j t a : Nat) : Nat := if s ≠ 0 ∧ s.testBit a = false ∧ t = s ||| 2 ^ a then ((List.range j).map fun l => if F l a = true then rwT F n s l else 0).sum else rwK F n s t a
theorem rwJ_own (s j l : Nat) : rwJ F n s j s l = rwT F n s l := by
  unfold rwJ
  rw [if_neg (by
    rintro ⟨_, h2, h3⟩
    have : (s ||| 2 ^ l).testBit l = true := by rw [Nat.testBit_or, Nat.testBit_two_pow]; simp
    rw [← h3, h2] at this
    cases this)]
  unfold rwK
  cases h : s.testBit l with
  | true => rw [if_pos ⟨rfl, .inl (remN_lt s l h)⟩]
  | false => rw [if_neg (by simp), rwT_out F n s l h]
theorem or_bit_self (s a : Nat) : (s ||| 2 ^ a).testBit a = true := by rw [Nat.testBit_or, Nat.testBit_two_pow]; simp
theorem or_ne_pow (s a : Nat) (h0 : s ≠ 0) (h : s.testBit a = false) : s ||| 2 ^ a ≠ 2 ^ a := by
  intro e
  apply h0
  have h1 := remN_or s a h
  rw [e] at h1
  rw [← h1]
  unfold remN
  rw [Nat.xor_self]
theorem rwJ_zero (s t a : Nat) : rwJ F n s 0 t a = rwK F n s t a := by
  unfold rwJ
  split
  · rename_i h
    obtain ⟨h0, h1, rfl⟩ := h
    unfold rwK
    rw [if_neg (by
      rintro ⟨_, h | h⟩
      · rw [remN_or s a h1] at h; omega
      · exact or_ne_pow s a h0 h1 h)]
    rfl
  · rfl
theorem rwJ_all (s t a : Nat) (hs : s < 2 ^ n) (ha : a < n) : rwJ F n s n t a = rwK F n (s + 1) t a := by
  unfold rwJ
  split
  · rename_i h
    obtain ⟨h0, h1, rfl⟩ := h
    unfold rwK
    rw [if_pos ⟨or_bit_self s a, .inl (by rw [remN_or s a h1]; omega)⟩]
    exact (rwT_step F n s a ha h0 hs h1).symm
  · rename_i h
    unfold rwK
    by_cases hb : t.testBit a = true
    · by_cases h2 : remN t a < s ∨ t = 2 ^ a
      · rw [if_pos ⟨hb, h2⟩, if_pos ⟨hb, h2.imp (fun h => by omega) id⟩]
      · rw [if_neg (fun h => h2 h.2), if_neg]
        rintro ⟨_, h3 | h3⟩
        · have e : remN t a = s := by
            have : ¬ remN t a < s := fun h => h2 (.inl h)
            omega
          obtain ⟨g1, g2⟩ := or_remN t a hb
          rw [e] at g1 g2
          apply h
          refine ⟨?_, g2, g1.symm⟩
          rintro rfl
          rw [Nat.zero_or] at g1
          exact h2 (.inr g1.symm)
        · exact h2 (.inr h3)
    · rw [if_neg (fun h => hb h.1), if_neg (fun h => hb h.1)]
theorem rwJ_next (s j t a : Nat) (L : List Nat) (hL : ∀ x, x < n → (x ∈ L ↔ F j x = true ∧ s.testBit x = false)) (ha : a < n) : (if a ∈ L ∧ t = s ||| 2 ^ a then rwJ F n s j t a + rwT F n s j else rwJ F n s j t a) = rwJ F n s (j + 1) t a ∨ rwT F n s j = 0 := by
  by_cases h0 : s = 0
  · right
    subst h0
    exact rwT_out F n 0 j (Nat.zero_testBit j)
  · left
    by_cases h : s.testBit a = false ∧ t = s ||| 2 ^ a
    · have e1 : rwJ F n s j t a = ((List.range j).map fun l => if F l a = true then rwT F n s l else 0).sum := by unfold rwJ; exact if_pos ⟨h0, h⟩
      have e2 : rwJ F n s (j + 1) t a = ((List.range (j + 1)).map fun l => if F l a = true then rwT F n s l else 0).sum := by unfold rwJ; exact if_pos ⟨h0, h⟩
      rw [e1, e2, List.range_succ, List.map_append, List.sum_append]
      simp only [List.map_cons, List.map_nil, List.sum_cons, List.sum_nil, Nat.add_zero]
      by_cases hF : F j a = true
      · rw [if_pos ⟨(hL a ha).2 ⟨hF, h.1⟩, h.2⟩, if_pos hF]
      · rw [if_neg (fun g => hF ((hL a ha).1 g.1).1), if_neg hF, Nat.add_zero]
    · have e1 : rwJ F n s j t a = rwK F n s t a := by unfold rwJ; exact if_neg (fun g => h g.2)
      have e2 : rwJ F n s (j + 1) t a = rwK F n s t a := by unfold rwJ; exact if_neg (fun g => h g.2)
      rw [e1, e2, if_neg (fun g => h ⟨((hL a ha).1 g.1).2, g.2⟩)]
theorem rwJ_skip (s j t a : Nat) (h : wrap64 ((rwT F n s j : Nat) : Int) = 0) : wrap64 ((rwJ F n s j t a : Nat) : Int) = wrap64 ((rwJ F n s (j + 1) t a : Nat) : Int) := by
  unfold rwJ
  split
  · rw [List.range_succ, List.map_append, List.sum_append]
    simp only [List.map_cons, List.map_nil, List.sum_cons, List.sum_nil, Nat.add_zero]
    split
    · unfold wrap64 at h ⊢; omega
    · rfl
  · rfl
end
/-- Some entries of a table are raised. -/
def addL (K : Nat → Nat → Nat) (s T : Nat) (L : List Nat) : Nat → Nat → Nat := fun t a => if a ∈ L ∧ t = s ||| 2 ^ a then K t a + T else K t a
theorem addL_nil (K : Nat → Nat → Nat) (s T : Nat) : addL K s T [] = K := by
  funext t a
  unfold addL
  rw [if_neg (by simp)]
theorem addL_cons (K : Nat → Nat → Nat) (s T b : Nat) (L : List Nat) (hb : b ∉ L) : addL (updN K (s ||| 2 ^ b) b (K (s ||| 2 ^ b) b + T)) s T L = addL K s T (b :: L) := by
  funext t a
  unfold addL updN
  by_cases e : a = b
  · subst e
    rw [if_neg (fun h => hb h.1)]
    by_cases e2 : t = s ||| 2 ^ a
    · subst e2; simp
    · rw [if_neg (fun h => e2 h.1), if_neg (fun h => e2 h.2)]
  · have h1 : ∀ x, ¬ (x = s ||| 2 ^ b ∧ a = b) := fun x h => e h.2
    rw [if_neg (h1 t)]
    by_cases h : a ∈ L ∧ t = s ||| 2 ^ a
    · rw [if_pos h, if_pos ⟨List.mem_cons_of_mem _ h.1, h.2⟩]
    · rw [if_neg h, if_neg (fun g => h ⟨(List.mem_cons.1 g.1).resolve_left e, g.2⟩)]
/-- The inner round: some entries are raised. -/
theorem impl_table_countRows.l4_ok (n : Nat) (hn : n ≤ 9) (x0 : List Int) (s j T : Nat) (hs : s < 2 ^ n) (row : List Int) (e : Int) (r : List Int) (L : List Nat) (hL : ∀ a ∈ L, a < n) (hd : L.Nodup) : ∀ i, i ≤ L.length → ∀ K : Nat → Nat → Nat, Ev (fun k => impl_table_countRows.l3 k x0 (tabW (2 ^ n) n (addL K s T (L.drop i))) (s : Int) ((2 ^ n : Nat) : Int) (s : Int) row e (wrap64 ((j : Int) + 1))) r → Ev (fun k => impl_table_countRows.l4 k x0 (tabW (2 ^ n) n K) (s : Int) (wrap64 ((T : Nat) : Int)) ((2 ^ n : Nat) : Int) (s : Int) row e (j : Int) (ints L) (L.length : Int) (i : Int)) r := by
  have hp : 2 ^ n ≤ 512 := Nat.pow_le_pow_right (n := 2) (by omega) hn
  have h16 : 2 ^ n < 65536 := by omega
  refine up_loop (P := fun i => ∀ K : Nat → Nat → Nat, Ev (fun k => impl_table_countRows.l3 k x0 (tabW (2 ^ n) n (addL K s T (L.drop i))) (s : Int) ((2 ^ n : Nat) : Int) (s : Int) row e (wrap64 ((j : Int) + 1))) r → Ev (fun k => impl_table_countRows.l4 k x0 (tabW (2 ^ n) n K) (s : Int) (wrap64 ((T : Nat) : Int)) ((2 ^ n : Nat) : Int) (s : Int) row e (j : Int) (ints L) (L.length : Int) (i : Int)) r) ?_ ?_
  · intro K h
    rw [List.drop_length, addL_nil] at h
    refine Ev.step (fun k => ?_) h
    rw [impl_table_countRows.l4, if_neg (by omega)]
  · intro i hi h K h2
    have hb := hL L[i] (List.getElem_mem hi)
    rw [List.drop_eq_getElem_cons hi] at h2
    have hnd : L[i] ∉ L.drop (i + 1) := by
      rw [← List.take_append_drop i L, List.drop_eq_getElem_cons hi] at hd
      exact (List.nodup_cons.1 (List.nodup_append.1 hd).2.1).1
    have hrd : rd (ints L) (i : Int) = ((L[i] : Nat) : Int) := rd_ints L i hi
    generalize L[i] = b at hb h2 hnd hrd
    have hb2 : 2 ^ b < 65536 := pow_lt16 b (by omega)
    have ht : s ||| 2 ^ b < 2 ^ n := Nat.or_lt_two_pow hs (Nat.pow_lt_pow_right (by omega) hb)
    rw [← addL_cons K s T b _ hnd] at h2
    have h3 := h (updN K (s ||| 2 ^ b) b (K (s ||| 2 ^ b) b + T)) h2
    refine Ev.step (fun k => ?_) h3
    have eor : Go.bits .or .i64 (s : Int) (shl .i64 1 (b : Int)) = ((s ||| 2 ^ b : Nat) : Int) := by rw [shl64_one b (by omega), i64_or_nat s _ (by omega) hb2]
    have eset : (tabW (2 ^ n) n K).set (s ||| 2 ^ b) (((tabW (2 ^ n) n K).getD (s ||| 2 ^ b) []).set b (wrap64 (rd ((tabW (2 ^ n) n K).getD (s ||| 2 ^ b) []) (b : Int) + wrap64 ((T : Nat) : Int)))) = tabW (2 ^ n) n (updN K (s ||| 2 ^ b) b (K (s ||| 2 ^ b) b + T)) := by
      rw [tabW_rd _ _ _ _ _ ht hb, ← tabW_set _ _ _ _ _ _ ht]
      congr 2
      rw [wrap_wrap2, wrap_wrap3]
      congr 1
    rw [impl_table_countRows.l4, if_pos (by omega), if_pos (by omega), if_pos (by rw [ints_length]; omega), hrd, if_pos (by omega), eor]
    have er : impl_table_countRows.rdR (tabW (2 ^ n) n K) ((s ||| 2 ^ b : Nat) : Int) = (tabW (2 ^ n) n K).getD (s ||| 2 ^ b) [] := rfl
    have hli : L.length ≤ n := nodup_len n L hd hL
    rw [if_pos (by omega), if_pos (by rw [tabW_length]; omega), er, Int.toNat_natCast, Int.toNat_natCast, if_pos (by rw [tabW_getD _ _ _ _ ht]; simp; omega), eset, nat_succ i (by omega)]
theorem andNot_msk (p : Nat → Bool) (n s : Nat) (hn : n ≤ 16) (hs : s < 65536) : Go.bits .andNot .u16 ((msk p n : Nat) : Int) (IntKind.u16.wrap ((s : Nat) : Int)) = ((msk (fun a => p a && !s.testBit a) n : Nat) : Int) := by
  rw [IntKind.wrap_u16, show ((s : Nat) : Int) % 65536 = ((s : Nat) : Int) from by omega, u16_andNot_nat _ _ (msk_lt16 p n hn) hs]
  congr 1
  apply Nat.eq_of_testBit_eq
  intro i
  have := Nat.testBit_two_pow_sub_succ (n := 16) (x := s) (by omega) i
  rw [Nat.testBit_and, show 65535 - s = 2 ^ 16 - (s + 1) from by omega, this, msk_testBit, msk_testBit]
  by_cases hi : i < n
  · have : i < 16 := by omega
    simp [hi, this]
  · simp [hi]
/-- The round over those who are last in a row of a set. -/
theorem impl_table_countRows.l3_ok (n : Nat) (hn : n ≤ 9) (F : Nat → Nat → Bool) (s : Nat) (hs : s < 2 ^ n) (row : List Int) (hrow : row.length = n) (r : List Int) (h : Ev (fun k => impl_table_countRows.l2 k (tabI n F) (tabW (2 ^ n) n (rwJ F n s n)) ((2 ^ n : Nat) : Int) (wrap64 ((s : Int) + 1))) r) : ∀ j, j ≤ n → Ev (fun k => impl_table_countRows.l3 k (tabI n F) (tabW (2 ^ n) n (rwJ F n s j)) (s : Int) ((2 ^ n : Nat) : Int) (s : Int) row (n : Int) (j : Int)) r := by
  have hp : 2 ^ n ≤ 512 := Nat.pow_le_pow_right (n := 2) (by omega) hn
  refine up_loop (P := fun j => Ev (fun k => impl_table_countRows.l3 k (tabI n F) (tabW (2 ^ n) n (rwJ F n s j)) (s : Int) ((2 ^ n : Nat) : Int) (s : Int) row (n : Int) (j : Int)) r) ?_ ?_
  · refine Ev.step (fun k => ?_) h
    rw [impl_table_countRows.l3, if_neg (by omega)]
  · intro j hj hnext
    have er : impl_table_countRows.rdR (tabW (2 ^ n) n (rwJ F n s j)) (s : Int) = (tabW (2 ^ n) n (rwJ F n s j)).getD s [] := rfl
    have hl3 : ∀ k, impl_table_countRows.l3 (k + 1) (tabI n F) (tabW (2 ^ n) n (rwJ F n s j)) (s : Int) ((2 ^ n : Nat) : Int) (s : Int) row (n : Int) (j : Int) = if wrap64 ((rwT F n s j : Nat) : Int) = 0 then impl_table_countRows.l3 k (tabI n F) (tabW (2 ^ n) n (rwJ F n s j)) (s : Int) ((2 ^ n : Nat) : Int) (s : Int) row (n : Int) (wrap64 ((j : Int) + 1)) else (impl_listed.f k ((msk (fun a => F j a && !s.testBit a) n : Nat) : Int)).bind fun t => impl_table_countRows.l4 k (tabI n F) (tabW (2 ^ n) n (rwJ F n s j)) (s : Int) (wrap64 ((rwT F n s j : Nat) : Int)) ((2 ^ n : Nat) : Int) (s : Int) row (n : Int) (j : Int) t (t.length : Int) 0 := by
      intro k
      rw [impl_table_countRows.l3, if_pos (by omega), if_pos (by omega), if_pos (by omega), er, tabW_rd _ _ _ _ _ hs hj, rwJ_own, if_pos (show (j : Int) < ((tabI n F).length : Int) by rw [tabI_length]; omega), tabI_rd n F j hj, andNot_msk (F j) n s (by omega) (by omega)]
    refine Ev.step hl3 ?_
    by_cases hz : wrap64 ((rwT F n s j : Nat) : Int) = 0
    · refine Ev.ite_pos hz ?_
      rw [tabW_congr _ _ _ _ (fun t a _ _ => rwJ_skip F n s j t a hz), nat_succ j (by omega)]
      exact hnext
    · refine Ev.ite_neg hz ?_
      have h1 := impl_listed.msk (fun a => F j a && !s.testBit a) n (by omega)
      have hL : ∀ a ∈ (List.range n).filter (fun a => F j a && !s.testBit a), a < n := fun a ha => List.mem_range.1 (List.mem_filter.1 ha).1
      have hd : ((List.range n).filter (fun a => F j a && !s.testBit a)).Nodup := List.Pairwise.filter _ List.nodup_range
      refine Ev.bind h1 ?_
      have h2 := impl_table_countRows.l4_ok n hn (tabI n F) s j (rwT F n s j) hs row (n : Int) r _ hL hd 0 (Nat.zero_le _) (rwJ F n s j) (by
        rw [List.drop_zero, nat_succ j (by omega)]
        have e : tabW (2 ^ n) n (addL (rwJ F n s j) s (rwT F n s j) ((List.range n).filter fun a => F j a && !s.testBit a)) = tabW (2 ^ n) n (rwJ F n s (j + 1)) := by
          apply tabW_congr
          intro t a _ ha
          have := rwJ_next F n s j t a ((List.range n).filter fun a => F j a && !s.testBit a) (by
            intro x hx
            rw [List.mem_filter, List.mem_range, Bool.and_eq_true]
            simp [hx]) ha
          rcases this with h | h
          · unfold addL
            rw [h]
          · rw [h] at hz
            exact absurd wrap_zero hz
        rw [e]
        exact hnext)
      rw [ints_length]
      exact h2
/-- The round over all sets. -/
theorem impl_table_countRows.l2_ok (n : Nat) (hn : n ≤ 9) (F : Nat → Nat → Bool) : ∀ s, s ≤ 2 ^ n → Ev (fun k => impl_table_countRows.l2 k (tabI n F) (tabW (2 ^ n) n (rwK F n s)) ((2 ^ n : Nat) : Int) (s : Int)) ((List.range n).map fun a => wrap64 ((rwT F n (2 ^ n - 1) a : Nat) : Int)) := by
  have hp : 2 ^ n ≤ 512 := Nat.pow_le_pow_right (n := 2) (by omega) hn
  have hp0 := Nat.two_pow_pos n
  refine up_loop (P := fun s => Ev (fun k => impl_table_countRows.l2 k (tabI n F) (tabW (2 ^ n) n (rwK F n s)) ((2 ^ n : Nat) : Int) (s : Int)) ((List.range n).map fun a => wrap64 ((rwT F n (2 ^ n - 1) a : Nat) : Int))) ?_ ?_
  · refine Ev.step (f := fun _ => some ((List.range n).map fun a => wrap64 ((rwT F n (2 ^ n - 1) a : Nat) : Int))) (fun k => ?_) (Ev.now _)
    have ew : wrap64 (((tabW (2 ^ n) n (rwK F n (2 ^ n))).length : Int) - 1) = ((2 ^ n - 1 : Nat) : Int) := by rw [tabW_length, wrap_id (by omega) (by omega)]; omega
    have er : impl_table_countRows.rdR (tabW (2 ^ n) n (rwK F n (2 ^ n))) ((2 ^ n - 1 : Nat) : Int) = (tabW (2 ^ n) n (rwK F n (2 ^ n))).getD (2 ^ n - 1) [] := rfl
    rw [impl_table_countRows.l2, if_neg (by omega), ew, if_pos (by omega), if_pos (by rw [tabW_length]; omega), er, tabW_getD _ _ _ _ (by omega)]
    congr 1
    apply List.map_congr_left
    intro a ha
    have ha := List.mem_range.1 ha
    congr 2
    unfold rwK
    have hb : (2 ^ n - 1).testBit a = true := by rw [Nat.testBit_two_pow_sub_one]; simp [ha]
    rw [if_pos ⟨hb, .inl (Nat.lt_trans (remN_lt _ a hb) (by omega))⟩]
  · intro s hs hnext
    have er : impl_table_countRows.rdR (tabW (2 ^ n) n (rwK F n s)) (s : Int) = (tabW (2 ^ n) n (rwK F n s)).getD s [] := rfl
    have hl : ((tabW (2 ^ n) n (rwK F n s)).getD s []).length = n := by rw [tabW_getD _ _ _ _ hs]; simp
    have h3 := impl_table_countRows.l3_ok n hn F s hs _ hl _ (by
      have e : tabW (2 ^ n) n (rwJ F n s n) = tabW (2 ^ n) n (rwK F n (s + 1)) := tabW_congr _ _ _ _ (fun t a _ ha => by rw [rwJ_all F n s t a hs ha])
      rw [e, nat_succ s (by omega)]
      exact hnext) 0 (Nat.zero_le _)
    have e0 : tabW (2 ^ n) n (rwJ F n s 0) = tabW (2 ^ n) n (rwK F n s) := tabW_congr _ _ _ _ (fun t a _ _ => by rw [rwJ_zero F n s t a])
    rw [e0] at h3
    refine Ev.step (fun k => ?_) h3
    rw [impl_table_countRows.l2, if_pos (by omega), if_pos (by omega), if_pos (by rw [tabW_length]; omega), er, hl]
    rfl
/-- The round over the rows of one. -/
theorem impl_table_countRows.l1_ok (n : Nat) (hn : n ≤ 9) (F : Nat → Nat → Bool) : ∀ i, i ≤ n → Ev (fun k => impl_table_countRows.l1 k (tabI n F) (tabW (2 ^ n) n fun t a => if t = 2 ^ a ∧ a < i then 1 else 0) (ints (List.range n)) (n : Int) (i : Int)) ((List.range n).map fun a => wrap64 ((rwT F n (2 ^ n - 1) a : Nat) : Int)) := by
  have hp : 2 ^ n ≤ 512 := Nat.pow_le_pow_right (n := 2) (by omega) hn
  refine up_loop (P := fun i => Ev (fun k => impl_table_countRows.l1 k (tabI n F) (tabW (2 ^ n) n fun t a => if t = 2 ^ a ∧ a < i then 1 else 0) (ints (List.range n)) (n : Int) (i : Int)) ((List.range n).map fun a => wrap64 ((rwT F n (2 ^ n - 1) a : Nat) : Int))) ?_ ?_
  · have h := impl_table_countRows.l2_ok n hn F 0 (Nat.zero_le _)
    have e : tabW (2 ^ n) n (rwK F n 0) = tabW (2 ^ n) n (fun t a => if t = 2 ^ a ∧ a < n then 1 else 0) := by
      apply tabW_congr
      intro t a _ ha
      congr 2
      unfold rwK
      by_cases e : t = 2 ^ a
      · rw [if_pos ⟨by rw [e, Nat.testBit_two_pow]; simp, .inr e⟩, if_pos ⟨e, ha⟩, e, rwT_one F n a ha]
      · rw [if_neg (fun g => g.2.elim (fun h => Nat.not_lt_zero _ h) e), if_neg (fun g => e g.1)]
    rw [e] at h
    refine Ev.step (fun k => ?_) h
    rw [impl_table_countRows.l1, if_neg (by omega), tabW_length]
    rfl
  · intro i hi h
    have ht : 2 ^ i < 2 ^ n := Nat.pow_lt_pow_right (by omega) hi
    refine Ev.step (fun k => ?_) h
    have hrd : rd (ints (List.range n)) (i : Int) = ((i : Nat) : Int) := by rw [rd_ints _ i (by simpa using hi)]; simp
    have er : impl_table_countRows.rdR (tabW (2 ^ n) n fun t a => if t = 2 ^ a ∧ a < i then 1 else 0) ((2 ^ i : Nat) : Int) = (tabW (2 ^ n) n fun t a => if t = 2 ^ a ∧ a < i then 1 else 0).getD (2 ^ i) [] := rfl
    have eset := tabW_set (2 ^ n) n (fun t a => if t = 2 ^ a ∧ a < i then 1 else 0) (2 ^ i) i 1 ht
    rw [show wrap64 ((1 : Nat) : Int) = 1 from wrap_one] at eset
    have e2 : tabW (2 ^ n) n (updN (fun t a => if t = 2 ^ a ∧ a < i then 1 else 0) (2 ^ i) i 1) = tabW (2 ^ n) n (fun t a => if t = 2 ^ a ∧ a < i + 1 then 1 else 0) := by
      apply tabW_congr
      intro t a _ _
      congr 2
      show (if t = 2 ^ i ∧ a = i then 1 else if t = 2 ^ a ∧ a < i then 1 else 0) = if t = 2 ^ a ∧ a < i + 1 then 1 else 0
      by_cases e : a = i
      · subst e
        by_cases e3 : t = 2 ^ a
        · rw [if_pos ⟨e3, rfl⟩, if_pos ⟨e3, by omega⟩]
        · rw [if_neg (fun g => e3 g.1), if_neg (fun g => e3 g.1), if_neg (fun g => e3 g.1)]
      · rw [if_neg (fun g => e g.2)]
        by_cases e3 : t = 2 ^ a ∧ a < i
        · rw [if_pos e3, if_pos ⟨e3.1, by omega⟩]
        · rw [if_neg e3, if_neg (fun g => e3 ⟨g.1, by omega⟩)]
    rw [impl_table_countRows.l1, if_pos (by omega), if_pos (by omega), if_pos (by rw [ints_length]; simp; omega), hrd, if_pos (by omega), shl64_one i (by omega), if_pos (Int.natCast_nonneg _), if_pos (by rw [tabW_length]; omega), er, Int.toNat_natCast, Int.toNat_natCast, if_pos (by rw [tabW_getD _ _ _ _ ht]; simp; omega), eset, e2, nat_succ i (by omega)]
/-- The rows are made. -/
theorem impl_table_countRows.l0_ok (n : Nat) (hn : n ≤ 9) (F : Nat → Nat → Bool) : ∀ i, i ≤ 2 ^ n → Ev (fun k => impl_table_countRows.l0 k (tabI n F) ((msk (fun _ => true) n : Nat) : Int) ((List.range (2 ^ n)).map fun t => if t < i then List.replicate n 0 else []) ((2 ^ n : Nat) : Int) (i : Int)) ((List.range n).map fun a => wrap64 ((rwT F n (2 ^ n - 1) a : Nat) : Int)) := by
  have hp : 2 ^ n ≤ 512 := Nat.pow_le_pow_right (n := 2) (by omega) hn
  refine up_loop (P := fun i => Ev (fun k => impl_table_countRows.l0 k (tabI n F) ((msk (fun _ => true) n : Nat) : Int) ((List.range (2 ^ n)).map fun t => if t < i then List.replicate n 0 else []) ((2 ^ n : Nat) : Int) (i : Int)) ((List.range n).map fun a => wrap64 ((rwT F n (2 ^ n - 1) a : Nat) : Int))) ?_ ?_
  · have h := impl_table_countRows.l1_ok n hn F 0 (Nat.zero_le _)
    have e : tabW (2 ^ n) n (fun t a => if t = 2 ^ a ∧ a < 0 then 1 else 0) = (List.range (2 ^ n)).map fun t => if t < 2 ^ n then List.replicate n 0 else [] := by
      unfold tabW
      apply List.map_congr_left
      intro t ht
      rw [if_pos (List.mem_range.1 ht)]
      apply List.ext_getElem (by simp)
      intro a g1 g2
      simp only [List.getElem_map, List.getElem_replicate]
      rw [if_neg (fun g => Nat.not_lt_zero _ g.2)]
      exact wrap_zero
    rw [e] at h
    have h1 := impl_listed.msk (fun _ => true) n (by omega)
    rw [List.filter_eq_self.2 (fun _ _ => rfl)] at h1
    refine Ev.step (fun k => ?_) (Ev.bind h1 (f := fun k t => impl_table_countRows.l1 k (tabI n F) ((List.range (2 ^ n)).map fun t => if t < 2 ^ n then List.replicate n 0 else []) t (t.length : Int) 0) ?_)
    · rw [impl_table_countRows.l0, if_neg (by omega)]
    · rw [ints_length, List.length_range]
      exact h
  · intro i hi h
    refine Ev.step (fun k => ?_) h
    have eset : ((List.range (2 ^ n)).map fun t => if t < i then List.replicate n (0 : Int) else []).set i (List.replicate n 0) = (List.range (2 ^ n)).map fun t => if t < i + 1 then List.replicate n 0 else [] := by
      apply List.ext_getElem (by simp)
      intro t g1 g2
      by_cases e : i = t
      · subst e
        simp
      · rw [List.getElem_set_ne e]
        simp only [List.getElem_map, List.getElem_range]
        by_cases e2 : t < i
        · rw [if_pos e2, if_pos (by omega)]
        · rw [if_neg e2, if_neg (by omega)]
    rw [impl_table_countRows.l0, if_pos (by omega), if_pos (by omega), if_pos (by rw [tabI_length]; omega), if_pos (by omega), if_pos (by rw [List.length_map, List.length_range]; omega), tabI_length, Int.toNat_natCast, Int.toNat_natCast, eset, nat_succ i (by omega)]
theorem impl_table_countRows.ok (n : Nat) (hn : n ≤ 9) (F : Nat → Nat → Bool) : Ev (fun k => impl_table_countRows.f k (tabI n F) ((msk (fun _ => true) n : Nat) : Int)) ((List.range n).map fun a => wrap64 ((rwT F n (2 ^ n - 1) a : Nat) : Int)) := by
  have hp : 2 ^ n ≤ 512 := Nat.pow_le_pow_right (n := 2) (by omega) hn
  unfold impl_table_countRows.f
  rw [tabI_length, shl64_one n (by omega)]
  refine Ev.ite_pos (Int.natCast_nonneg _) (Ev.ite_pos (by rw [Int.toNat_natCast]; omega) ?_)
  simp only [Option.bind_some]
  have h := impl_table_countRows.l0_ok n hn F 0 (Nat.zero_le _)
  have e : ((List.range (2 ^ n)).map fun t => if t < 0 then List.replicate n (0 : Int) else []) = List.replicate (((2 ^ n : Nat) : Int)).toNat [] := by
    rw [Int.toNat_natCast]
    apply List.ext_getElem (by simp)
    intro t g1 g2
    simp
  rw [e] at h
  rw [List.length_replicate, Int.toNat_natCast]
  rw [Int.toNat_natCast] at h
  exact h

-- countR
theorem sum_wrap : ∀ l : List Nat, wrap64 ((l.map fun x => wrap64 ((x : Nat) : Int)).sum) = wrap64 ((l.sum : Nat) : Int)
  | [] => rfl
  | x :: l => by
    have h := sum_wrap l
    rw [List.map_cons, List.sum_cons, List.sum_cons]
    unfold wrap64 at h ⊢
    omega
theorem impl_CountRows.ok (n : Int) (l : List S105) (hl : l.length ≤ 1048576) : Ev (fun k => impl_CountRows.f k n l) (countR n l) := by
  unfold impl_CountRows.f countR
  have h0 : Ev (fun k => impl_isSeated.f k n l) (goodB n l && decide (n ≤ 9)) := by
    unfold impl_isSeated.f
    refine Ev.bind (ev_of (l.length + 5) fun k hk => impl_IsParty.ok n l hl k (by omega)) ?_
    cases hg : goodB n l with
    | true => exact Ev.ite_pos rfl (Ev.now _)
    | false => exact Ev.ite_neg (by simp) (Ev.now _)
  refine Ev.bind h0 ?_
  by_cases hg : goodB n l = true
  · rw [if_pos hg, hg, Bool.true_and]
    by_cases h9 : n ≤ 9
    · rw [if_pos h9]
      refine Ev.ite_pos (by simp [h9]) ?_
      have hp := goodB_people hg
      have h66 := goodB_len66 hg
      by_cases hz : n = 0
      · subst hz
        rw [if_pos (by rfl), show wrap64 ((0 : Nat) : Int) = 0 from wrap_zero]
        exact Ev.ite_pos rfl (Ev.now _)
      · rw [if_neg (by omega)]
        refine Ev.ite_neg hz ?_
        have h1 := impl_Party_table.ok n.toNat (by omega) l (by omega) (goodB_pin hg)
        rw [Int.toNat_of_nonneg hp.1] at h1
        refine Ev.bind h1 ?_
        rw [impl_table_all.ok n.toNat (by omega)]
        simp only [Option.bind_some]
        refine Ev.bind (impl_table_countRows.ok n.toNat (by omega) (adj l)) ?_
        refine Ev.bind (impl_sum.ok _ (by simp; omega)) ?_
        have e : wrap64 (((List.range n.toNat).map fun a => wrap64 ((rwT (adj l) n.toNat (2 ^ n.toNat - 1) a : Nat) : Int)).sum) = wrap64 (((rwR (adj l) n.toNat (n.toNat - 1)).length : Nat) : Int) := by
          have h2 := sum_wrap ((List.range n.toNat).map fun a => rwT (adj l) n.toNat (2 ^ n.toNat - 1) a)
          rw [List.map_map] at h2
          have h3 := rwN_all (adj l) n.toNat (n.toNat - 1) (by omega)
          have hc : card n.toNat (fun i => (2 ^ n.toNat - 1).testBit i) = n.toNat := by
            unfold card
            rw [List.filter_eq_self.2 (fun a ha => by rw [Nat.testBit_two_pow_sub_one]; simpa using ha), List.length_range]
          rw [← h3]
          unfold rwT
          unfold rwT at h2
          rw [hc] at h2 ⊢
          exact h2
        rw [e]
        exact Ev.now _
    · rw [if_neg h9]
      exact Ev.ite_neg (by simp [h9]) (Ev.now _)
  · rw [if_neg hg]
    exact Ev.ite_neg (by simp [hg]) (Ev.now _)

end Go.Proofs.YtjpfbkkikcpmhaaDoor.PFnExactCountRows
namespace Go.Proofs.YtjpfbkkikcpmhaaDoor
open Go.RowKit Go.Proofs.YtjpfbkkikcpmhaaDoor.Base Go.Proofs.YtjpfbkkikcpmhaaDoor.PFnExactCountRows Go.Proofs.YtjpfbkkikcpmhaaDoorW.PrintWords Go.Proofs.YtjpfbkkikcpmhaaDoorW.PrintLast Go.Proofs.YtjpfbkkikcpmhaaDoorW.PrintMore
theorem fnExactCountRows_pure : fnExactCountRows.Pure := by
  intro n l hn hl
  refine Ev.rounds (g := fun k => laws_FnExactCountRows.f k n l) ?_
  unfold laws_FnExactCountRows.f
  rw [laws_szParty.ok n l _ (by omega) (by omega) hl.1]
  simp only [Option.bind_some]
  by_cases h0 : (1048576 : Int) - l.length < 0
  · rw [if_pos h0]
    exact Ev.ite_pos (by omega) (Ev.now _)
  · rw [if_neg h0]
    refine Ev.ite_neg (by omega) ?_
    have hlen : l.length ≤ 1048576 := by omega
    have hpl : (prs l).length ≤ 1048576 := by rw [prs_length]; exact hlen
    have ht : Ev (fun k => laws_toParty.f k n l) (n, prs l) := ev_of (l.length + 1) fun k hk => laws_toParty.ok n l hlen k (by omega)
    refine Ev.bind ht ?_
    refine Ev.bind (spec_CountRows.ok n (prs l)) ?_
    refine Ev.bind ht ?_
    refine Ev.bind (impl_CountRows.ok n (prs l) hpl) ?_
    refine Ev.ite_pos rfl (Ev.ite_neg (by simp) (Ev.bind ht ?_))
    refine Ev.bind (ev_of ((prs l).length + 1) fun k hk => laws_eqParty.refl n (prs l) hpl k (by omega)) ?_
    exact Ev.ite_pos rfl (Ev.now _)
theorem fnExactCountRows_holds : Rows.FnExactCountRowsCardSaid := fnExactCountRows.proved fnExactCountRows_pure
end Go.Proofs.YtjpfbkkikcpmhaaDoor
