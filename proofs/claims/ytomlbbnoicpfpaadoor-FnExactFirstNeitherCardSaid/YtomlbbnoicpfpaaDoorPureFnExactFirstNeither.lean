/- FnExactFirstNeither: whatever the people and the sizes, the program's first party that has neither is the reference's, it is told alike a second time, and what is told later does not stand in what was told before. Condition: the table of math/bits lies as its initialiser lays it (the card's own). -/
import Derived.Test.YtomlbbnoicpfpaaDoorLawFnExactFirstNeither
import Derived.Test.YtomlbbnoicpfpaaDoorPBase
import Derived.Test.YtomlbbnoicpfpaaDoorGraph
set_option linter.unusedVariables false
set_option linter.unusedSimpArgs false
namespace Go.Proofs.YtomlbbnoicpfpaaDoor.PFnExactFirstNeither
open Go.RowKit Go.Proofs.YtomlbbnoicpfpaaDoor.Base Go.Proofs.YtomlbbnoicpfpaaDoor.PFnExactFirstNeither Go.Proofs.YtomlbbnoicpfpaaDoorW.PrintWords Go.Proofs.YtomlbbnoicpfpaaDoorW.PrintLast Go.Proofs.YtomlbbnoicpfpaaDoorW.PrintMore
theorem laws_eqPairS.refl (l : List S89) (hl : l.length ≤ 1048576) (k : Nat) (hk : l.length < k) : laws_eqPairS.f k l l = some true := by
  unfold laws_eqPairS.f
  rw [if_pos rfl]
  rw [all_loop (fun k i => laws_eqPairS.l0 k l l i) l.length (fun _ => true) (by omega) 0 ?_ ?_ k hk]
  · simp
  · intro k i h _
    simp only [laws_eqPairS.l0, laws_eqPair.f]
    rw [if_pos (by omega), if_pos (by omega), if_pos (by omega)]
    simp
  · intro k
    simp only [laws_eqPairS.l0]
    rw [if_neg (by omega)]

theorem laws_eqParty.refl (n : Int) (l : List S89) (hl : l.length ≤ 1048576) (k : Nat) (hk : l.length < k) : laws_eqParty.f k n l n l = some true := by
  unfold laws_eqParty.f
  rw [if_pos rfl, laws_eqPairS.refl l hl k hk]; rfl

theorem spec_l1In.ok (n lo hi : Int) : spec_l1In.f n lo hi = some (decide (lo ≤ n ∧ n ≤ hi)) := by
  unfold spec_l1In.f
  by_cases h : lo ≤ n <;> simp [h]

def sides (r s : Int) : Bool := decide (1 ≤ r ∧ r ≤ 4) && decide (1 ≤ s ∧ s ≤ 4)
theorem spec_trKinds.ok (r s : Int) : spec_trKinds.f r s = some (sides r s) := by
  unfold spec_trKinds.f sides
  simp only [spec_l1In.ok, Option.bind_some]
  by_cases h : 1 ≤ r ∧ r ≤ 4
  · rw [if_pos (by simpa using h), decide_eq_true h]; simp
  · rw [if_neg (by simpa using h), decide_eq_false h]; simp

theorem rd_T89_nat (l : List S89) (i : Nat) (h : i < l.length) : rd_T89 l (i : Int) = l[i] := by simp [rd_T89, List.getD, h]
theorem rdL_tabB (n : Nat) (F : Nat → Nat → Bool) (a : Nat) (h : a < n) : rd_L3 (tabB n F) (a : Int) = (List.range n).map (F a) := by
  simp only [rd_L3, Int.toNat_natCast]
  exact tabB_getD n F a h
/-- Two people are friends. -/
def adj (l : List S89) (a b : Nat) : Bool := l.any fun x => decide (x.f0.toNat = a ∧ x.f1.toNat = b ∨ x.f1.toNat = a ∧ x.f0.toNat = b)
theorem adj_symm (l : List S89) (a b : Nat) : adj l a b = adj l b a := by
  unfold adj
  congr 1
  funext x
  rw [decide_eq_decide]
  constructor <;> intro h <;> omega
/-- All pairs are of people below n. -/
def pin (n : Nat) (l : List S89) : Prop := ∀ x ∈ l, 0 ≤ x.f0 ∧ x.f0 < n ∧ 0 ≤ x.f1 ∧ x.f1 < n
-- pairnat
theorem adj_take (l : List S89) (i : Nat) (hi : i < l.length) : adj (l.take (i + 1)) = upd (upd (adj (l.take i)) l[i].f0.toNat l[i].f1.toNat true) l[i].f1.toNat l[i].f0.toNat true := by
  funext x y
  unfold adj upd
  rw [List.take_succ_eq_append_getElem hi, List.any_append]
  simp only [List.any_cons, List.any_nil, Bool.or_false]
  by_cases h1 : x = l[i].f1.toNat ∧ y = l[i].f0.toNat
  · rw [if_pos h1, decide_eq_true (by omega), Bool.or_true]
  · by_cases h2 : x = l[i].f0.toNat ∧ y = l[i].f1.toNat
    · rw [if_neg h1, if_pos h2, decide_eq_true (by omega), Bool.or_true]
    · rw [if_neg h1, if_neg h2, decide_eq_false (by omega), Bool.or_false]
theorem tabB_none (n : Nat) : List.replicate n (List.replicate n false) = tabB n (adj []) := by
  apply List.ext_getElem (by simp [tabB])
  intro i h1 h2
  simp only [List.getElem_replicate, tabB, List.getElem_map]
  apply List.ext_getElem (by simp)
  intro j g1 g2
  simp [adj]
theorem spec_paTable.ok (n : Nat) (hn : n ≤ 12) (l : List S89) (hl : l.length ≤ 1048576) (hp : pin n l) : Ev (fun k => spec_paTable.f k (n : Int) l) (tabB n (adj l)) := by
  have h1 : Ev (fun k => spec_paTable.l1 k (tabB n (adj (l.take 0))) l (l.length : Int) ((0 : Nat) : Int)) (tabB n (adj l)) := by
    refine up_loop (P := fun i => Ev (fun k => spec_paTable.l1 k (tabB n (adj (l.take i))) l (l.length : Int) (i : Int)) (tabB n (adj l))) (n := l.length) ?_ ?_ 0 (Nat.zero_le _)
    · refine Ev.step (f := fun _ => some (tabB n (adj l))) (fun k => ?_) (Ev.now _)
      simp only [spec_paTable.l1]
      rw [if_neg (by omega), List.take_length]
    · intro i hi h
      refine Ev.step (fun k => ?_) h
      obtain ⟨q0, q1, q2, q3⟩ := hp l[i] (List.getElem_mem hi)
      obtain ⟨a, ea⟩ := Int.eq_ofNat_of_zero_le q0
      obtain ⟨b, eb⟩ := Int.eq_ofNat_of_zero_le q2
      have ha : a < n := by omega
      have hb : b < n := by omega
      simp only [spec_paTable.l1, Option.bind_some]
      rw [if_pos (by omega), if_pos (by omega), if_pos (by omega), rd_T89_nat l i hi, ea, eb, rdL_tabB n _ a ha, if_pos (by omega), if_pos (by rw [tabB_length]; omega), if_pos (by omega), if_pos (by simp; omega), if_pos (by rw [tabB_length]; omega)]
      simp only [Int.toNat_natCast]
      rw [tabB_set n _ a b true ha, rdL_tabB n _ b hb, if_pos (by simp; omega), tabB_set n _ b a true hb, nat_succ i (by omega), adj_take l i hi, ea, eb]
      simp only [Int.toNat_natCast]
  unfold spec_paTable.f
  have h0 := up_loop (P := fun i => Ev (fun k => spec_paTable.l0 k (List.replicate i (List.replicate n false)) (i : Int) (n : Int) l) (tabB n (adj l))) (n := n) (by
      refine Ev.step (fun k => ?_) h1
      simp only [spec_paTable.l0]
      rw [if_neg (by omega), tabB_none]
      rfl) (by
      intro i hi h
      refine Ev.step (fun k => ?_) h
      simp only [spec_paTable.l0]
      rw [if_pos (by omega), if_pos (by omega), if_pos (by omega), if_pos (by simp; omega), nat_succ i (by omega), List.replicate_succ']
      rfl) 0 (Nat.zero_le _)
  exact h0

/-- The pairs of person a with those from i on. -/
def inn (n : Nat) (F : Nat → Nat → Bool) (a i : Nat) : List S89 := ((List.range' i (n - i)).filter (F a)).map fun (b : Nat) => ⟨(a : Int), (b : Int)⟩
def outr (n : Nat) (F : Nat → Nat → Bool) (a : Nat) : List S89 := (List.range' a (n - a)).flatMap fun x => inn n F x (x + 1)
theorem spec_paOf.ok (n : Nat) (hn : n ≤ 12) (F : Nat → Nat → Bool) : Ev (fun k => spec_paOf.f k (tabB n F)) ((n : Int), outr n F 0) := by
  have key := up_loop (P := fun a => ∀ acc : List S89, acc.length ≤ 12 * a → Ev (fun k => spec_paOf.l0 k (tabB n F) (n : Int) (a : Int) (n : Int) acc) ((n : Int), acc ++ outr n F a)) (n := n) (by
      intro acc _
      refine Ev.step (f := fun _ => some ((n : Int), acc)) (fun k => ?_) (by simpa [outr] using Ev.now ((n : Int), acc))
      simp only [spec_paOf.l0]
      rw [if_neg (by omega)]) (by
      intro a ha h acc hacc
      have inner := up_loop (P := fun i => a < i → ∀ acc : List S89, acc.length ≤ 12 * a + i → Ev (fun k => spec_paOf.l1 k (tabB n F) (a : Int) (i : Int) (n : Int) (a : Int) (n : Int) acc) ((n : Int), acc ++ (inn n F a i ++ outr n F (a + 1)))) (n := n) (by
          intro _ acc hacc
          have h9 := h acc (by omega)
          have e9 : inn n F a n = [] := by simp [inn]
          rw [e9, List.nil_append]
          refine Ev.step (fun k => ?_) h9
          simp only [spec_paOf.l1]
          rw [if_neg (by rw [tabB_length]; omega), nat_succ a (by omega)]) (by
          intro i hi h hai acc hacc
          have e0 : inn n F a i = (if F a i = true then [(⟨(a : Int), (i : Int)⟩ : S89)] else []) ++ inn n F a (i + 1) := by
            unfold inn
            rw [range'_cons i n hi]
            cases hF : F a i with
            | true => rw [List.filter_cons_of_pos hF]; simp
            | false => rw [List.filter_cons_of_neg (by simp [hF])]; simp
          rw [e0]
          cases hF : F a i with
          | true =>
            have h2 := h (by omega) (acc ++ [(⟨(a : Int), (i : Int)⟩ : S89)]) (by simp; omega)
            refine Ev.step (fun k => ?_) (by simpa using h2)
            simp only [spec_paOf.l1]
            rw [if_pos (by rw [tabB_length]; omega), if_pos (by omega), if_pos (by rw [tabB_length]; omega), if_pos (by omega), rdL_tabB n F a ha, if_pos (by simp; omega), row_get n _ i hi, hF, if_pos rfl, if_pos (by omega), nat_succ i (by omega)]
            rfl
          | false =>
            have h2 := h (by omega) acc (by omega)
            refine Ev.step (fun k => ?_) (by simpa using h2)
            simp only [spec_paOf.l1]
            rw [if_pos (by rw [tabB_length]; omega), if_pos (by omega), if_pos (by rw [tabB_length]; omega), if_pos (by omega), rdL_tabB n F a ha, if_pos (by simp; omega), row_get n _ i hi, hF, if_neg (by simp), nat_succ i (by omega)]
            rfl)
      have h3 := inner (a + 1) (by omega) (by omega) acc (by omega)
      have e1 : outr n F a = inn n F a (a + 1) ++ outr n F (a + 1) := by
        unfold outr
        rw [range'_cons a n ha, List.flatMap_cons]
      rw [e1]
      refine Ev.step (fun k => ?_) h3
      simp only [spec_paOf.l0]
      rw [if_pos (by omega), nat_succ a (by omega)])
  have h0 := key 0 (Nat.zero_le _) [] (by simp)
  rw [List.nil_append] at h0
  unfold spec_paOf.f
  rw [tabB_length]
  exact h0
theorem outr_mem (n : Nat) (F : Nat → Nat → Bool) (x : S89) : x ∈ outr n F 0 ↔ ∃ a b : Nat, x = ⟨(a : Int), (b : Int)⟩ ∧ a < b ∧ b < n ∧ F a b = true := by
  unfold outr inn
  simp only [List.mem_flatMap, List.mem_range'_1, List.mem_map, List.mem_filter]
  constructor
  · rintro ⟨a, ⟨_, h1⟩, b, ⟨⟨h2, h3⟩, h4⟩, rfl⟩
    exact ⟨a, b, rfl, by omega, by omega, h4⟩
  · rintro ⟨a, b, rfl, h1, h2, h3⟩
    exact ⟨a, ⟨by omega, by omega⟩, b, ⟨⟨by omega, by omega⟩, h3⟩, rfl⟩
theorem outr_pin (n : Nat) (F : Nat → Nat → Bool) : pin n (outr n F 0) := by
  intro x hx
  obtain ⟨a, b, rfl, h1, h2, _⟩ := (outr_mem n F x).1 hx
  simp only
  omega
theorem outr_adj (n : Nat) (F : Nat → Nat → Bool) (a b : Nat) (h : a < b) (hb : b < n) : adj (outr n F 0) a b = F a b := by
  unfold adj
  rw [Bool.eq_iff_iff, List.any_eq_true]
  constructor
  · rintro ⟨x, hx, hd⟩
    obtain ⟨u, v, rfl, h1, h2, h3⟩ := (outr_mem n F x).1 hx
    simp only [Int.toNat_natCast, decide_eq_true_eq] at hd
    rcases hd with ⟨rfl, rfl⟩ | ⟨rfl, rfl⟩
    · exact h3
    · omega
  · intro hF
    exact ⟨⟨(a : Int), (b : Int)⟩, (outr_mem n F _).2 ⟨a, b, rfl, h, hb, hF⟩, by simp⟩
theorem outr_len (n : Nat) (hn : n ≤ 12) (F : Nat → Nat → Bool) : (outr n F 0).length ≤ 144 := by
  unfold outr
  rw [List.length_flatMap]
  have h1 : ∀ x, (inn n F x (x + 1)).length ≤ 12 := by
    intro x
    unfold inn
    rw [List.length_map]
    refine Nat.le_trans (List.length_filter_le _ _) ?_
    rw [List.length_range']
    omega
  have h2 : ∀ l : List Nat, (l.map fun x => (inn n F x (x + 1)).length).sum ≤ 12 * l.length := by
    intro l
    induction l with
    | nil => simp
    | cons a l ih =>
      simp only [List.map_cons, List.sum_cons, List.length_cons]
      have := h1 a
      omega
  have := h2 (List.range' 0 (n - 0))
  rw [List.length_range'] at this
  omega

theorem tabB_congr (n : Nat) (F G : Nat → Nat → Bool) (h : ∀ x y, x < n → y < n → F x y = G x y) : tabB n F = tabB n G := by
  unfold tabB
  apply List.map_congr_left
  intro a ha
  apply List.map_congr_left
  intro b hb
  exact h a b (List.mem_range.1 ha) (List.mem_range.1 hb)
/-- The entries ahead of a place are turned. -/
def tog (F : Nat → Nat → Bool) (a i : Nat) : Nat → Nat → Bool := fun x y => if x < a ∨ x = a ∧ y < i then !F x y else F x y
def neg (F : Nat → Nat → Bool) : Nat → Nat → Bool := fun x y => !F x y
theorem tog_upd (F : Nat → Nat → Bool) (a i : Nat) : upd (tog F a i) a i (!F a i) = tog F a (i + 1) := by
  funext x y
  unfold upd tog
  by_cases h : x = a ∧ y = i
  · rw [if_pos h, if_pos (by omega), h.1, h.2]
  · rw [if_neg h]
    by_cases h2 : x < a ∨ x = a ∧ y < i
    · rw [if_pos h2, if_pos (by omega)]
    · rw [if_neg h2, if_neg (by omega)]
theorem spec_paOther.ok (n : Nat) (hn : n ≤ 12) (l : List S89) (hl : l.length ≤ 1048576) (hp : pin n l) : Ev (fun k => spec_paOther.f k (n : Int) l) ((n : Int), outr n (neg (adj l)) 0) := by
  unfold spec_paOther.f
  refine Ev.bind (spec_paTable.ok n hn l hl hp) ?_
  generalize adj l = F
  rw [tabB_length]
  have key := up_loop (P := fun a => Ev (fun k => spec_paOther.l0 k (tabB n (tog F a 0)) (n : Int) (a : Int)) ((n : Int), outr n (neg F) 0)) (n := n) (by
      have e : tabB n (tog F n 0) = tabB n (neg F) := tabB_congr n _ _ fun x y hx _ => by
        unfold tog neg
        rw [if_pos (.inl hx)]
      rw [e]
      refine Ev.step (fun k => ?_) (Ev.bind (spec_paOf.ok n hn (neg F)) (f := fun _ bt174 => some (bt174.1, bt174.2)) (Ev.now _))
      simp only [spec_paOther.l0]
      rw [if_neg (by omega)]) (by
      intro a ha h
      have inner := up_loop (P := fun i => Ev (fun k => spec_paOther.l1 k (tabB n (tog F a i)) (a : Int) (n : Int) (a : Int) (n : Int) (i : Int)) ((n : Int), outr n (neg F) 0)) (n := n) (by
          have e : tabB n (tog F a n) = tabB n (tog F (a + 1) 0) := tabB_congr n _ _ fun x y _ hy => by
            unfold tog
            by_cases h1 : x < a ∨ x = a ∧ y < n
            · rw [if_pos h1, if_pos (by omega)]
            · rw [if_neg h1, if_neg (by omega)]
          rw [e]
          refine Ev.step (fun k => ?_) h
          simp only [spec_paOther.l1]
          rw [if_neg (by omega), nat_succ a (by omega)]) (by
          intro i hi h
          refine Ev.step (fun k => ?_) h
          have e2 : tog F a i a i = F a i := by
            unfold tog
            rw [if_neg (by omega)]
          simp only [spec_paOther.l1]
          rw [if_pos (by omega), if_pos (by omega), if_pos (by rw [tabB_length]; omega), if_pos (by omega), rdL_tabB n _ a ha, if_pos (by simp; omega), row_get n _ i hi, e2]
          simp only [Int.toNat_natCast]
          rw [tabB_set n _ a i _ ha, tog_upd, nat_succ i (by omega)]) 0 (Nat.zero_le _)
      refine Ev.step (fun k => ?_) inner
      simp only [spec_paOther.l0]
      rw [if_pos (by omega), tabB_length]
      rfl) 0 (Nat.zero_le _)
  have e : tabB n F = tabB n (tog F 0 0) := tabB_congr n _ _ fun x y _ _ => by
    unfold tog
    rw [if_neg (by omega)]
  rw [e]
  exact key

theorem spec_l1Own.ok (l : List Int) (h : l.length < 17592186044416) : spec_l1Own.f l = some l := by
  unfold spec_l1Own.f
  simp only [Option.bind_some, List.nil_append]
  rw [if_pos (by simpa using h)]

def ints (bs : List Nat) : List Int := bs.map fun (b : Nat) => (b : Int)
theorem ints_length (bs : List Nat) : (ints bs).length = bs.length := by simp [ints]
theorem rd_ints (bs : List Nat) (i : Nat) (h : i < bs.length) : rd (ints bs) (i : Int) = ((bs[i] : Nat) : Int) := by simp [rd, ints, List.getD, h]
/-- x is a friend of all of some people. -/
def know (F : Nat → Nat → Bool) (bs : List Nat) (x : Nat) : Bool := bs.all (F x)
theorem spec_trKnows.ok (n : Nat) (_hn : n ≤ 12) (F : Nat → Nat → Bool) (bs : List Nat) (a : Nat) (ha : a < n) (hb : ∀ b ∈ bs, b < n) (hl : bs.length ≤ 1048576) : Ev (fun k => spec_trKnows.f k (tabB n F) (ints bs) (a : Int)) (know F bs a) := by
  unfold spec_trKnows.f know
  rw [ints_length]
  refine up_loop (P := fun i => Ev (fun k => spec_trKnows.l0 k (tabB n F) (a : Int) (ints bs) (bs.length : Int) (i : Int)) ((bs.drop i).all (F a))) (n := bs.length) ?_ ?_ 0 (Nat.zero_le _)
  · refine Ev.step (f := fun _ => some true) (fun k => ?_) (by rw [List.drop_length]; exact Ev.now _)
    simp only [spec_trKnows.l0]
    rw [if_neg (by omega)]
  · intro i hi h
    have e : (bs.drop i).all (F a) = (F a bs[i] && (bs.drop (i + 1)).all (F a)) := by rw [List.drop_eq_getElem_cons hi]; rfl
    have hbi := hb bs[i] (List.getElem_mem hi)
    rw [e]
    cases hF : F a bs[i] with
    | false =>
      rw [Bool.false_and]
      refine Ev.step (f := fun _ => some false) (fun k => ?_) (Ev.now _)
      simp only [spec_trKnows.l0]
      rw [if_pos (by omega), if_pos (by omega), if_pos (by rw [ints_length]; omega), if_pos (by omega), if_pos (by rw [tabB_length]; omega), rd_ints bs i hi, if_pos (by omega), rdL_tabB n F a ha, if_pos (by simp; omega), row_get n _ _ hbi, hF, if_neg (by simp)]
    | true =>
      rw [Bool.true_and]
      refine Ev.step (fun k => ?_) h
      simp only [spec_trKnows.l0]
      rw [if_pos (by omega), if_pos (by omega), if_pos (by rw [ints_length]; omega), if_pos (by omega), if_pos (by rw [tabB_length]; omega), rd_ints bs i hi, if_pos (by omega), rdL_tabB n F a ha, if_pos (by simp; omega), row_get n _ _ hbi, hF, if_pos rfl, nat_succ i (by omega)]

theorem spec_trGroups.ok (n : Nat) (hn : n ≤ 12) (F : Nat → Nat → Bool) (hF : ∀ a b, F a b = F b a) : ∀ (d : Nat), d ≤ 5 → ∀ (bs : List Nat) (fr : Nat) (size : Nat), size = bs.length + d → bs.length + d ≤ 1000 → fr ≤ n → (∀ b ∈ bs, b < n) → ((bs = [] ∧ fr = 0) ∨ (0 < bs.length ∧ fr = bs.getD (bs.length - 1) 0 + 1)) →
    ∃ out, Ev (fun k => spec_trGroups.f k (tabB n F) (ints bs) (size : Int)) out ∧ (out.length = 0 ↔ cl F d ((List.range' fr (n - fr)).filter (know F bs)) = false) ∧ out.length ≤ 12 ^ d := by
  intro d
  induction d with
  | zero =>
    intro _ bs fr size hs hl _ _ _
    refine ⟨[ints bs], ?_, by simp [cl], by simp⟩
    refine Ev.step (f := fun _ => some [ints bs]) (fun k => ?_) (Ev.now _)
    simp only [spec_trGroups.f]
    rw [if_pos (by rw [ints_length]; omega), spec_l1Own.ok _ (by rw [ints_length]; omega)]
    rfl
  | succ d ih =>
    intro hd bs fr size hs hl hfn hb hfr
    have hX : 12 ^ d ≤ 12 ^ 4 := Nat.pow_le_pow_right (by omega) (by omega)
    have hX2 : (12 : Nat) ^ 4 = 20736 := rfl
    have loop := up_loop (P := fun i => fr ≤ i → ∀ acc : List (List Int), acc.length ≤ i * 12 ^ d → ∃ out, Ev (fun k => spec_trGroups.l0 k (tabB n F) (ints bs) (size : Int) acc (i : Int)) (acc ++ out) ∧ (out.length = 0 ↔ clGo F (cl F d) ((List.range' i (n - i)).filter (know F bs)) = false) ∧ out.length ≤ (n - i) * 12 ^ d) (n := n) (by
        intro _ acc _
        refine ⟨[], ?_, by simp [clGo], by simp⟩
        rw [List.append_nil]
        refine Ev.step (f := fun _ => some acc) (fun k => ?_) (Ev.now _)
        simp only [spec_trGroups.l0]
        rw [if_neg (by rw [tabB_length]; omega)]) (by
        intro i hi h hfi acc hacc
        have hk := spec_trKnows.ok n hn F bs i hi hb (by omega)
        have hXi : (i + 1) * 12 ^ d = i * 12 ^ d + 12 ^ d := Nat.succ_mul _ _
        have hXn : (n - i) * 12 ^ d = (n - (i + 1)) * 12 ^ d + 12 ^ d := by rw [show n - i = (n - (i + 1)) + 1 from by omega, Nat.succ_mul]
        have hXb : i * 12 ^ d ≤ 12 * 12 ^ d := Nat.mul_le_mul_right _ (by omega)
        rw [range'_cons i n hi]
        cases hki : know F bs i with
        | false =>
          obtain ⟨out, o1, o2, o3⟩ := h (by omega) acc (by omega)
          refine ⟨out, ?_, ?_, by omega⟩
          · refine Ev.step (fun k => ?_) (Ev.bind hk (f := fun k t149 => if t149 = true then ((spec_l1Own.f (ints bs)).bind fun t150 => (if t150.length < 17592186044416 then ((spec_trGroups.f k (tabB n F) (t150 ++ [(i : Int)]) (size : Int)).bind fun t156 => (if acc.length + t156.length < 5864062014805 then (spec_trGroups.l0 k (tabB n F) (ints bs) (size : Int) (acc ++ t156) (wrap64 ((i : Int) + 1))) else (none))) else (none))) else (spec_trGroups.l0 k (tabB n F) (ints bs) (size : Int) acc (wrap64 ((i : Int) + 1)))) ?_)
            · simp only [spec_trGroups.l0]
              rw [if_pos (by rw [tabB_length]; omega)]
            · rw [hki]
              refine Ev.ite_neg (by simp) ?_
              rw [nat_succ i (by omega)]
              exact o1
          · rw [List.filter_cons_of_neg (by simp [hki])]
            exact o2
        | true =>
          obtain ⟨oa, a1, a2, a3⟩ := ih (by omega) (bs ++ [i]) (i + 1) size (by simp; omega) (by simp; omega) (by omega) (by
            intro b hbm
            rcases List.mem_append.1 hbm with h | h
            · exact hb b h
            · obtain rfl := List.mem_singleton.1 h
              exact hi) (.inr ⟨by simp, by simp [List.getD]⟩)
          obtain ⟨out, o1, o2, o3⟩ := h (by omega) (acc ++ oa) (by rw [List.length_append]; omega)
          refine ⟨oa ++ out, ?_, ?_, by rw [List.length_append]; omega⟩
          · refine Ev.step (fun k => ?_) (Ev.bind hk (f := fun k t149 => if t149 = true then ((spec_l1Own.f (ints bs)).bind fun t150 => (if t150.length < 17592186044416 then ((spec_trGroups.f k (tabB n F) (t150 ++ [(i : Int)]) (size : Int)).bind fun t156 => (if acc.length + t156.length < 5864062014805 then (spec_trGroups.l0 k (tabB n F) (ints bs) (size : Int) (acc ++ t156) (wrap64 ((i : Int) + 1))) else (none))) else (none))) else (spec_trGroups.l0 k (tabB n F) (ints bs) (size : Int) acc (wrap64 ((i : Int) + 1)))) ?_)
            · simp only [spec_trGroups.l0]
              rw [if_pos (by rw [tabB_length]; omega)]
            · rw [hki, spec_l1Own.ok _ (by rw [ints_length]; omega)]
              refine Ev.ite_pos rfl ?_
              simp only [Option.bind_some]
              refine Ev.ite_pos (by rw [ints_length]; omega) ?_
              have e : ints bs ++ [(i : Int)] = ints (bs ++ [i]) := by simp [ints]
              rw [e]
              refine Ev.bind a1 ?_
              refine Ev.ite_pos (by omega) ?_
              rw [nat_succ i (by omega), ← List.append_assoc]
              exact o1
          · rw [List.filter_cons_of_pos hki, List.length_append]
            have e : (List.range' (i + 1) (n - (i + 1))).filter (know F (bs ++ [i])) = ((List.range' (i + 1) (n - (i + 1))).filter (know F bs)).filter (F i) := by
              rw [List.filter_filter]
              apply List.filter_congr
              intro x _
              simp only [know, List.all_append, List.all_cons, List.all_nil, Bool.and_true]
              rw [hF x i, Bool.and_comm]
            rw [e] at a2
            simp only [clGo, Bool.or_eq_false_iff]
            rw [← a2, ← o2]
            omega)
    obtain ⟨out, o1, o2, o3⟩ := loop fr hfn (Nat.le_refl _) [] (by simp)
    refine ⟨out, ?_, o2, ?_⟩
    · rw [List.nil_append] at o1
      have hj : Ev (fun k => spec_trGroups.j0 k (tabB n F) (ints bs) (size : Int) (fr : Int)) out := by
        refine Ev.step (fun k => ?_) o1
        simp only [spec_trGroups.j0]
      refine Ev.step (fun k => ?_) hj
      simp only [spec_trGroups.f]
      rw [if_neg (by rw [ints_length]; omega)]
      rcases hfr with ⟨rfl, rfl⟩ | ⟨h0, h1⟩
      · rw [if_neg (by simp [ints])]; rfl
      · have e1 : wrap64 (((ints bs).length : Int) - 1) = ((bs.length - 1 : Nat) : Int) := by rw [ints_length, wrap_id (by omega) (by omega)]; omega
        have e2 : bs.getD (bs.length - 1) 0 = bs[bs.length - 1] := by rw [List.getD, List.getElem?_eq_getElem (by omega)]; rfl
        have e3 := hb bs[bs.length - 1] (List.getElem_mem (by omega))
        rw [if_pos (by rw [ints_length]; omega), e1, if_pos (by omega), if_pos (by rw [ints_length]; omega), rd_ints bs _ (by omega), nat_succ _ (by omega), h1, e2]
    · have : (n - fr) * 12 ^ d ≤ 12 * 12 ^ d := Nat.mul_le_mul_right _ (by omega)
      rw [Nat.pow_succ, Nat.mul_comm (12 ^ d) 12]
      omega
/-- From nobody on. -/
theorem spec_trGroups.all (n : Nat) (hn : n ≤ 12) (F : Nat → Nat → Bool) (hF : ∀ a b, F a b = F b a) (d : Nat) (hd : d ≤ 5) : ∃ out, Ev (fun k => spec_trGroups.f k (tabB n F) ([] : List Int) (d : Int)) out ∧ (out.length = 0 ↔ cl F d (List.range n) = false) := by
  obtain ⟨out, h1, h2, _⟩ := spec_trGroups.ok n hn F hF d hd [] 0 d (by simp) (by simp; omega) (by omega) (by simp) (.inl ⟨rfl, rfl⟩)
  refine ⟨out, h1, ?_⟩
  have e : (List.range' 0 (n - 0)).filter (know F []) = List.range n := by
    rw [Nat.sub_zero, List.range_eq_range', List.filter_eq_self]
    intro a _; rfl
  rw [e] at h2
  exact h2

theorem spec_trNeither.ok (n : Nat) (hn : n ≤ 12) (l : List S89) (hl : l.length ≤ 1048576) (hp : pin n l) (r s : Nat) (hr : r ≤ 5) (hs : s ≤ 5) : Ev (fun k => spec_trNeither.f k (n : Int) l (r : Int) (s : Int)) (!cl (adj l) r (List.range n) && !cl (oth (adj l)) s (List.range n)) := by
  unfold spec_trNeither.f
  refine Ev.bind (spec_paTable.ok n hn l hl hp) ?_
  obtain ⟨o1, h1, g1⟩ := spec_trGroups.all n hn (adj l) (adj_symm l) r hr
  refine Ev.bind h1 ?_
  cases hc : cl (adj l) r (List.range n) with
  | true =>
    refine Ev.ite_neg (fun h => ?_) (Ev.now _)
    have := g1.1 (by omega)
    rw [hc] at this; cases this
  | false =>
    refine Ev.ite_pos (by have := g1.2 hc; omega) ?_
    refine Ev.bind (spec_paOther.ok n hn l hl hp) ?_
    have hp2 := outr_pin n (neg (adj l))
    have hl2 := outr_len n hn (neg (adj l))
    refine Ev.bind (spec_paTable.ok n hn (outr n (neg (adj l)) 0) (by omega) hp2) ?_
    obtain ⟨o2, h2, g2⟩ := spec_trGroups.all n hn (adj (outr n (neg (adj l)) 0)) (adj_symm _) s hs
    refine Ev.bind h2 ?_
    have e : cl (adj (outr n (neg (adj l)) 0)) s (List.range n) = cl (oth (adj l)) s (List.range n) := by
      refine cl_congr _ _ s _ (range_lt n) ?_
      intro a b _ hb hab
      rw [outr_adj n _ a b hab (List.mem_range.1 hb)]
      have : (b != a) = true := by simp; omega
      simp [neg, oth, this]
    rw [e] at g2
    have e3 : (((o2.length : Int) == 0)) = !cl (oth (adj l)) s (List.range n) := by
      rw [Bool.eq_iff_iff, beq_iff_eq, Bool.not_eq_true']
      rw [← g2]
      omega
    rw [e3]
    simpa using Ev.now (!cl (oth (adj l)) s (List.range n))

/-- Two people are of one kind. -/
def rel (F : Nat → Nat → Bool) (f : Bool) : Nat → Nat → Bool := fun a b => F b a == f
theorem spec_trMade.ok (n : Nat) (hn : n ≤ 12) (F : Nat → Nat → Bool) (f : Bool) : ∀ (m : Nat) (those bs : List Nat), m ≤ 12 → those.length ≤ 1000 → bs.length + m ≤ 1000 → (∀ b ∈ those, b < n) → (∀ b ∈ bs, b < n) →
    Ev (fun k => spec_trMade.f k (tabB n F) (ints those) (ints bs) (m : Int) f) (cl (rel F f) m (those.filter fun x => bs.all fun y => F x y == f)) := by
  intro m
  induction m with
  | zero =>
    intro those bs _ _ _ _ _
    refine Ev.step (f := fun _ => some true) (fun k => ?_) (Ev.now _)
    rw [spec_trMade.f, if_pos (by omega)]
  | succ m ih =>
    intro those bs hm ht hb htn hbn
    have loop := up_loop (P := fun i => Ev (fun k => spec_trMade.l0 k (tabB n F) (ints those) (ints bs) ((m + 1 : Nat) : Int) f (ints those) (those.length : Int) (i : Int)) (clGo (rel F f) (cl (rel F f) m) ((those.drop i).filter fun x => bs.all fun y => F x y == f))) (n := those.length) (by
        rw [List.drop_length]
        refine Ev.step (f := fun _ => some false) (fun k => ?_) (Ev.now _)
        rw [spec_trMade.l0, if_neg (by omega)]) (by
        intro i hi h
        have hin := htn those[i] (List.getElem_mem hi)
        have hd : those.drop i = those[i] :: those.drop (i + 1) := List.drop_eq_getElem_cons hi
        rw [hd]
        generalize hx : those[i] = x at hin
        have inner := up_loop (P := fun j => ∀ ok : Bool, Ev (fun k => spec_trMade.l1 k (tabB n F) (ints those) (ints bs) ((m + 1 : Nat) : Int) f (i : Int) (x : Int) ok (ints those) (those.length : Int) (i : Int) (ints bs) (bs.length : Int) (j : Int)) (if (ok && (bs.drop j).all fun y => F x y == f) = true then (cl (rel F f) m (((those.drop (i + 1)).filter fun x => bs.all fun y => F x y == f).filter (rel F f x)) || clGo (rel F f) (cl (rel F f) m) ((those.drop (i + 1)).filter fun x => bs.all fun y => F x y == f)) else clGo (rel F f) (cl (rel F f) m) ((those.drop (i + 1)).filter fun x => bs.all fun y => F x y == f))) (n := bs.length) (by
            intro ok
            rw [List.drop_length, List.all_nil, Bool.and_true]
            cases ok with
            | false =>
              rw [if_neg (by simp)]
              refine Ev.step (fun k => ?_) h
              rw [spec_trMade.l1, if_neg (by omega), if_neg (by simp), nat_succ i (by omega)]
            | true =>
              rw [if_pos rfl]
              have hr := ih (those.drop (i + 1)) (bs ++ [x]) (by omega) (by rw [List.length_drop]; omega) (by simp; omega) (fun b hb' => htn b (List.mem_of_mem_drop hb')) (by
                intro b hb'
                rcases List.mem_append.1 hb' with h' | h'
                · exact hbn b h'
                · rw [List.mem_singleton.1 h']; exact hin)
              have e : ((those.drop (i + 1)).filter fun y => (bs ++ [x]).all fun z => F y z == f) = (((those.drop (i + 1)).filter fun x => bs.all fun y => F x y == f).filter (rel F f x)) := by
                rw [List.filter_filter]
                apply List.filter_congr
                intro y _
                simp only [List.all_append, List.all_cons, List.all_nil, Bool.and_true, rel]
                rw [Bool.and_comm]
              rw [e] at hr
              have e1 : (ints those).drop (i + 1) = ints (those.drop (i + 1)) := by simp [ints, List.map_drop]
              have e2 : ints bs ++ [(x : Int)] = ints (bs ++ [x]) := by simp [ints]
              have e3 : wrap64 (((m + 1 : Nat) : Int) - 1) = (m : Int) := by rw [wrap_id (by omega) (by omega)]; omega
              refine Ev.step (fun k => ?_) (Ev.bind hr (f := fun k t202 => if t202 = true then some true else spec_trMade.l0 k (tabB n F) (ints those) (ints bs) ((m + 1 : Nat) : Int) f (ints those) (those.length : Int) ((i + 1 : Nat) : Int)) ?_)
              · rw [spec_trMade.l1, if_neg (by omega), if_pos rfl, nat_succ i (by omega), if_pos (by omega), if_pos (by rw [ints_length]; omega), spec_l1Own.ok _ (by rw [ints_length]; omega)]
                simp only [Option.bind_some, Int.toNat_natCast]
                rw [if_pos (by rw [ints_length]; simp; omega), e1, e2, e3]
              · cases hq : cl (rel F f) m (((those.drop (i + 1)).filter fun x => bs.all fun y => F x y == f).filter (rel F f x)) with
                | true => exact Ev.ite_pos rfl (Ev.now _)
                | false =>
                  refine Ev.ite_neg (by simp) ?_
                  rw [Bool.false_or]
                  exact h) (by
            intro j hj hjn ok
            have hbj := hbn bs[j] (List.getElem_mem hj)
            have hdj : bs.drop j = bs[j] :: bs.drop (j + 1) := List.drop_eq_getElem_cons hj
            cases ok with
            | false =>
              refine Ev.step (fun k => ?_) (by simpa using hjn false)
              rw [spec_trMade.l1, if_pos (by omega), if_pos (by omega), if_pos (by rw [ints_length]; omega), if_neg (by simp), nat_succ j (by omega)]
              rfl
            | true =>
              have h2 := hjn (F x bs[j] == f)
              have e : (true && (bs.drop j).all fun y => F x y == f) = ((F x bs[j] == f) && (bs.drop (j + 1)).all fun y => F x y == f) := by rw [hdj]; rfl
              rw [e]
              refine Ev.step (fun k => ?_) h2
              rw [spec_trMade.l1, if_pos (by omega), if_pos (by omega), if_pos (by rw [ints_length]; omega), if_pos rfl, if_pos (by omega), if_pos (by rw [tabB_length]; omega), rd_ints bs j hj, if_pos (by omega), rdL_tabB n F x hin, if_pos (by simp; omega), row_get n _ _ hbj, nat_succ j (by omega)]) 0 (Nat.zero_le _) true
        rw [List.drop_zero, Bool.true_and] at inner
        have hc : (if (bs.all fun y => F x y == f) = true then (cl (rel F f) m (((those.drop (i + 1)).filter fun x => bs.all fun y => F x y == f).filter (rel F f x)) || clGo (rel F f) (cl (rel F f) m) ((those.drop (i + 1)).filter fun x => bs.all fun y => F x y == f)) else clGo (rel F f) (cl (rel F f) m) ((those.drop (i + 1)).filter fun x => bs.all fun y => F x y == f)) = clGo (rel F f) (cl (rel F f) m) ((x :: those.drop (i + 1)).filter fun x => bs.all fun y => F x y == f) := by
          cases hk : bs.all fun y => F x y == f with
          | true => rw [if_pos rfl, List.filter_cons_of_pos (p := fun x => bs.all fun y => F x y == f) hk]; rfl
          | false => rw [if_neg (by simp), List.filter_cons_of_neg (p := fun x => bs.all fun y => F x y == f) (by simp [hk])]
        rw [hc] at inner
        refine Ev.step (fun k => ?_) inner
        rw [spec_trMade.l0, if_pos (by omega), if_pos (by omega), if_pos (by rw [ints_length]; omega), rd_ints those i hi, hx, ints_length]
        rfl) 0 (Nat.zero_le _)
    rw [List.drop_zero] at loop
    refine Ev.step (fun k => ?_) loop
    rw [spec_trMade.f, if_neg (by omega), ints_length]
    rfl

theorem spec_trOpen.ok (n : Nat) (hn : n ≤ 12) (F : Nat → Nat → Bool) (A B : Nat) (hA : A < n) (hB : B < n) (r s : Nat) (hr : r ≤ 12) (hs : s ≤ 12) (f : Bool) : Ev (fun k => spec_trOpen.f k (tabB n F) (A : Int) (B : Int) (r : Int) (s : Int) f) (!cl (rel F f) ((if f = true then r else s) - 2) ((List.range A).filter fun x => (F x A == f) && (F x B == f))) := by
  have hm : ∀ q : Nat, q ≤ 12 → Ev (fun k => spec_trMade.f k (tabB n F) (ints ((List.range A).filter fun x => (F x A == f) && (F x B == f))) ([] : List Int) (wrap64 ((q : Int) - 2)) f) (cl (rel F f) (q - 2) ((List.range A).filter fun x => (F x A == f) && (F x B == f))) := by
    intro q hq
    have hL1 : ((List.range A).filter fun x => (F x A == f) && (F x B == f)).length ≤ A := by
      have := List.length_filter_le (fun x => (F x A == f) && (F x B == f)) (List.range A)
      simpa using this
    have hL2 : ∀ b ∈ ((List.range A).filter fun x => (F x A == f) && (F x B == f)), b < n := by
      intro b hb
      have := List.mem_range.1 (List.mem_filter.1 hb).1
      omega
    revert hL1 hL2
    generalize ((List.range A).filter fun x => (F x A == f) && (F x B == f)) = L
    intro hL1 hL2
    by_cases h2 : q < 2
    · rw [show q - 2 = 0 from by omega]
      refine Ev.step (f := fun _ => some true) (fun k => ?_) (Ev.now _)
      rw [spec_trMade.f, if_pos (by rw [wrap_id (by omega) (by omega)]; omega)]
    · have h3 := spec_trMade.ok n hn F f (q - 2) L [] (by omega) (by omega) (by simp; omega) hL2 (by simp)
      rw [show wrap64 ((q : Int) - 2) = ((q - 2 : Nat) : Int) from by rw [wrap_id (by omega) (by omega)]; omega]
      have e : (L.filter fun x => ([] : List Nat).all fun y => F x y == f) = L := List.filter_eq_self.2 (fun _ _ => rfl)
      rw [e] at h3
      exact h3
  have key := up_loop (P := fun i => Ev (fun k => spec_trOpen.l0 k (tabB n F) (r : Int) (s : Int) f (ints ((List.range i).filter fun x => (F x A == f) && (F x B == f))) (i : Int) (A : Int) (B : Int)) (!cl (rel F f) ((if f = true then r else s) - 2) ((List.range A).filter fun x => (F x A == f) && (F x B == f)))) (n := A) (by
      cases f with
      | true =>
        refine Ev.step (fun k => ?_) (Ev.bind (hm r hr) (f := fun _ t => some (!t)) (Ev.now _))
        rw [spec_trOpen.l0, if_neg (by omega), if_pos rfl]
      | false =>
        refine Ev.step (fun k => ?_) (Ev.bind (hm s hs) (f := fun _ t => some (!t)) (Ev.now _))
        rw [spec_trOpen.l0, if_neg (by omega), if_neg (by simp)]) (by
      intro i hi h
      have hin : i < n := by omega
      have hlen : (ints ((List.range i).filter fun x => (F x A == f) && (F x B == f))).length ≤ i := by
        rw [ints_length]
        have := List.length_filter_le (fun x => (F x A == f) && (F x B == f)) (List.range i)
        simpa using this
      have er : (List.range (i + 1)).filter (fun x => (F x A == f) && (F x B == f)) = (List.range i).filter (fun x => (F x A == f) && (F x B == f)) ++ if ((F i A == f) && (F i B == f)) = true then [i] else [] := by
        rw [List.range_succ, List.filter_append]
        congr 1
        by_cases hc : ((F i A == f) && (F i B == f)) = true
        · rw [if_pos hc, List.filter_cons_of_pos (by simpa using hc)]; rfl
        · rw [if_neg hc, List.filter_cons_of_neg (by simpa using hc)]; rfl
      have pre : ∀ k, spec_trOpen.l0 (k + 1) (tabB n F) (r : Int) (s : Int) f (ints ((List.range i).filter fun x => (F x A == f) && (F x B == f))) (i : Int) (A : Int) (B : Int) = if (F i A == f) = true then (if (F i B == f) = true then spec_trOpen.l0 k (tabB n F) (r : Int) (s : Int) f (ints ((List.range i).filter fun x => (F x A == f) && (F x B == f)) ++ [(i : Int)]) ((i + 1 : Nat) : Int) (A : Int) (B : Int) else spec_trOpen.l0 k (tabB n F) (r : Int) (s : Int) f (ints ((List.range i).filter fun x => (F x A == f) && (F x B == f))) ((i + 1 : Nat) : Int) (A : Int) (B : Int)) else spec_trOpen.l0 k (tabB n F) (r : Int) (s : Int) f (ints ((List.range i).filter fun x => (F x A == f) && (F x B == f))) ((i + 1 : Nat) : Int) (A : Int) (B : Int) := by
        intro k
        rw [spec_trOpen.l0, if_pos (by omega), if_pos (by omega), if_pos (by rw [tabB_length]; omega), if_pos (by omega), rdL_tabB n F i hin, if_pos (by simp; omega), row_get n _ A hA]
        by_cases h1 : (F i A == f) = true
        · rw [if_pos h1, if_pos h1, if_pos (by omega), if_pos (by simp; omega), row_get n _ B hB]
          by_cases h2 : (F i B == f) = true
          · rw [if_pos h2, if_pos h2, if_pos (by omega), nat_succ i (by omega)]
          · rw [if_neg h2, if_neg h2, nat_succ i (by omega)]
        · rw [if_neg h1, if_neg h1, nat_succ i (by omega)]
      by_cases h1 : (F i A == f) = true
      · by_cases h2 : (F i B == f) = true
        · refine Ev.step (fun k => ?_) h
          rw [pre, if_pos h1, if_pos h2, er, if_pos (by rw [h1, h2]; rfl)]
          simp [ints]
        · refine Ev.step (fun k => ?_) h
          rw [pre, if_pos h1, if_neg h2, er, if_neg (by rw [h1]; simpa using h2), List.append_nil]
      · refine Ev.step (fun k => ?_) h
        rw [pre, if_neg h1, er, if_neg (by simp only [Bool.and_eq_true]; exact fun hh => h1 hh.1), List.append_nil]) 0 (Nat.zero_le _)
  unfold spec_trOpen.f
  simpa [ints] using key

/-- A pair is set, both ways. -/
def upd2 (F : Nat → Nat → Bool) (p : Nat × Nat) (v : Bool) : Nat → Nat → Bool := upd (upd F p.1 p.2 v) p.2 p.1 v
theorem upd2_at (F : Nat → Nat → Bool) (p : Nat × Nat) (v : Bool) (x y : Nat) : upd2 F p v x y = if x = p.1 ∧ y = p.2 ∨ x = p.2 ∧ y = p.1 then v else F x y := by
  unfold upd2 upd
  by_cases h1 : x = p.2 ∧ y = p.1
  · rw [if_pos h1, if_pos (.inr h1)]
  · rw [if_neg h1]
    by_cases h2 : x = p.1 ∧ y = p.2
    · rw [if_pos h2, if_pos (.inl h2)]
    · rw [if_neg h2, if_neg (by rintro (h | h); exact h2 h; exact h1 h)]
theorem upd2_symm (F : Nat → Nat → Bool) (p : Nat × Nat) (v : Bool) (hF : ∀ a b, F a b = F b a) (a b : Nat) : upd2 F p v a b = upd2 F p v b a := by
  rw [upd2_at, upd2_at, hF a b]
  by_cases h : a = p.1 ∧ b = p.2 ∨ a = p.2 ∧ b = p.1
  · rw [if_pos h, if_pos (by omega)]
  · rw [if_neg h, if_neg (by omega)]
theorem upd2_back (F : Nat → Nat → Bool) (p : Nat × Nat) (v : Bool) (hF : ∀ a b, F a b = F b a) (h : F p.1 p.2 = false) : upd2 (upd2 F p v) p false = F := by
  funext x y
  rw [upd2_at, upd2_at]
  by_cases hc : x = p.1 ∧ y = p.2 ∨ x = p.2 ∧ y = p.1
  · rw [if_pos hc]
    rcases hc with ⟨rfl, rfl⟩ | ⟨rfl, rfl⟩
    · exact h.symm
    · rw [hF]; exact h.symm
  · rw [if_neg hc, if_neg hc]
theorem upd2_id (F : Nat → Nat → Bool) (p : Nat × Nat) (hF : ∀ a b, F a b = F b a) (h : F p.1 p.2 = false) : upd2 F p false = F := by
  funext x y
  rw [upd2_at]
  by_cases hc : x = p.1 ∧ y = p.2 ∨ x = p.2 ∧ y = p.1
  · rw [if_pos hc]
    rcases hc with ⟨rfl, rfl⟩ | ⟨rfl, rfl⟩
    · exact h.symm
    · rw [hF]; exact h.symm
  · rw [if_neg hc]
/-- A relation has neither kind of group. -/
def nei (n r s : Nat) (F : Nat → Nat → Bool) : Bool := !cl F r (List.range n) && !cl (oth F) s (List.range n)
/-- A relation that has a group among the pairs that stay the same: all that come of it have a group. -/
theorem nei_cut (n r s A B : Nat) (hAB : A < B) (hB : B < n) (F G : Nat → Nat → Bool) (hF : ∀ a b, F a b = F b a) (f : Bool) (hf : F A B = f) (hG : ∀ x y, x < y → (x < A ∨ x = A ∧ y ≤ B) → G x y = F x y)
    (h : cl (fun a b => F b a == f) ((if f = true then r else s) - 2) ((List.range A).filter fun x => (F x A == f) && (F x B == f)) = true) : nei n r s G = false := by
  have e : ((List.range A).filter fun x => (F x A == f) && (F x B == f)) = ((List.range A).filter fun x => (F A x == f) && (F B x == f)) := by
    apply List.filter_congr
    intro x _
    rw [hF x A, hF x B]
  rw [e] at h
  unfold nei
  cases f with
  | true =>
    have := cl_two (fun a b => F b a == true) G n A B (r - 2) hAB hB h (by simp [hF B A, hf]) (by
      intro x y h1 h2 h3
      rw [hG x y h1 h2, hF x y]
      simpa using h3)
    rw [cl_down G _ r _ (by omega) this]; rfl
  | false =>
    have := cl_two (fun a b => F b a == false) (oth G) n A B (s - 2) hAB hB h (by simp [hF B A, hf]) (by
      intro x y h1 h2 h3
      have h4 : F x y = false := by rw [hF x y]; simpa using h3
      have h5 : (y != x) = true := by simp; omega
      simp [oth, hG x y h1 h2, h4, h5])
    rw [cl_down (oth G) _ s _ (by omega) this]; simp
def pI (p : Nat × Nat) : S89 := ⟨(p.1 : Int), (p.2 : Int)⟩
theorem rd_pI (ps : List (Nat × Nat)) (i : Nat) (h : i < ps.length) : rd_T89 (ps.map pI) (i : Int) = pI ps[i] := by simp [rd_T89, List.getD, h]
theorem setT_ok (n : Nat) (F : Nat → Nat → Bool) (p : Nat × Nat) (h1 : p.1 < n) (h2 : p.2 < n) (f : Bool) : setT (tabB n F) (p.1 : Int) (p.2 : Int) f = some (tabB n (upd2 F p f)) := by
  unfold setT
  simp only [Int.toNat_natCast]
  rw [tabB_getD n F _ h1, tabB_set n F _ _ f h1, tabB_getD n _ _ h2, tabB_set n _ _ _ f h2, if_pos]
  · rfl
  · rw [tabB_length]
    simp
    omega
/-- A pair of a kind makes no group with people before both. -/
def opn (r s : Nat) (F : Nat → Nat → Bool) (p : Nat × Nat) (f : Bool) : Bool := !cl (rel F f) ((if f = true then r else s) - 2) ((List.range p.1).filter fun x => (F x p.1 == f) && (F x p.2 == f))
/-- The first relation with neither that comes of one by setting pairs. -/
def fs (n r s : Nat) : (Nat → Nat → Bool) → List (Nat × Nat) → Option (Nat → Nat → Bool)
  | F, [] => if nei n r s F = true then some F else none
  | F, p :: ps => if nei n r s F = true then some F else
      match (if opn r s (upd2 F p true) p true = true then fs n r s (upd2 F p true) ps else none) with
      | some X => some X
      | none => if opn r s F p false = true then fs n r s F ps else none
theorem fs_nei (n r s : Nat) (F : Nat → Nat → Bool) (ps : List (Nat × Nat)) (h : nei n r s F = true) : fs n r s F ps = some F := by
  cases ps <;> simp [fs, h]
theorem fs_nil (n r s : Nat) (F : Nat → Nat → Bool) (h : nei n r s F = false) : fs n r s F [] = none := by simp [fs, h]
theorem fs_cons (n r s : Nat) (F : Nat → Nat → Bool) (p : Nat × Nat) (ps : List (Nat × Nat)) (h : nei n r s F = false) : fs n r s F (p :: ps) =
      match (if opn r s (upd2 F p true) p true = true then fs n r s (upd2 F p true) ps else none) with
      | some X => some X
      | none => if opn r s F p false = true then fs n r s F ps else none := by
  rw [fs, if_neg (by simp [h])]
def resB (n r s : Nat) (F : Nat → Nat → Bool) (ps : List (Nat × Nat)) : Bool × List (List Bool) := match fs n r s F ps with
  | some X => (true, tabB n X)
  | none => (false, tabB n F)
def resI (n r s : Nat) (F : Nat → Nat → Bool) (ps : List (Nat × Nat)) : List Int × Bool := match fs n r s F ps with
  | some X => (tabI n X, true)
  | none => ([], false)
theorem spec_trFirst.ok (n : Nat) (hn : n ≤ 12) (r s : Nat) (hr : r ≤ 5) (hs : s ≤ 5) (ps : List (Nat × Nat)) (hl : ps.length ≤ 1000) (hp : ∀ p ∈ ps, p.1 < p.2 ∧ p.2 < n) (hlex : ps.Pairwise (fun p q => p.1 < q.1 ∨ p.1 = q.1 ∧ p.2 < q.2)) :
    ∀ F : Nat → Nat → Bool, (∀ a b, F a b = F b a) → (∀ p ∈ ps, F p.1 p.2 = false) → Ev (fun k => spec_trFirst.f k (tabB n F) (ps.map pI) 0 (r : Int) (s : Int)) (resB n r s F ps) := by
  have entry : ∀ (i : Nat) (F : Nat → Nat → Bool), (∀ a b, F a b = F b a) → (nei n r s F = false → Ev (fun k => spec_trFirst.w k false (tabB n F) (ps.map pI) (i : Int) (r : Int) (s : Int)) (resB n r s F (ps.drop i))) → Ev (fun k => spec_trFirst.w k true (tabB n F) (ps.map pI) (i : Int) (r : Int) (s : Int)) (resB n r s F (ps.drop i)) := by
    intro i F hF hnext
    have h1 := spec_paOf.ok n hn F
    have h2 := spec_trNeither.ok n hn (outr n F 0) (by have := outr_len n hn F; omega) (outr_pin n F) r s hr hs
    have e1 : cl (adj (outr n F 0)) r (List.range n) = cl F r (List.range n) := by
      refine cl_congr _ _ r _ (range_lt n) ?_
      intro a b _ hb hab
      exact outr_adj n F a b hab (List.mem_range.1 hb)
    have e2 : cl (oth (adj (outr n F 0))) s (List.range n) = cl (oth F) s (List.range n) := by
      refine cl_congr _ _ s _ (range_lt n) ?_
      intro a b _ hb hab
      unfold oth
      rw [outr_adj n F a b hab (List.mem_range.1 hb)]
    rw [e1, e2] at h2
    have e3 : (!cl F r (List.range n) && !cl (oth F) s (List.range n)) = nei n r s F := rfl
    rw [e3] at h2
    refine Ev.step (fun k => ?_) (Ev.bind h1 (f := fun k p => (spec_trNeither.f k p.1 p.2 (r : Int) (s : Int)).bind fun t => if t = true then some (true, tabB n F) else spec_trFirst.w k false (tabB n F) (ps.map pI) (i : Int) (r : Int) (s : Int)) (Ev.bind h2 ?_))
    · rw [spec_trFirst.w]
    · show Ev _ _
      cases hc : nei n r s F with
      | true =>
        rw [resB, fs_nei n r s F _ hc]
        exact Ev.ite_pos rfl (Ev.now _)
      | false => exact Ev.ite_neg (by simp) (hnext hc)
  have key := up_loop (P := fun i => ∀ F : Nat → Nat → Bool, (∀ a b, F a b = F b a) → (∀ p ∈ ps.drop i, F p.1 p.2 = false) → nei n r s F = false → Ev (fun k => spec_trFirst.w k false (tabB n F) (ps.map pI) (i : Int) (r : Int) (s : Int)) (resB n r s F (ps.drop i))) (n := ps.length) (by
      intro F hF _ hc
      rw [List.drop_length, resB, fs_nil n r s F hc]
      refine Ev.step (f := fun _ => some (false, tabB n F)) (fun k => ?_) (Ev.now _)
      rw [spec_trFirst.w, if_neg (by simp)]) (by
      intro i hi ih F hF hfree hc
      have hd : ps.drop i = ps[i] :: ps.drop (i + 1) := List.drop_eq_getElem_cons hi
      have hpi := hp ps[i] (List.getElem_mem hi)
      have hlx : ∀ q ∈ ps.drop (i + 1), ps[i].1 < q.1 ∨ ps[i].1 = q.1 ∧ ps[i].2 < q.2 := by
        have := (List.Pairwise.drop (i := i) hlex)
        rw [hd, List.pairwise_cons] at this
        exact this.1
      have hrest : ∀ q ∈ ps.drop (i + 1), q.1 < q.2 ∧ (ps[i].1 < q.1 ∨ ps[i].1 = q.1 ∧ ps[i].2 < q.2) := fun q hq => ⟨(hp q (List.mem_of_mem_drop hq)).1, hlx q hq⟩
      rw [hd] at hfree
      have hrd := rd_pI ps i hi
      have hfp := hfree ps[i] List.mem_cons_self
      have hfr : ∀ q ∈ ps.drop (i + 1), F q.1 q.2 = false := fun q hq => hfree q (List.mem_cons_of_mem _ hq)
      rw [hd]
      generalize ps[i] = p at hpi hrest hfp hrd hlx
      have hsy := upd2_symm F p true hF
      have hfr2 : ∀ q ∈ ps.drop (i + 1), upd2 F p true q.1 q.2 = false := by
        intro q hq
        rw [upd2_at, if_neg, hfr q hq]
        have := hrest q hq
        omega
      have i1 := entry (i + 1) (upd2 F p true) hsy (ih (upd2 F p true) hsy hfr2)
      have i2 := ih F hF hfr hc
      have o1 := spec_trOpen.ok n hn (upd2 F p true) p.1 p.2 (by omega) hpi.2 r s (by omega) (by omega) true
      have o2 := spec_trOpen.ok n hn F p.1 p.2 (by omega) hpi.2 r s (by omega) (by omega) false
      have eo1 : (!cl (rel (upd2 F p true) true) ((if true = true then r else s) - 2) ((List.range p.1).filter fun x => (upd2 F p true x p.1 == true) && (upd2 F p true x p.2 == true))) = opn r s (upd2 F p true) p true := rfl
      have eo2 : (!cl (rel F false) ((if false = true then r else s) - 2) ((List.range p.1).filter fun x => (F x p.1 == false) && (F x p.2 == false))) = opn r s F p false := rfl
      rw [eo1] at o1
      rw [eo2] at o2
      have hstep : ∀ k, spec_trFirst.w (k + 1) false (tabB n F) (ps.map pI) (i : Int) (r : Int) (s : Int) = (spec_trOpen.f k (tabB n (upd2 F p true)) (p.1 : Int) (p.2 : Int) (r : Int) (s : Int) true).bind fun o => (if o = true then spec_trFirst.w k true (tabB n (upd2 F p true)) (ps.map pI) ((i + 1 : Nat) : Int) (r : Int) (s : Int) else some (false, tabB n (upd2 F p true))).bind fun z => if z.1 = true then some (true, z.2) else (setT z.2 (p.1 : Int) (p.2 : Int) false).bind fun T3 => (spec_trOpen.f k T3 (p.1 : Int) (p.2 : Int) (r : Int) (s : Int) false).bind fun o2 => if o2 = true then spec_trFirst.w k false T3 (ps.map pI) ((i + 1 : Nat) : Int) (r : Int) (s : Int) else some (false, T3) := by
        intro k
        rw [spec_trFirst.w, if_pos (by simp; omega), if_pos (by omega), hrd]
        simp only [pI]
        rw [setT_ok n F p (by omega) hpi.2 true, Option.bind_some, nat_succ i (by omega)]
      -- behind the pair with friends, when nothing came of it
      have hback : Ev (fun k => (setT (tabB n (upd2 F p true)) (p.1 : Int) (p.2 : Int) false).bind fun T3 => (spec_trOpen.f k T3 (p.1 : Int) (p.2 : Int) (r : Int) (s : Int) false).bind fun o2 => if o2 = true then spec_trFirst.w k false T3 (ps.map pI) ((i + 1 : Nat) : Int) (r : Int) (s : Int) else some (false, T3)) (if opn r s F p false = true then resB n r s F (ps.drop (i + 1)) else (false, tabB n F)) := by
        rw [setT_ok n _ p (by omega) hpi.2 false, upd2_back F p true hF hfp]
        simp only [Option.bind_some]
        refine Ev.bind o2 ?_
        cases opn r s F p false with
        | true => exact Ev.ite_pos rfl (by rw [if_pos rfl]; exact i2)
        | false => exact Ev.ite_neg (by simp) (by rw [if_neg (by simp)]; exact Ev.now _)
      have hres : resB n r s F (p :: ps.drop (i + 1)) = match (if opn r s (upd2 F p true) p true = true then fs n r s (upd2 F p true) (ps.drop (i + 1)) else none) with
          | some X => (true, tabB n X)
          | none => (if opn r s F p false = true then resB n r s F (ps.drop (i + 1)) else (false, tabB n F)) := by
        unfold resB
        rw [fs_cons n r s F p _ hc]
        cases (if opn r s (upd2 F p true) p true = true then fs n r s (upd2 F p true) (ps.drop (i + 1)) else none) with
        | some X => rfl
        | none =>
          cases opn r s F p false with
          | true => rfl
          | false => rfl
      rw [hres]
      refine Ev.step hstep (Ev.bind o1 ?_)
      cases opn r s (upd2 F p true) p true with
      | false =>
        simp only [Bool.false_eq_true, if_false, Option.bind_some]
        exact hback
      | true =>
        simp only [if_true]
        refine Ev.bind i1 ?_
        unfold resB
        cases fs n r s (upd2 F p true) (ps.drop (i + 1)) with
        | some X => exact Ev.ite_pos rfl (Ev.now _)
        | none =>
          refine Ev.ite_neg (by simp) ?_
          exact hback)
  intro F hF hfree
  have := entry 0 F hF (key 0 (Nat.zero_le _) F hF (by rw [List.drop_zero]; exact hfree))
  rw [List.drop_zero] at this
  exact this

/-- All pairs of n people, in order. -/
def prsN (n : Nat) : List (Nat × Nat) := (List.range' 0 n).flatMap fun a => (List.range' (a + 1) (n - (a + 1))).map fun b => (a, b)
theorem prsN_facts (n : Nat) (h : n ≤ 6) : (prsN n).length ≤ 15 ∧ (∀ p ∈ prsN n, p.1 < p.2 ∧ p.2 < n) ∧ (prsN n).Pairwise (fun p q => p.1 < q.1 ∨ p.1 = q.1 ∧ p.2 < q.2) := by
  obtain rfl | rfl | rfl | rfl | rfl | rfl | rfl : n = 0 ∨ n = 1 ∨ n = 2 ∨ n = 3 ∨ n = 4 ∨ n = 5 ∨ n = 6 := by omega
  all_goals decide
theorem prsN_facts8 (n : Nat) (h : n ≤ 8) : (prsN n).length ≤ 28 ∧ (∀ p ∈ prsN n, p.1 < p.2 ∧ p.2 < n) ∧ (prsN n).Pairwise (fun p q => p.1 < q.1 ∨ p.1 = q.1 ∧ p.2 < q.2) := by
  obtain rfl | rfl | rfl | rfl | rfl | rfl | rfl | rfl | rfl : n = 0 ∨ n = 1 ∨ n = 2 ∨ n = 3 ∨ n = 4 ∨ n = 5 ∨ n = 6 ∨ n = 7 ∨ n = 8 := by omega
  all_goals decide
theorem outr_full (n : Nat) (F : Nat → Nat → Bool) (hF : ∀ a b, a < b → b < n → F a b = true) : outr n F 0 = (prsN n).map pI := by
  unfold outr prsN inn
  rw [List.map_flatMap, Nat.sub_zero, List.flatMap_def, List.flatMap_def]
  congr 1
  apply List.map_congr_left
  intro a _
  rw [List.map_map]
  have : (List.range' (a + 1) (n - (a + 1))).filter (F a) = List.range' (a + 1) (n - (a + 1)) := by
    rw [List.filter_eq_self]
    intro b hb
    rw [List.mem_range'_1] at hb
    exact hF a b (by omega) (by omega)
  rw [this]
  rfl
def firstN (n r s : Int) : Int × List S89 × Bool := if (0 ≤ n ∧ n ≤ 8) ∧ sides r s = true then (match fs n.toNat r.toNat s.toNat (adj []) (prsN n.toNat) with
  | some X => (n, outr n.toNat X 0, true)
  | none => (0, [], false)) else (0, [], false)
theorem spec_FirstNeither.ok (n r s : Int) : Ev (fun k => spec_FirstNeither.f k n r s) (firstN n r s) := by
  unfold spec_FirstNeither.f firstN
  rw [spec_l1In.ok, spec_trKinds.ok]
  simp only [Option.bind_some]
  by_cases hn : 0 ≤ n ∧ n ≤ 8
  · by_cases hs : sides r s = true
    · have hs2 := hs
      simp only [sides, Bool.and_eq_true, decide_eq_true_eq] at hs2
      rw [if_pos ⟨hn, hs⟩]
      refine Ev.ite_pos (by simpa using hn) (Ev.ite_pos hs ?_)
      obtain ⟨N, rfl⟩ := Int.eq_ofNat_of_zero_le hn.1
      obtain ⟨R, rfl⟩ := Int.eq_ofNat_of_zero_le (show 0 ≤ r by omega)
      obtain ⟨Q, rfl⟩ := Int.eq_ofNat_of_zero_le (show 0 ≤ s by omega)
      simp only [Int.toNat_natCast]
      obtain ⟨f1, f2, f3⟩ := prsN_facts8 N (by omega)
      have h1 := spec_paTable.ok N (by omega) [] (by simp) (by intro x hx; cases hx)
      have h2 := spec_paOther.ok N (by omega) [] (by simp) (by intro x hx; cases hx)
      rw [outr_full N (neg (adj [])) (fun a b _ _ => rfl)] at h2
      have h3 := spec_trFirst.ok N (by omega) R Q (by omega) (by omega) (prsN N) (by omega) f2 f3 (adj []) (fun a b => rfl) (fun p _ => rfl)
      have h4 : Ev (fun k => spec_trPairs.f k (N : Int)) ((prsN N).map pI) := Ev.bind h2 (Ev.now _)
      refine Ev.bind h1 (Ev.bind h4 (Ev.bind h3 ?_))
      unfold resB
      cases fs N R Q (adj []) (prsN N) with
      | none => exact Ev.ite_neg (by simp) (Ev.now _)
      | some X => exact Ev.ite_pos rfl (Ev.bind (spec_paOf.ok N (by omega) X) (Ev.now _))
    · rw [if_neg (fun h => hs h.2)]
      exact Ev.ite_pos (by simpa using hn) (Ev.ite_neg hs (Ev.now _))
  · rw [if_neg (fun h => hn h.1)]
    exact Ev.ite_neg (by simpa using hn) (Ev.now _)

theorem impl_areSides.ok (r s : Int) : impl_areSides.f r s = some (sides r s) := by
  unfold impl_areSides.f sides
  simp only [impl_within.ok, Option.bind_some]
  by_cases h : 1 ≤ r ∧ r ≤ 4
  · rw [if_pos (by simpa using h), decide_eq_true h]; simp
  · rw [if_neg (by simpa using h), decide_eq_false h]; simp

set_option maxRecDepth 100000 in
theorem impl_table_hasGroup.ok (n : Nat) (hn : n ≤ 16) (F : Nat → Nat → Bool) : ∀ (size : Nat), size ≤ 1000 → ∀ (s : Nat), s < 65536 → (∀ i, s.testBit i = true → i < n) → Ev (fun k => impl_table_hasGroup.f k (tabI n F) (s : Int) (size : Int)) (cl F size (bof s)) := by
  intro size
  induction size with
  | zero =>
    intro _ s _ _
    refine Ev.step (f := fun _ => some true) (fun k => ?_) (Ev.now _)
    simp only [impl_table_hasGroup.f]
    rw [if_pos (by omega)]
  | succ size ih =>
    intro hsz
    have key : ∀ (m s : Nat), (bof s).length = m → s < 65536 → (∀ i, s.testBit i = true → i < n) → Ev (fun k => impl_table_hasGroup.l0 k (tabI n F) (s : Int) ((size + 1 : Nat) : Int)) (clGo F (cl F size) (bof s)) := by
      intro m
      induction m with
      | zero =>
        intro s hm hs _
        have e := bof_nil s hs (List.length_eq_zero_iff.1 hm)
        rw [List.length_eq_zero_iff.1 hm]
        refine Ev.step (f := fun _ => some false) (fun k => ?_) (Ev.now _)
        simp only [impl_table_hasGroup.l0, bits_OnesCount16.f]
        rw [if_pos (by omega)]
        simp only [Option.bind_some, Int.toNat_natCast]
        rw [if_neg (by rw [popN_bof, hm]; omega)]
      | succ m ihm =>
        intro s hm hs hbits
        by_cases hc : size + 1 ≤ m + 1
        · have h0 : s ≠ 0 := by rintro rfl; rw [bof_zero] at hm; cases hm
          obtain ⟨c1, c2, c3⟩ := ctz_bit s h0 hs
          have hcn := hbits _ c1
          obtain ⟨t, ht, et, hbt⟩ := sub_bits s (msk (F (Go.Lib.ctz 16 s)) n) _ hs (msk_lt16 _ _ hn) h0 rfl
          have es := bof_step s h0 hs
          have hbt2 : ∀ i, i < 16 → t.testBit i = (s.testBit i && (i != Go.Lib.ctz 16 s) && F (Go.Lib.ctz 16 s) i) := by
            intro i hi
            rw [hbt i hi, msk_testBit]
            cases hsi : s.testBit i with
            | false => simp
            | true => rw [decide_eq_true (hbits i hsi)]; simp
          have esub := bof_sub s (Go.Lib.ctz 16 s) (F (Go.Lib.ctz 16 s)) t hbt2 (s &&& (s - 1)) (fun i _ => low_testBit s h0 hs i)
          have ht16 : ∀ i, t.testBit i = true → i < n := by
            intro i hi
            by_cases h16 : i < 16
            · rw [hbt2 i h16] at hi
              simp only [Bool.and_eq_true] at hi
              exact hbits i hi.1.1
            · rw [Nat.testBit_lt_two_pow (Nat.lt_of_lt_of_le ht (show 2 ^ 16 ≤ 2 ^ i from Nat.pow_le_pow_right (by omega) (by omega)))] at hi
              cases hi
          have hl16 : s &&& (s - 1) < 65536 := Nat.lt_of_le_of_lt Nat.and_le_left hs
          have hlb : ∀ i, (s &&& (s - 1)).testBit i = true → i < n := by
            intro i hi
            rw [low_testBit s h0 hs] at hi
            simp only [Bool.and_eq_true] at hi
            exact hbits i hi.1
          have hlen : (bof (s &&& (s - 1))).length = m := by
            rw [es] at hm
            simpa using hm
          have r1 := ih (by omega) t ht ht16
          have r2 := ihm (s &&& (s - 1)) hlen hl16 hlb
          rw [es]
          simp only [clGo]
          rw [esub] at r1
          refine Ev.step (fun k => ?_) (Ev.bind r1 (f := fun k t254 => if t254 = true then some true else impl_table_hasGroup.l0 k (tabI n F) ((s &&& (s - 1) : Nat) : Int) ((size + 1 : Nat) : Int)) ?_)
          · rw [impl_table_hasGroup.l0, bits_OnesCount16.f, if_pos (by omega), Option.bind_some, Int.toNat_natCast, if_pos (by rw [popN_bof, hm]; omega), bits_TrailingZeros16.f, if_pos (by omega), Option.bind_some]
            have ec : ctz16 (s : Int) = ((Go.Lib.ctz 16 s : Nat) : Int) := by simp [ctz16]
            rw [ec, if_pos (by omega), if_pos (by rw [tabI_length]; omega), tabI_rd n F _ hcn, et, low_bits s hs h0]
            rw [show wrap64 (((size + 1 : Nat) : Int) - 1) = (size : Int) from by rw [wrap_id (by omega) (by omega)]; omega]
          · cases hq : cl F size ((bof (s &&& (s - 1))).filter (F (Go.Lib.ctz 16 s))) with
            | true => exact Ev.ite_pos rfl (Ev.now _)
            | false =>
              refine Ev.ite_neg (by simp) ?_
              simpa using r2
        · have hsh := cl_short F (size + 1) (bof s) (by omega)
          simp only [cl] at hsh
          rw [hsh]
          refine Ev.step (f := fun _ => some false) (fun k => ?_) (Ev.now _)
          simp only [impl_table_hasGroup.l0, bits_OnesCount16.f]
          rw [if_pos (by omega)]
          simp only [Option.bind_some, Int.toNat_natCast]
          rw [if_neg (by rw [popN_bof, hm]; omega)]
    intro s hs hb
    refine Ev.step (fun k => ?_) (key _ s rfl hs hb)
    simp only [impl_table_hasGroup.f]
    rw [if_neg (by omega)]

theorem impl_table_all.ok (n : Nat) (hn : n ≤ 12) (F : Nat → Nat → Bool) : impl_table_all.f (tabI n F) = some ((msk (fun _ => true) n : Nat) : Int) := by
  unfold impl_table_all.f
  rw [tabI_length, all_bits n hn]

theorem impl_table_others.ok (n : Nat) (hn : n ≤ 12) (F : Nat → Nat → Bool) : Ev (fun k => impl_table_others.f k (tabI n F)) (tabI n (oth F)) := by
  have key := up_loop (P := fun i => Ev (fun k => impl_table_others.l0 k (tabI n F) ((List.range n).map fun a => if a < i then ((msk (oth F a) n : Nat) : Int) else 0) (n : Int) (i : Int)) (tabI n (oth F))) (n := n) (by
      refine Ev.step (f := fun _ => some (tabI n (oth F))) (fun k => ?_) (Ev.now _)
      simp only [impl_table_others.l0]
      rw [if_neg (by omega)]
      congr 1
      unfold tabI
      apply List.map_congr_left
      intro a ha
      rw [if_pos (List.mem_range.1 ha)]) (by
      intro i hi h
      refine Ev.step (fun k => ?_) h
      simp only [impl_table_others.l0, tabI_length]
      rw [if_pos (by omega), if_pos (by omega), if_pos (by omega), if_pos (by simp; omega), tabI_rd n F i hi, other_bits (F i) n i hn hi, nat_succ i (by omega), Int.toNat_natCast]
      congr 1
      apply List.ext_getElem (by simp)
      intro j g1 g2
      have hj : j < n := by simpa using g2
      by_cases e : i = j
      · subst e
        simp only [List.getElem_set_self, List.getElem_map, List.getElem_range]
        rw [if_pos (by omega)]
        rfl
      · rw [List.getElem_set_ne e]
        simp only [List.getElem_map, List.getElem_range]
        by_cases h2 : j < i
        · rw [if_pos h2, if_pos (by omega)]
        · rw [if_neg h2, if_neg (by omega)]) 0 (Nat.zero_le _)
  unfold impl_table_others.f
  refine Ev.congr (fun k => ?_) key
  rw [tabI_length, if_pos (by omega), if_pos (by omega)]
  congr 1
  apply List.ext_getElem (by simp)
  intro i h1 h2
  simp

theorem impl_table_hasNeither.ok (n : Nat) (hn : n ≤ 12) (F : Nat → Nat → Bool) (r s : Nat) (hr : r ≤ 1000) (hs : s ≤ 1000) : Ev (fun k => impl_table_hasNeither.f k (tabI n F) (r : Int) (s : Int)) (!cl F r (List.range n) && !cl (oth F) s (List.range n)) := by
  have hb : ∀ i, (msk (fun _ => true) n).testBit i = true → i < n := by
    intro i hi
    rw [msk_testBit] at hi
    simpa using hi
  have h1 := impl_table_hasGroup.ok n (by omega) F r hr _ (msk_lt16 (fun _ => true) n (by omega)) hb
  have h2 := impl_table_hasGroup.ok n (by omega) (oth F) s hs _ (msk_lt16 (fun _ => true) n (by omega)) hb
  rw [bof_all n (by omega)] at h1 h2
  unfold impl_table_hasNeither.f
  simp only [impl_table_all.ok n hn, Option.bind_some]
  refine Ev.bind h1 ?_
  cases cl F r (List.range n) with
  | true => exact Ev.ite_pos rfl (Ev.now _)
  | false =>
    refine Ev.ite_neg (by simp) (Ev.bind (impl_table_others.ok n hn F) ?_)
    refine Ev.bind h2 ?_
    exact Ev.now _

theorem impl_table_put.ok (n : Nat) (hn : n ≤ 12) (F : Nat → Nat → Bool) (p : Nat × Nat) (ha : p.1 < n) (hb : p.2 < n) : impl_table_put.f (tabI n F) (p.1 : Int) (p.2 : Int) = some (tabI n (upd2 F p true)) := by
  unfold impl_table_put.f
  simp only [Option.bind_some, Int.toNat_natCast]
  rw [if_pos (by omega), if_pos (by rw [tabI_length]; omega), if_pos (by omega), if_pos (by rw [tabI_length]; omega), tabI_rd n F _ ha, tabI_set n F _ _ (by omega) ha hb, tabI_rd n _ _ hb, tabI_set n _ _ _ (by omega) hb ha]
  rfl

theorem and_msk (p q : Nat → Bool) (n : Nat) (h : n ≤ 16) : Go.bits .and .u16 ((msk p n : Nat) : Int) ((msk q n : Nat) : Int) = ((msk (fun x => p x && q x) n : Nat) : Int) := by
  rw [u16_and_nat _ _ (msk_lt16 _ _ h) (msk_lt16 _ _ h)]
  congr 1
  apply Nat.eq_of_testBit_eq
  intro i
  rw [Nat.testBit_and, msk_testBit, msk_testBit, msk_testBit]
  cases decide (i < n) <;> simp
/-- What is told of the friends and the strangers, up to a pair. -/
structure Told (n : Nat) (F G : Nat → Nat → Bool) (a b : Nat) : Prop where
  fs_ : ∀ x y, F x y = F y x
  gs_ : ∀ x y, G x y = G y x
  fd : ∀ x, F x x = false
  gd : ∀ x, G x x = false
  old : ∀ x y, x < y → y < n → (x < a ∨ x = a ∧ y < b) → G x y = !F x y
  new : ∀ x y, x < y → y < n → ¬ (x < a ∨ x = a ∧ y < b) → F x y = false ∧ G x y = false
theorem both_low (n a b : Nat) (hab : a < b) (hb : b < n) (H : Nat → Nat → Bool) (hs : ∀ x y, H x y = H y x) (hd : ∀ x, H x x = false) (hnew : ∀ x y, x < y → y < n → ¬ (x < a ∨ x = a ∧ y < b) → H x y = false) : (List.range n).filter (fun x => H a x && H b x) = (List.range a).filter (fun x => H a x && H b x) := by
  have e1 : List.range n = List.range a ++ List.range' a (n - a) := by
    rw [List.range_eq_range', List.range_eq_range']
    have := List.range'_append (s := 0) (m := a) (n := n - a) (step := 1)
    simp only [Nat.zero_add, Nat.one_mul] at this
    rw [this]
    congr 1
    omega
  rw [e1, List.filter_append]
  have : (List.range' a (n - a)).filter (fun x => H a x && H b x) = [] := by
    rw [List.filter_eq_nil_iff]
    intro x hx
    rw [List.mem_range'_1] at hx
    by_cases e : x = a
    · subst e; rw [hd x]; simp
    · by_cases e2 : x = b
      · subst e2; rw [hd x]; simp
      · have : H b x = false := by
          by_cases h : x < b
          · rw [hs b x]; exact hnew x b h hb (by omega)
          · exact hnew b x (by omega) (by omega) (by omega)
        rw [this]; simp
  rw [this, List.append_nil]
def rem (n a b : Nat) : List (Nat × Nat) := ((List.range' b (n - b)).map fun y => (a, y)) ++ (List.range' (a + 1) (n - (a + 1))).flatMap fun x => (List.range' (x + 1) (n - (x + 1))).map fun y => (x, y)
theorem rem_zero (n : Nat) : rem n 0 1 = prsN n := by
  unfold rem prsN
  rcases Nat.eq_zero_or_pos n with rfl | h
  · rfl
  · have : List.range' 0 n = 0 :: List.range' 1 (n - 1) := by
      have := range'_cons 0 n h
      simpa using this
    rw [this, List.flatMap_cons]
theorem rem_turn (n a : Nat) : rem n a n = rem n (a + 1) (a + 2) := by
  unfold rem
  rw [Nat.sub_self]
  by_cases h : a + 1 < n
  · rw [range'_cons (a + 1) n h, List.flatMap_cons]
    rfl
  · have e1 : n - (a + 1) = 0 := by omega
    have e2 : n - (a + 2) = 0 := by omega
    rw [e1, e2]
    rfl
theorem rem_cons (n a b : Nat) (h : b < n) : rem n a b = (a, b) :: rem n a (b + 1) := by
  unfold rem
  rw [range'_cons b n h]
  rfl
theorem rem_nil (n a b : Nat) (h : n ≤ a + 1) (hb : a < b) : rem n a b = [] := by
  unfold rem
  have e1 : n - (a + 1) = 0 := by omega
  have e2 : n - b = 0 := by omega
  rw [e1, e2]
  rfl
theorem impl_table_uint16.ok (l : List Int) (h : l.length ≤ 1000) : impl_table_uint16.f l = some l := by
  unfold impl_table_uint16.f
  rw [if_pos (by omega)]
theorem impl_group (n : Nat) (hn : n ≤ 12) (r : Nat) (hr : r ≤ 12) (a b : Nat) (hab : a < b) (hb : b < n) (H K : Nat → Nat → Bool) (f : Bool) (hs : ∀ x y, H x y = H y x) (hd : ∀ x, H x x = false) (hnew : ∀ x y, x < y → y < n → ¬ (x < a ∨ x = a ∧ y < b) → H x y = false) (hK : ∀ x y, x < y → y ≤ b → x < a → H x y = (K y x == f)) (hK2 : ∀ x y, K x y = K y x) : Ev (fun k => impl_table_hasGroup.f k (tabI n H) (Go.bits .and .u16 (rd (tabI n H) (a : Int)) (rd (tabI n H) (b : Int))) (wrap64 ((r : Int) - 2))) (cl (rel K f) (r - 2) ((List.range a).filter fun x => (K x a == f) && (K x b == f))) := by
  have ha : a < n := by omega
  rw [tabI_rd n H a ha, tabI_rd n H b hb, and_msk _ _ n (by omega)]
  have e : cl (rel K f) (r - 2) ((List.range a).filter fun x => (K x a == f) && (K x b == f)) = cl H (r - 2) (bof (msk (fun x => H a x && H b x) n)) := by
    rw [bof_msk _ n (by omega), both_low n a b hab hb H hs hd hnew]
    have e1 : ((List.range a).filter fun x => (K x a == f) && (K x b == f)) = (List.range a).filter (fun x => H a x && H b x) := by
      apply List.filter_congr
      intro x hx
      have hx := List.mem_range.1 hx
      rw [hs a x, hs b x, hK x a hx (by omega) hx, hK x b (by omega) (Nat.le_refl _) hx, hK2 x a, hK2 x b]
    rw [e1]
    refine cl_congr _ _ _ _ (List.Pairwise.filter _ (range_lt a)) ?_
    intro x y hx hy hxy
    have hx := List.mem_range.1 (List.mem_filter.1 hx).1
    have hy := List.mem_range.1 (List.mem_filter.1 hy).1
    rw [hK x y hxy (by omega) hx]
    rfl
  rw [e]
  by_cases h2 : r < 2
  · rw [show r - 2 = 0 from by omega]
    refine Ev.step (f := fun _ => some true) (fun k => ?_) (Ev.now _)
    rw [impl_table_hasGroup.f, if_pos (by rw [wrap_id (by omega) (by omega)]; omega)]
  · rw [show wrap64 ((r : Int) - 2) = ((r - 2 : Nat) : Int) from by rw [wrap_id (by omega) (by omega)]; omega]
    refine impl_table_hasGroup.ok n (by omega) H (r - 2) (by omega) _ (msk_lt16 _ _ (by omega)) ?_
    intro i hi
    rw [msk_testBit] at hi
    simp only [Bool.and_eq_true, decide_eq_true_eq] at hi
    exact hi.1
theorem Told.turn {n : Nat} {F G : Nat → Nat → Bool} {a : Nat} (t : Told n F G a n) : Told n F G (a + 1) (a + 2) := by
  refine ⟨t.fs_, t.gs_, t.fd, t.gd, fun x y h1 h2 h3 => t.old x y h1 h2 (by omega), fun x y h1 h2 h3 => t.new x y h1 h2 (by omega)⟩
theorem impl_first.ok (n : Nat) (hn : n ≤ 12) (r s : Nat) (hr : r ≤ 5) (hs : s ≤ 5) : ∀ (m : Nat) (a b : Nat), (rem n a b).length = m → a < b → (b ≤ n ∨ n ≤ a + 1) → a ≤ 1000 → b ≤ 1000 → ∀ F G : Nat → Nat → Bool, Told n F G a b →
    Ev (fun k => impl_freeSearch_first.f k (n : Int) (r : Int) (s : Int) (tabI n F) (tabI n G) (a : Int) (b : Int)) (resI n r s F (rem n a b)) := by
  intro m
  induction m using Nat.strongRecOn with
  | ind m ih =>
    have main : ∀ (a b : Nat), (rem n a b).length = m → a < b → (b < n ∨ n ≤ a + 1) → a ≤ 1001 → b ≤ 1002 → ∀ F G : Nat → Nat → Bool, Told n F G a b →
        Ev (fun k => impl_freeSearch_first.j0 k (tabI n F) (tabI n G) (a : Int) (b : Int) (n : Int) (r : Int) (s : Int)) (resI n r s F (rem n a b)) := by
      intro a b hm hab hc ha1 hb1 F G ht
      have h1 := impl_table_hasNeither.ok n hn F r s (by omega) (by omega)
      have e3 : (!cl F r (List.range n) && !cl (oth F) s (List.range n)) = nei n r s F := rfl
      rw [e3] at h1
      refine Ev.step (fun k => by rw [impl_freeSearch_first.j0]) (Ev.bind h1 ?_)
      cases hnei : nei n r s F with
      | true =>
        rw [resI, fs_nei n r s F _ hnei]
        exact Ev.ite_pos rfl (Ev.now _)
      | false =>
        refine Ev.ite_neg (by simp) ?_
        by_cases hend : n ≤ a + 1
        · rw [rem_nil n a b hend hab, resI, fs_nil n r s F hnei]
          exact Ev.ite_pos (by rw [wrap_id (by omega) (by omega)]; omega) (Ev.now _)
        · have hb : b < n := by omega
          have ha : a < n := by omega
          have hrem := rem_cons n a b hb
          have hlen : (rem n a (b + 1)).length < m := by rw [← hm, hrem]; simp
          have hinv1 : Told n (upd2 F (a, b) true) G a (b + 1) := by
            refine ⟨upd2_symm F (a, b) true ht.fs_, ht.gs_, fun x => ?_, ht.gd, fun x y g1 g2 g3 => ?_, fun x y g1 g2 g3 => ?_⟩
            · rw [upd2_at, if_neg (by simp only; omega)]; exact ht.fd x
            · rw [upd2_at]
              by_cases e : x = a ∧ y = b
              · obtain ⟨rfl, rfl⟩ := e
                rw [if_pos (by simp)]
                exact (ht.new x y g1 g2 (by omega)).2
              · rw [if_neg (by simp only; omega)]
                exact ht.old x y g1 g2 (by omega)
            · rw [upd2_at, if_neg (by simp only; omega)]
              exact ht.new x y g1 g2 (by omega)
          have hinv2 : Told n F (upd2 G (a, b) true) a (b + 1) := by
            refine ⟨ht.fs_, upd2_symm G (a, b) true ht.gs_, ht.fd, fun x => ?_, fun x y g1 g2 g3 => ?_, fun x y g1 g2 g3 => ?_⟩
            · rw [upd2_at, if_neg (by simp only; omega)]; exact ht.gd x
            · rw [upd2_at]
              by_cases e : x = a ∧ y = b
              · obtain ⟨rfl, rfl⟩ := e
                rw [if_pos (by simp), (ht.new x y g1 g2 (by omega)).1]
                rfl
              · rw [if_neg (by simp only; omega)]
                exact ht.old x y g1 g2 (by omega)
            · rw [upd2_at, if_neg (by simp only; omega)]
              exact ht.new x y g1 g2 (by omega)
          have r1 := ih _ hlen a (b + 1) rfl (by omega) (by omega) (by omega) (by omega) (upd2 F (a, b) true) G hinv1
          have r2 := ih _ hlen a (b + 1) rfl (by omega) (by omega) (by omega) (by omega) F (upd2 G (a, b) true) hinv2
          have q1 := impl_group n hn r (by omega) a b hab hb F (upd2 F (a, b) true) true ht.fs_ ht.fd (fun x y g1 g2 g3 => (ht.new x y g1 g2 g3).1) (fun x y g1 g2 g3 => by
            rw [upd2_at, if_neg (by simp only; omega), ht.fs_ y x]; simp) (upd2_symm F (a, b) true ht.fs_)
          have q2 := impl_group n hn s (by omega) a b hab hb G F false ht.gs_ ht.gd (fun x y g1 g2 g3 => (ht.new x y g1 g2 g3).2) (fun x y g1 g2 g3 => by
            rw [ht.old x y g1 (by omega) (by omega), ht.fs_ y x]; simp) ht.fs_
          have eo1 : cl (rel (upd2 F (a, b) true) true) (r - 2) ((List.range a).filter fun x => (upd2 F (a, b) true x a == true) && (upd2 F (a, b) true x b == true)) = !opn r s (upd2 F (a, b) true) (a, b) true := by
            unfold opn; rw [Bool.not_not]; rfl
          have eo2 : cl (rel F false) (s - 2) ((List.range a).filter fun x => (F x a == false) && (F x b == false)) = !opn r s F (a, b) false := by
            unfold opn; rw [Bool.not_not]; rfl
          rw [eo1] at q1
          rw [eo2] at q2
          have hput1 := impl_table_put.ok n hn F (a, b) ha hb
          have hput2 := impl_table_put.ok n hn G (a, b) ha hb
          simp only at hput1 hput2
          have esucc := nat_succ b (by omega)
          have hj1 : Ev (fun k => impl_freeSearch_first.j1 k (tabI n F) (tabI n G) (a : Int) (b : Int) (n : Int) (r : Int) (s : Int)) (if opn r s F (a, b) false = true then resI n r s F (rem n a (b + 1)) else ([], false)) := by
            refine Ev.step (fun k => by rw [impl_freeSearch_first.j1, if_pos (by omega), if_pos (by rw [tabI_length]; omega), if_pos (by omega), if_pos (by rw [tabI_length]; omega)]) (Ev.bind q2 ?_)
            cases opn r s F (a, b) false with
            | false =>
              rw [if_neg (by simp)]
              exact Ev.ite_pos rfl (Ev.now _)
            | true =>
              rw [if_pos rfl]
              refine Ev.ite_neg (by simp) ?_
              rw [impl_table_uint16.ok _ (by rw [tabI_length]; omega)]
              simp only [Option.bind_some]
              rw [hput2, esucc]
              simp only [Option.bind_some]
              exact Ev.bind r2 (Ev.now _)
          have hres : resI n r s F ((a, b) :: rem n a (b + 1)) = match (if opn r s (upd2 F (a, b) true) (a, b) true = true then fs n r s (upd2 F (a, b) true) (rem n a (b + 1)) else none) with
              | some X => (tabI n X, true)
              | none => (if opn r s F (a, b) false = true then resI n r s F (rem n a (b + 1)) else ([], false)) := by
            unfold resI
            rw [fs_cons n r s F (a, b) _ hnei]
            cases (if opn r s (upd2 F (a, b) true) (a, b) true = true then fs n r s (upd2 F (a, b) true) (rem n a (b + 1)) else none) with
            | some X => rfl
            | none =>
              cases opn r s F (a, b) false with
              | true => rfl
              | false => rfl
          rw [hrem, hres]
          refine Ev.ite_neg (by rw [wrap_id (by omega) (by omega)]; omega) (Ev.ite_pos (by omega) (Ev.ite_pos (by rw [tabI_length]; omega) (Ev.ite_pos (by omega) (Ev.ite_pos (by rw [tabI_length]; omega) (Ev.bind q1 ?_)))))
          cases opn r s (upd2 F (a, b) true) (a, b) true with
          | false => exact Ev.ite_pos rfl hj1
          | true =>
            refine Ev.ite_neg (by simp) ?_
            rw [impl_table_uint16.ok _ (by rw [tabI_length]; omega)]
            simp only [Option.bind_some]
            rw [hput1, esucc]
            simp only [Option.bind_some, if_true]
            refine Ev.bind r1 ?_
            unfold resI
            cases fs n r s (upd2 F (a, b) true) (rem n a (b + 1)) with
            | some X => exact Ev.ite_pos rfl (Ev.now _)
            | none => exact Ev.ite_neg (by simp) hj1
    intro a b hm hab hc ha1 hb1 F G ht
    by_cases e : b = n
    · subst e
      have e1 := nat_succ a (by omega)
      have e2 : wrap64 ((a : Int) + 2) = ((a + 2 : Nat) : Int) := by rw [wrap_id (by omega) (by omega)]; omega
      rw [rem_turn] at hm ⊢
      refine Ev.step (fun k => ?_) (main (a + 1) (a + 2) hm (by omega) (by omega) (by omega) (by omega) F G ht.turn)
      rw [impl_freeSearch_first.f, if_pos rfl, e1, e2]
    · refine Ev.step (fun k => ?_) (main a b hm hab (by omega) (by omega) (by omega) F G ht)
      rw [impl_freeSearch_first.f, if_neg (by omega)]

theorem u16_bit (m i : Nat) (hm : m < 65536) (h : i ≤ 16) : (Go.bits .and .u16 (shr .u16 (m : Int) (i : Int)) 1 == 1) = m.testBit i := by
  unfold shr
  rw [Int.toNat_natCast, Nat.min_eq_left (by simpa [IntKind.bits] using h)]
  have e : ((m : Int) / 2 ^ i) = ((m / 2 ^ i : Nat) : Int) := by simp
  have hl : m / 2 ^ i < 65536 := Nat.lt_of_le_of_lt (Nat.div_le_self _ _) hm
  rw [e, show (1 : Int) = ((1 : Nat) : Int) from rfl, u16_and_nat _ _ hl (by omega), Nat.testBit_eq_decide_div_mod_eq, Nat.and_one_is_mod]
  rw [Bool.eq_iff_iff, beq_iff_eq, decide_eq_true_eq]
  omega
theorem impl_table_has.ok (n : Nat) (hn : n ≤ 12) (F : Nat → Nat → Bool) (a b : Nat) (ha : a < n) (hb : b < n) : impl_table_has.f (tabI n F) (a : Int) (b : Int) = some (F a b) := by
  unfold impl_table_has.f
  rw [if_pos (by omega), if_pos (by rw [tabI_length]; omega), if_pos (by omega), tabI_rd n F a ha, u16_bit _ _ (msk_lt16 _ _ (by omega)) (by omega), msk_testBit, decide_eq_true hb]
  rfl

theorem impl_table_party.ok (n : Nat) (hn : n ≤ 12) (F : Nat → Nat → Bool) : Ev (fun k => impl_table_party.f k (tabI n F)) ((n : Int), outr n F 0) := by
  have key := up_loop (P := fun a => ∀ acc : List S89, acc.length ≤ 12 * a → Ev (fun k => impl_table_party.l0 k (tabI n F) (n : Int) (a : Int) (n : Int) acc) ((n : Int), acc ++ outr n F a)) (n := n) (by
      intro acc _
      refine Ev.step (f := fun _ => some ((n : Int), acc)) (fun k => ?_) (by simpa [outr] using Ev.now ((n : Int), acc))
      simp only [impl_table_party.l0]
      rw [if_neg (by omega)]) (by
      intro a ha h acc hacc
      have inner := up_loop (P := fun i => a < i → ∀ acc : List S89, acc.length ≤ 12 * a + i → Ev (fun k => impl_table_party.l1 k (tabI n F) (a : Int) (i : Int) (n : Int) (a : Int) (n : Int) acc) ((n : Int), acc ++ (inn n F a i ++ outr n F (a + 1)))) (n := n) (by
          intro _ acc hacc
          have h9 := h acc (by omega)
          have e9 : inn n F a n = [] := by simp [inn]
          rw [e9, List.nil_append]
          refine Ev.step (fun k => ?_) h9
          simp only [impl_table_party.l1]
          rw [if_neg (by rw [tabI_length]; omega), nat_succ a (by omega)]) (by
          intro i hi h hai acc hacc
          have e0 : inn n F a i = (if F a i = true then [(⟨(a : Int), (i : Int)⟩ : S89)] else []) ++ inn n F a (i + 1) := by
            unfold inn
            rw [range'_cons i n hi]
            cases hF : F a i with
            | true => rw [List.filter_cons_of_pos hF]; simp
            | false => rw [List.filter_cons_of_neg (by simp [hF])]; simp
          rw [e0]
          have hh := impl_table_has.ok n hn F a i ha hi
          cases hF : F a i with
          | true =>
            have h2 := h (by omega) (acc ++ [(⟨(a : Int), (i : Int)⟩ : S89)]) (by simp; omega)
            rw [hF] at hh
            refine Ev.step (fun k => ?_) (by simpa using h2)
            simp only [impl_table_party.l1]
            rw [if_pos (by rw [tabI_length]; omega), hh, Option.bind_some, if_pos rfl, if_pos (by omega), nat_succ i (by omega)]
            rfl
          | false =>
            have h2 := h (by omega) acc (by omega)
            rw [hF] at hh
            refine Ev.step (fun k => ?_) (by simpa using h2)
            simp only [impl_table_party.l1]
            rw [if_pos (by rw [tabI_length]; omega), hh, Option.bind_some, if_neg (by simp), nat_succ i (by omega)]
            rfl)
      have h3 := inner (a + 1) (by omega) (by omega) acc (by omega)
      have e1 : outr n F a = inn n F a (a + 1) ++ outr n F (a + 1) := by
        unfold outr
        rw [range'_cons a n ha, List.flatMap_cons]
      rw [e1]
      refine Ev.step (fun k => ?_) h3
      simp only [impl_table_party.l0]
      rw [if_pos (by omega), nat_succ a (by omega)])
  have h0 := key 0 (Nat.zero_le _) [] (by simp)
  rw [List.nil_append] at h0
  unfold impl_table_party.f
  rw [tabI_length]
  exact h0

theorem tabI_none (n : Nat) : List.replicate n (0 : Int) = tabI n (adj []) := by
  apply List.ext_getElem (by simp [tabI])
  intro i h1 h2
  have : msk (adj [] i) n = 0 := by
    apply Nat.eq_of_testBit_eq
    intro j
    rw [msk_testBit]
    simp [adj]
  simp [tabI, this]
theorem impl_FirstNeither.ok (n r s : Int) : Ev (fun k => impl_FirstNeither.f k n r s) (firstN n r s) := by
  unfold impl_FirstNeither.f firstN
  rw [impl_within.ok, impl_areSides.ok]
  simp only [Option.bind_some]
  by_cases hn : 0 ≤ n ∧ n ≤ 8
  · refine Ev.ite_pos (by simpa using hn) ?_
    by_cases hs : sides r s = true
    · have hs2 := hs
      simp only [sides, Bool.and_eq_true, decide_eq_true_eq] at hs2
      rw [if_pos ⟨hn, hs⟩, hs]
      obtain ⟨N, rfl⟩ := Int.eq_ofNat_of_zero_le hn.1
      obtain ⟨R, rfl⟩ := Int.eq_ofNat_of_zero_le (show 0 ≤ r by omega)
      obtain ⟨Q, rfl⟩ := Int.eq_ofNat_of_zero_le (show 0 ≤ s by omega)
      simp only [Int.toNat_natCast]
      have h1 := impl_first.ok N (by omega) R Q (by omega) (by omega) _ 0 1 rfl (by omega) (by omega) (by omega) (by omega) (adj []) (adj []) ⟨fun _ _ => rfl, fun _ _ => rfl, fun _ => rfl, fun _ => rfl, fun x y g1 g2 g3 => by omega, fun x y g1 g2 g3 => ⟨rfl, rfl⟩⟩
      rw [rem_zero, ← tabI_none] at h1
      rw [show ((0 : Nat) : Int) = 0 from rfl, show ((1 : Nat) : Int) = 1 from rfl] at h1
      refine Ev.step (f := fun k => (impl_freeSearch_first.f k (N : Int) (R : Int) (Q : Int) (List.replicate N 0) (List.replicate N 0) 0 1).bind fun b => if b.2 = true then (impl_table_party.f k b.1).bind fun c => some (c.1, c.2, true) else some (0, [], false)) (fun k => by rw [impl_FirstNeither.j0, if_neg (by simp), if_pos (by omega), if_pos (by omega), Int.toNat_natCast]) (Ev.bind h1 ?_)
      unfold resI
      cases fs N R Q (adj []) (prsN N) with
      | none => exact Ev.ite_neg (by simp) (Ev.now _)
      | some X => exact Ev.ite_pos rfl (Ev.bind (impl_table_party.ok N (by omega) X) (Ev.now _))
    · have hs : sides r s = false := by simpa using hs
      rw [if_neg (fun h => by rw [hs] at h; cases h.2), hs]
      refine Ev.step (f := fun _ => some (0, [], false)) (fun k => ?_) (Ev.now _)
      rw [impl_FirstNeither.j0, if_pos (by simp)]
  · rw [if_neg (fun h => hn h.1)]
    refine Ev.ite_neg (by simpa using hn) ?_
    refine Ev.step (f := fun _ => some (0, [], false)) (fun k => ?_) (Ev.now _)
    rw [impl_FirstNeither.j0, if_pos rfl]

-- pairnat
def mkPair (i : Nat) : S89 := ⟨1 + 2 * i, 2 + 2 * i⟩
theorem laws_markPairS.ok (l : List S89) (hl : l.length ≤ 1048576) (k : Nat) (hk : l.length < k) : laws_markPairS.f k l 1 = some (1 + 2 * (l.length : Int), (List.range l.length).map mkPair) := by
  unfold laws_markPairS.f
  refine mark_loop (fun k acc m i => laws_markPairS.l0 k acc m i) mkPair 2 l.length ?_ ?_ k l rfl hk
  · intro k acc i h ha
    have e1 : wrap64 (1 + ((2 : Nat) : Int) * i + 1) = 2 + 2 * i := by rw [wrap_id (by omega) (by omega)]; omega
    have e3 : wrap64 (2 + 2 * (i : Int) + 1) = 1 + ((2 : Nat) : Int) * ((i + 1 : Nat) : Int) := by rw [wrap_id (by omega) (by omega)]; omega
    have e4 : wrap64 ((i : Int) + 1) = ((i + 1 : Nat) : Int) := by rw [wrap_id (by omega) (by omega)]; omega
    have hr : ∀ (q : List S89) (x : S89), q.length = l.length → rd_T89 (q.set i x) (i : Int) = x := by
      intro q x hq
      rw [rd_T89_nat _ i (by simp; omega)]; simp
    simp only [laws_markPairS.l0, e1, e3, e4, Int.toNat_natCast, Option.bind_some]
    rw [if_pos (by omega), if_pos (by omega), hr acc _ ha]
    simp only [List.set_set]
    simp only [mkPair]
    rfl
  · intro k acc m ha
    simp only [laws_markPairS.l0]
    rw [if_neg (by omega)]

theorem laws_markParty.ok (n : Int) (l : List S89) (hl : l.length ≤ 1048576) (k : Nat) (hk : l.length < k) : laws_markParty.f k n l 1 = some (1 + 2 * (l.length : Int), (List.range l.length).map mkPair) := by
  unfold laws_markParty.f
  rw [laws_markPairS.ok l hl k hk]; rfl

theorem laws_heldPairS.ok (n : Nat) (hl : n ≤ 1048576) (k : Nat) (hk : n < k) : laws_heldPairS.f k ((List.range n).map mkPair) 1 = some (1 + 2 * (n : Int)) := by
  unfold laws_heldPairS.f
  refine held_loop (fun k m i => laws_heldPairS.l0 k ((List.range n).map mkPair) m i) 2 n ?_ ?_ k hk
  · intro k i h
    have e1 : wrap64 (1 + ((2 : Nat) : Int) * i + 1) = 2 + 2 * i := by rw [wrap_id (by omega) (by omega)]; omega
    have e3 : wrap64 (2 + 2 * (i : Int) + 1) = 1 + ((2 : Nat) : Int) * ((i + 1 : Nat) : Int) := by rw [wrap_id (by omega) (by omega)]; omega
    have e4 : wrap64 ((i : Int) + 1) = ((i + 1 : Nat) : Int) := by rw [wrap_id (by omega) (by omega)]; omega
    simp only [laws_heldPairS.l0, e1, e3, e4]
    rw [if_pos (by simp; omega), if_pos (by omega), rd_T89_nat _ i (by simp; omega)]
    simp [mkPair]
  · intro k m
    simp only [laws_heldPairS.l0]
    rw [if_neg (by simp)]

theorem laws_heldParty.ok (p : Int) (n : Nat) (hl : n ≤ 1048576) (k : Nat) (hk : n < k) : laws_heldParty.f k p ((List.range n).map mkPair) 1 = some (1 + 2 * (n : Int)) := by
  unfold laws_heldParty.f
  rw [laws_heldPairS.ok n hl k hk]
  simp only [Option.bind_some]
  rw [if_neg (by omega)]

end Go.Proofs.YtomlbbnoicpfpaaDoor.PFnExactFirstNeither
namespace Go.Proofs.YtomlbbnoicpfpaaDoor
open Go.RowKit Go.Proofs.YtomlbbnoicpfpaaDoor.Base Go.Proofs.YtomlbbnoicpfpaaDoor.PFnExactFirstNeither Go.Proofs.YtomlbbnoicpfpaaDoorW.PrintWords Go.Proofs.YtomlbbnoicpfpaaDoorW.PrintLast Go.Proofs.YtomlbbnoicpfpaaDoorW.PrintMore
theorem firstN_len (n r s : Int) : (firstN n r s).2.1.length ≤ 144 := by
  unfold firstN
  by_cases h : (0 ≤ n ∧ n ≤ 8) ∧ sides r s = true
  · rw [if_pos h]
    cases fs n.toNat r.toNat s.toNat (adj []) (prsN n.toNat) with
    | none => simp
    | some X => exact outr_len n.toNat (by omega) X
  · rw [if_neg h]; simp
theorem fnExactFirstNeither_pure : fnExactFirstNeither.Pure := by
  intro n r s hn hr hs
  refine Ev.rounds (g := fun k => laws_FnExactFirstNeither.f k n r s) ?_
  unfold laws_FnExactFirstNeither.f
  have hl := firstN_len n r s
  have h1 := spec_FirstNeither.ok n r s
  have h2 := impl_FirstNeither.ok n r s
  generalize firstN n r s = x at h1 h2 hl
  obtain ⟨p, l, b⟩ := x
  simp only at hl
  have heq : Ev (fun k => laws_eqParty.f k p l p l) true := ev_of (l.length + 1) fun k hk => laws_eqParty.refl p l (by omega) k (by omega)
  have hmk : Ev (fun k => laws_markParty.f k p l 1) (1 + 2 * (l.length : Int), (List.range l.length).map mkPair) := ev_of (l.length + 1) fun k hk => laws_markParty.ok p l (by omega) k (by omega)
  have hhd : Ev (fun k => laws_heldParty.f k p ((List.range l.length).map mkPair) 1) (1 + 2 * (l.length : Int)) := ev_of (l.length + 1) fun k hk => laws_heldParty.ok p l.length (by omega) k (by omega)
  refine Ev.bind h1 (Ev.bind h2 (Ev.bind heq (Ev.ite_pos rfl (Ev.ite_neg (by simp) (Ev.bind hmk (Ev.bind hhd ?_))))))
  refine Ev.ite_neg (by omega) (Ev.ite_pos rfl (Ev.bind h2 (Ev.bind heq (Ev.ite_pos rfl (Ev.ite_neg (by simp) (Ev.bind hhd ?_))))))
  exact Ev.ite_neg (by omega) (Ev.ite_pos rfl (Ev.now _))
theorem fnExactFirstNeither_holds : Rows.FnExactFirstNeitherCardSaid := fnExactFirstNeither.proved fnExactFirstNeither_pure
end Go.Proofs.YtomlbbnoicpfpaaDoor
