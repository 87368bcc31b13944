/- FnExactLacksGroup: whatever the party and the size, the program says whether it lacks a group of the size as the reference does, and leaves the party as it was. Condition: the table of math/bits lies as its initialiser lays it (the card's own). -/
import Derived.Test.YtomlbbnoicpfpaaDoorLawFnExactLacksGroup
import Derived.Test.YtomlbbnoicpfpaaDoorPBase
import Derived.Test.YtomlbbnoicpfpaaDoorGraph
set_option linter.unusedVariables false
set_option linter.unusedSimpArgs false
namespace Go.Proofs.YtomlbbnoicpfpaaDoor.PFnExactLacksGroup
open Go.RowKit Go.Proofs.YtomlbbnoicpfpaaDoor.Base Go.Proofs.YtomlbbnoicpfpaaDoor.PFnExactLacksGroup Go.Proofs.YtomlbbnoicpfpaaDoorW.PrintWords Go.Proofs.YtomlbbnoicpfpaaDoorW.PrintLast Go.Proofs.YtomlbbnoicpfpaaDoorW.PrintMore
theorem laws_szPairS.ok (l : List S118) (n : Int) (h0 : 0 ≤ n) (h1 : n ≤ 1048576) (hl : l.length ≤ maxLen) : laws_szPairS.f l n = some (if n - l.length < 0 then -1 else n - l.length) := by
  unfold maxLen at hl
  unfold laws_szPairS.f
  rw [wrap_id (by omega) (by omega)]
  split <;> rfl

theorem laws_szParty.ok (p : Int) (l : List S118) (n : Int) (h0 : 0 ≤ n) (h1 : n ≤ 1048576) (hl : l.length ≤ maxLen) : laws_szParty.f p l n = some (if n - l.length < 0 then -1 else n - l.length) := by
  unfold laws_szParty.f
  rw [laws_szPairS.ok l n h0 h1 hl]
  simp only [Option.bind_some]
  by_cases h : n - (l.length : Int) < 0
  · simp [h]
  · simp [h]

theorem rd_T118_nat (l : List S118) (i : Nat) (h : i < l.length) : rd_T118 l (i : Int) = l[i] := by simp [rd_T118, List.getD, h]
def prs (l : List S118) : List S89 := l.map fun x => ⟨x.f0, x.f1⟩
theorem prs_length (l : List S118) : (prs l).length = l.length := by simp [prs]
theorem laws_toPairS.ok (l : List S118) (hl : l.length ≤ 1048576) (k : Nat) (hk : l.length < k) : laws_toPairS.f k l = some (prs l) := by
  unfold laws_toPairS.f
  rw [if_pos (by omega), if_pos (by omega)]
  refine fill_loop (fun k acc i => laws_toPairS.l0 k l acc i) _ l _ (by omega) 0 ?_ ?_ k hk
  · intro k acc i h _ ha
    simp only [laws_toPairS.l0, laws_toPair.f, Option.bind_some]
    rw [if_pos (by omega), if_pos (by omega), if_pos (by omega), rd_T118_nat l i h]
    rfl
  · intro k acc ha
    simp only [laws_toPairS.l0]
    rw [if_neg (by omega)]

theorem laws_toParty.ok (n : Int) (l : List S118) (hl : l.length ≤ 1048576) (k : Nat) (hk : l.length < k) : laws_toParty.f k n l = some (n, prs l) := by
  unfold laws_toParty.f
  rw [laws_toPairS.ok l hl k hk]; rfl

theorem laws_eqPairS.refl (l : List S89) (hl : l.length ≤ 1048576) (k : Nat) (hk : l.length < k) : laws_eqPairS.f k l l = some true := by
  unfold laws_eqPairS.f
  rw [if_pos rfl]
  rw [all_loop (fun k i => laws_eqPairS.l0 k l l i) l.length (fun _ => true) (by omega) 0 ?_ ?_ k hk]
  · simp
  · intro k i h _
    simp only [laws_eqPairS.l0, laws_eqPair.f]
    rw [if_pos (by omega), if_pos (by omega), if_pos (by omega)]
    simp
  · intro k
    simp only [laws_eqPairS.l0]
    rw [if_neg (by omega)]

theorem laws_eqParty.refl (n : Int) (l : List S89) (hl : l.length ≤ 1048576) (k : Nat) (hk : l.length < k) : laws_eqParty.f k n l n l = some true := by
  unfold laws_eqParty.f
  rw [if_pos rfl, laws_eqPairS.refl l hl k hk]; rfl

theorem spec_l1In.ok (n lo hi : Int) : spec_l1In.f n lo hi = some (decide (lo ≤ n ∧ n ≤ hi)) := by
  unfold spec_l1In.f
  by_cases h : lo ≤ n <;> simp [h]

theorem spec_paPeople.ok (n : Int) : spec_paPeople.f n = some (crowd n) := by unfold spec_paPeople.f crowd; simp [spec_l1In.ok]

def lessB (x y : S89) : Bool := decide (x.f0 < y.f0 ∨ x.f0 = y.f0 ∧ x.f1 < y.f1)
theorem spec_paLess.ok (a b c d : Int) : spec_paLess.f a b c d = some (lessB ⟨a, b⟩ ⟨c, d⟩) := by
  unfold spec_paLess.f lessB
  by_cases h : a < c
  · simp [h]
  · by_cases h2 : a = c
    · subst h2; simp
    · simp [h, h2]

theorem rd_T89_nat (l : List S89) (i : Nat) (h : i < l.length) : rd_T89 l (i : Int) = l[i] := by simp [rd_T89, List.getD, h]
/-- What is asked of pair number i of a party of n people. -/
def stepB (n : Int) (l : List S89) (i : Nat) : Bool := decide (0 ≤ (l.getD i z89).f0 ∧ (l.getD i z89).f0 < (l.getD i z89).f1 ∧ (l.getD i z89).f1 < n) && (i == 0 || lessB (l.getD (i - 1) z89) (l.getD i z89))
/-- n and l are a party. -/
def goodB (n : Int) (l : List S89) : Bool := crowd n && (List.range l.length).all (stepB n l)
theorem goodB_people {n : Int} {l : List S89} (h : goodB n l = true) : 0 ≤ n ∧ n ≤ 12 := by
  unfold goodB crowd at h
  simp only [Bool.and_eq_true, decide_eq_true_eq] at h
  exact h.1
theorem goodB_step {n : Int} {l : List S89} (h : goodB n l = true) (i : Nat) (hi : i < l.length) : (0 ≤ l[i].f0 ∧ l[i].f0 < l[i].f1 ∧ l[i].f1 < n) ∧ (∀ h0 : 0 < i, l[i - 1].f0 < l[i].f0 ∨ l[i - 1].f0 = l[i].f0 ∧ l[i - 1].f1 < l[i].f1) := by
  unfold goodB at h
  simp only [Bool.and_eq_true, List.all_eq_true] at h
  have := h.2 i (List.mem_range.2 hi)
  unfold stepB lessB at this
  simp only [List.getD, List.getElem?_eq_getElem hi, List.getElem?_eq_getElem (show i - 1 < l.length by omega), Option.getD_some, Bool.and_eq_true, Bool.or_eq_true, decide_eq_true_eq, beq_iff_eq] at this
  refine ⟨this.1, fun h0 => ?_⟩
  rcases this.2 with h | h
  · omega
  · exact h
theorem goodB_len {n : Int} {l : List S89} (h : goodB n l = true) : 2 * (l.length : Int) ≤ n * (n - 1) := by
  refine pairs_bound n l.length (fun i => (l.getD i z89).f0) (fun i => (l.getD i z89).f1) ?_ ?_ (goodB_people h).1
  · intro i hi
    simp only [List.getD, List.getElem?_eq_getElem hi, Option.getD_some]
    exact (goodB_step h i hi).1
  · intro i hi
    simp only [List.getD, List.getElem?_eq_getElem hi, List.getElem?_eq_getElem (show i < l.length by omega), Option.getD_some]
    exact (goodB_step h (i + 1) hi).2 (by omega)
theorem goodB_len66 {n : Int} {l : List S89} (h : goodB n l = true) : l.length ≤ 66 := by
  have h1 := goodB_len h
  have h2 := goodB_people h
  obtain ⟨m, rfl⟩ := Int.eq_ofNat_of_zero_le h2.1
  obtain rfl | rfl | rfl | rfl | rfl | rfl | rfl | rfl | rfl | rfl | rfl | rfl | rfl : m = 0 ∨ m = 1 ∨ m = 2 ∨ m = 3 ∨ m = 4 ∨ m = 5 ∨ m = 6 ∨ m = 7 ∨ m = 8 ∨ m = 9 ∨ m = 10 ∨ m = 11 ∨ m = 12 := by omega
  all_goals omega
theorem stepB_eq (n : Int) (l : List S89) (i : Nat) (hi : i < l.length) : stepB n l i = (decide (0 ≤ l[i].f0 ∧ l[i].f0 < l[i].f1 ∧ l[i].f1 < n) && (i == 0 || lessB l[i - 1] l[i])) := by
  unfold stepB
  simp only [List.getD, List.getElem?_eq_getElem hi, List.getElem?_eq_getElem (show i - 1 < l.length by omega), Option.getD_some]
theorem half (n : Int) (h0 : 0 ≤ n) (h1 : n ≤ 12) : wrap64 (Int.tdiv (wrap64 (n * (wrap64 (n - 1)))) 2) = n * (n - 1) / 2 := by
  obtain ⟨m, rfl⟩ := Int.eq_ofNat_of_zero_le h0
  have : m ≤ 12 := by omega
  obtain rfl | rfl | rfl | rfl | rfl | rfl | rfl | rfl | rfl | rfl | rfl | rfl | rfl : m = 0 ∨ m = 1 ∨ m = 2 ∨ m = 3 ∨ m = 4 ∨ m = 5 ∨ m = 6 ∨ m = 7 ∨ m = 8 ∨ m = 9 ∨ m = 10 ∨ m = 11 ∨ m = 12 := by omega
  all_goals (unfold wrap64; decide)
theorem spec_paGood.ok (n : Int) (l : List S89) (k : Nat) (hk : 70 ≤ k) : spec_paGood.f k n l = some (goodB n l) := by
  obtain ⟨k, rfl⟩ : ∃ m, k = m + 1 := ⟨k - 1, by omega⟩
  unfold spec_paGood.f
  rw [spec_paPeople.ok]
  simp only [Option.bind_some]
  by_cases hn : crowd n = true
  · have hc : 0 ≤ n ∧ n ≤ 12 := by simpa [crowd] using hn
    rw [if_pos hn, half n hc.1 hc.2]
    simp only [spec_paGood.j0]
    by_cases hl : (l.length : Int) > n * (n - 1) / 2
    · rw [if_pos (by simpa using hl)]
      congr 1
      symm
      rw [Bool.eq_false_iff]
      intro h
      have := goodB_len h
      omega
    · rw [if_neg (by simpa using hl)]
      have h66 : l.length ≤ 66 := by
        obtain ⟨m, rfl⟩ := Int.eq_ofNat_of_zero_le hc.1
        have : m ≤ 12 := by omega
        obtain rfl | rfl | rfl | rfl | rfl | rfl | rfl | rfl | rfl | rfl | rfl | rfl | rfl : m = 0 ∨ m = 1 ∨ m = 2 ∨ m = 3 ∨ m = 4 ∨ m = 5 ∨ m = 6 ∨ m = 7 ∨ m = 8 ∨ m = 9 ∨ m = 10 ∨ m = 11 ∨ m = 12 := by omega
        all_goals omega
      rw [all_loop (fun k i => spec_paGood.l0 k l (l.length : Int) i n l) l.length (stepB n l) (by omega) 0 ?_ ?_ k (by omega)]
      · unfold goodB; rw [hn]; rfl
      · intro k i h _
        have e1 : wrap64 (n - 1) = n - 1 := wrap_id (by omega) (by omega)
        simp only [spec_paGood.l0]
        rw [if_pos (by omega), if_pos (by omega), if_pos (by omega), rd_T89_nat l i h, spec_l1In.ok]
        simp only [Option.bind_some, e1]
        rw [stepB_eq n l i h]
        by_cases hA : 0 ≤ l[i].f0 ∧ l[i].f0 ≤ n - 1
        · have e2 : wrap64 (l[i].f0 + 1) = l[i].f0 + 1 := wrap_id (by omega) (by omega)
          rw [if_pos (by simpa using hA), spec_l1In.ok, e2]
          simp only [Option.bind_some]
          by_cases hB : l[i].f0 + 1 ≤ l[i].f1 ∧ l[i].f1 ≤ n - 1
          · rw [if_pos (by simpa using hB), decide_eq_true (show 0 ≤ l[i].f0 ∧ l[i].f0 < l[i].f1 ∧ l[i].f1 < n from ⟨by omega, by omega, by omega⟩)]
            simp only [Bool.true_and]
            rcases Nat.eq_zero_or_pos i with rfl | hi
            · rw [if_neg (by simp)]; simp
            · have e3 : wrap64 ((i : Int) - 1) = ((i - 1 : Nat) : Int) := by rw [wrap_id (by omega) (by omega)]; omega
              rw [if_pos (by omega), e3, if_pos (by omega), if_pos (by omega), rd_T89_nat l (i - 1) (by omega), spec_paLess.ok]
              simp only [Option.bind_some]
              rw [show (i == 0) = false from by simp; omega, Bool.false_or]
          · rw [if_neg (by simpa using hB), decide_eq_false (show ¬ (0 ≤ l[i].f0 ∧ l[i].f0 < l[i].f1 ∧ l[i].f1 < n) from by omega)]; simp
        · rw [if_neg (by simpa using hA), decide_eq_false (show ¬ (0 ≤ l[i].f0 ∧ l[i].f0 < l[i].f1 ∧ l[i].f1 < n) from by omega)]; simp
      · intro k
        simp only [spec_paGood.l0]
        rw [if_neg (by omega)]
  · have hn : crowd n = false := by simpa using hn
    rw [hn, if_neg (by simp)]
    simp [spec_paGood.j0, goodB, hn]

theorem spec_l1Own.ok (l : List Int) (h : l.length < 17592186044416) : spec_l1Own.f l = some l := by
  unfold spec_l1Own.f
  simp only [Option.bind_some, List.nil_append]
  rw [if_pos (by simpa using h)]

theorem rdL_tabB (n : Nat) (F : Nat → Nat → Bool) (a : Nat) (h : a < n) : rd_L4 (tabB n F) (a : Int) = (List.range n).map (F a) := by
  simp only [rd_L4, Int.toNat_natCast]
  exact tabB_getD n F a h
def ints (bs : List Nat) : List Int := bs.map fun (b : Nat) => (b : Int)
theorem ints_length (bs : List Nat) : (ints bs).length = bs.length := by simp [ints]
theorem rd_ints (bs : List Nat) (i : Nat) (h : i < bs.length) : rd (ints bs) (i : Int) = ((bs[i] : Nat) : Int) := by simp [rd, ints, List.getD, h]
/-- x is a friend of all of some people. -/
def know (F : Nat → Nat → Bool) (bs : List Nat) (x : Nat) : Bool := bs.all (F x)
theorem spec_grJoins.ok (n : Nat) (_hn : n ≤ 12) (F : Nat → Nat → Bool) (bs : List Nat) (a : Nat) (ha : a < n) (hb : ∀ b ∈ bs, b < n) (hl : bs.length ≤ 1048576) : Ev (fun k => spec_grJoins.f k (tabB n F) (ints bs) (a : Int)) (know F bs a) := by
  unfold spec_grJoins.f know
  rw [ints_length]
  refine up_loop (P := fun i => Ev (fun k => spec_grJoins.l0 k (tabB n F) (a : Int) (ints bs) (bs.length : Int) (i : Int)) ((bs.drop i).all (F a))) (n := bs.length) ?_ ?_ 0 (Nat.zero_le _)
  · refine Ev.step (f := fun _ => some true) (fun k => ?_) (by rw [List.drop_length]; exact Ev.now _)
    simp only [spec_grJoins.l0]
    rw [if_neg (by omega)]
  · intro i hi h
    have e : (bs.drop i).all (F a) = (F a bs[i] && (bs.drop (i + 1)).all (F a)) := by rw [List.drop_eq_getElem_cons hi]; rfl
    have hbi := hb bs[i] (List.getElem_mem hi)
    rw [e]
    cases hF : F a bs[i] with
    | false =>
      rw [Bool.false_and]
      refine Ev.step (f := fun _ => some false) (fun k => ?_) (Ev.now _)
      simp only [spec_grJoins.l0]
      rw [if_pos (by omega), if_pos (by omega), if_pos (by rw [ints_length]; omega), if_pos (by omega), if_pos (by rw [tabB_length]; omega), rd_ints bs i hi, if_pos (by omega), rdL_tabB n F a ha, if_pos (by simp; omega), row_get n _ _ hbi, hF, if_neg (by simp)]
    | true =>
      rw [Bool.true_and]
      refine Ev.step (fun k => ?_) h
      simp only [spec_grJoins.l0]
      rw [if_pos (by omega), if_pos (by omega), if_pos (by rw [ints_length]; omega), if_pos (by omega), if_pos (by rw [tabB_length]; omega), rd_ints bs i hi, if_pos (by omega), rdL_tabB n F a ha, if_pos (by simp; omega), row_get n _ _ hbi, hF, if_pos rfl, nat_succ i (by omega)]

theorem two_pow_step (n i : Nat) (h : i < n) : 2 ^ (n - i) = 2 * 2 ^ (n - (i + 1)) := by
  rw [show n - i = (n - (i + 1)) + 1 from by omega, Nat.pow_succ, Nat.mul_comm]
theorem spec_grLook.ok (n : Nat) (hn : n ≤ 12) (F : Nat → Nat → Bool) (hF : ∀ a b, F a b = F b a) : ∀ (m : Nat) (bs : List Nat) (fr : Nat) (xs : List (List Int)), n - fr = m → fr ≤ n → bs.length ≤ fr → (∀ b ∈ bs, b < n) → xs.length + 2 ^ (n - fr) ≤ 4096 →
    ∃ out, Ev (fun k => spec_grLook.f k (tabB n F) (ints bs) (fr : Int) xs) (xs ++ out) ∧ out.length ≤ 2 ^ (n - fr) ∧ (∀ p ∈ out, bs.length ≤ p.length) ∧ ∀ d, (∃ p ∈ out, p.length = bs.length + d) ↔ cl F d ((List.range' fr (n - fr)).filter (know F bs)) = true := by
  intro m
  induction m using Nat.strongRecOn with
  | ind m ih =>
    intro bs fr xs hm hfn hbl hb hx
    have loop := up_loop (P := fun i => fr ≤ i → ∀ acc : List (List Int), acc.length + 2 ^ (n - i) ≤ 4097 → ∃ out, Ev (fun k => spec_grLook.l0 k (tabB n F) (ints bs) (i : Int) acc) (acc ++ out) ∧ out.length + 1 ≤ 2 ^ (n - i) ∧ (∀ p ∈ out, bs.length + 1 ≤ p.length) ∧ ∀ d, (∃ p ∈ out, p.length = bs.length + (d + 1)) ↔ clGo F (cl F d) ((List.range' i (n - i)).filter (know F bs)) = true) (n := n) (by
        intro _ acc _
        refine ⟨[], ?_, by simp, by simp, by simp [clGo]⟩
        rw [List.append_nil]
        refine Ev.step (f := fun _ => some acc) (fun k => ?_) (Ev.now _)
        rw [spec_grLook.l0, if_neg (by rw [tabB_length]; omega)]) (by
        intro i hi h hfi acc hacc
        have hk := spec_grJoins.ok n hn F bs i hi hb (by omega)
        have h2 := two_pow_step n i hi
        have hpos := Nat.two_pow_pos (n - (i + 1))
        rw [range'_cons i n hi]
        have hl0 : ∀ k, spec_grLook.l0 (k + 1) (tabB n F) (ints bs) (i : Int) acc = (spec_grJoins.f k (tabB n F) (ints bs) (i : Int)).bind fun j => if j = true then ((spec_l1Own.f (ints bs)).bind fun q => if q.length < 17592186044416 then ((spec_grLook.f k (tabB n F) (q ++ [(i : Int)]) (wrap64 ((i : Int) + 1)) acc).bind fun ys => spec_grLook.l0 k (tabB n F) (ints bs) (wrap64 ((i : Int) + 1)) ys) else none) else spec_grLook.l0 k (tabB n F) (ints bs) (wrap64 ((i : Int) + 1)) acc := by
          intro k
          rw [spec_grLook.l0, if_pos (by rw [tabB_length]; omega)]
        cases hki : know F bs i with
        | false =>
          obtain ⟨out, o1, o2, o3, o4⟩ := h (by omega) acc (by omega)
          refine ⟨out, ?_, by omega, o3, ?_⟩
          · refine Ev.step hl0 (Ev.bind hk ?_)
            rw [hki]
            refine Ev.ite_neg (by simp) ?_
            rw [nat_succ i (by omega)]
            exact o1
          · rw [List.filter_cons_of_neg (by simp [hki])]
            exact o4
        | true =>
          obtain ⟨oa, a1, a2, a4, a3⟩ := ih (n - (i + 1)) (by omega) (bs ++ [i]) (i + 1) acc rfl (by omega) (by simp; omega) (by
            intro b hbm
            rcases List.mem_append.1 hbm with h | h
            · exact hb b h
            · obtain rfl := List.mem_singleton.1 h
              exact hi) (by omega)
          obtain ⟨out, o1, o2, o3, o4⟩ := h (by omega) (acc ++ oa) (by rw [List.length_append]; omega)
          have hlen : (bs ++ [i]).length = bs.length + 1 := by simp
          have e : (List.range' (i + 1) (n - (i + 1))).filter (know F (bs ++ [i])) = ((List.range' (i + 1) (n - (i + 1))).filter (know F bs)).filter (F i) := by
            rw [List.filter_filter]
            apply List.filter_congr
            intro x _
            simp only [know, List.all_append, List.all_cons, List.all_nil, Bool.and_true]
            rw [hF x i, Bool.and_comm]
          rw [hlen] at a4
          rw [hlen, e] at a3
          refine ⟨oa ++ out, ?_, by rw [List.length_append]; omega, ?_, ?_⟩
          · refine Ev.step hl0 (Ev.bind hk ?_)
            rw [hki, spec_l1Own.ok _ (by rw [ints_length]; omega)]
            refine Ev.ite_pos rfl ?_
            simp only [Option.bind_some]
            refine Ev.ite_pos (by rw [ints_length]; omega) ?_
            have e : ints bs ++ [(i : Int)] = ints (bs ++ [i]) := by simp [ints]
            rw [e, nat_succ i (by omega)]
            refine Ev.bind a1 ?_
            rw [← List.append_assoc]
            exact o1
          · intro p hp
            rcases List.mem_append.1 hp with hp | hp
            · exact a4 p hp
            · exact o3 p hp
          · intro d
            rw [List.filter_cons_of_pos hki]
            simp only [clGo, Bool.or_eq_true]
            rw [← o4 d, ← a3 d]
            constructor
            · rintro ⟨p, hp, hl⟩
              rcases List.mem_append.1 hp with hp | hp
              · exact .inl ⟨p, hp, by omega⟩
              · exact .inr ⟨p, hp, hl⟩
            · rintro (⟨p, hp, hl⟩ | ⟨p, hp, hl⟩)
              · exact ⟨p, List.mem_append_left _ hp, by omega⟩
              · exact ⟨p, List.mem_append_right _ hp, hl⟩)
    obtain ⟨out, o1, o2, o3, o4⟩ := loop fr hfn (Nat.le_refl _) (xs ++ [ints bs]) (by rw [List.length_append, List.length_singleton]; omega)
    refine ⟨[ints bs] ++ out, ?_, by rw [List.length_append, List.length_singleton]; omega, ?_, ?_⟩
    · rw [← List.append_assoc]
      refine Ev.step (fun k => ?_) o1
      rw [spec_grLook.f, spec_l1Own.ok _ (by rw [ints_length]; omega), Option.bind_some, if_pos (by omega)]
    · intro p hp
      rcases List.mem_append.1 hp with hp | hp
      · rw [List.mem_singleton.1 hp, ints_length]; omega
      · have := o3 p hp
        omega
    · intro d
      cases d with
      | zero =>
        refine ⟨fun _ => rfl, fun _ => ⟨ints bs, by simp, by rw [ints_length]; rfl⟩⟩
      | succ d =>
        rw [show cl F (d + 1) ((List.range' fr (n - fr)).filter (know F bs)) = clGo F (cl F d) ((List.range' fr (n - fr)).filter (know F bs)) from rfl, ← o4 d]
        constructor
        · rintro ⟨p, hp, hl⟩
          rcases List.mem_append.1 hp with hp | hp
          · rw [List.mem_singleton.1 hp, ints_length] at hl; omega
          · exact ⟨p, hp, hl⟩
        · rintro ⟨p, hp, hl⟩
          exact ⟨p, List.mem_append_right _ hp, hl⟩
theorem spec_grGroups.ok (n : Nat) (hn : n ≤ 12) (F : Nat → Nat → Bool) (hF : ∀ a b, F a b = F b a) : ∃ out, Ev (fun k => spec_grGroups.f k (tabB n F)) out ∧ out.length ≤ 4096 ∧ ∀ d, (∃ p ∈ out, p.length = d) ↔ cl F d (List.range n) = true := by
  have hp : 2 ^ (n - 0) ≤ 2 ^ 12 := Nat.pow_le_pow_right (by omega) (by omega)
  obtain ⟨out, h1, h2, _, h3⟩ := spec_grLook.ok n hn F hF (n - 0) [] 0 [] rfl (by omega) (by simp) (by simp) (by simpa using hp)
  refine ⟨out, ?_, Nat.le_trans h2 hp, fun d => ?_⟩
  · rw [List.nil_append] at h1
    exact h1
  · have := h3 d
    have e : (List.range' 0 (n - 0)).filter (know F []) = List.range n := by
      rw [Nat.sub_zero, List.range_eq_range', List.filter_eq_self]
      intro a _; rfl
    rw [e] at this
    simpa using this

/-- Two people are friends. -/
def adj (l : List S89) (a b : Nat) : Bool := l.any fun x => decide (x.f0.toNat = a ∧ x.f1.toNat = b ∨ x.f1.toNat = a ∧ x.f0.toNat = b)
theorem adj_symm (l : List S89) (a b : Nat) : adj l a b = adj l b a := by
  unfold adj
  congr 1
  funext x
  rw [decide_eq_decide]
  constructor <;> intro h <;> omega
/-- All pairs are of people below n. -/
def pin (n : Nat) (l : List S89) : Prop := ∀ x ∈ l, 0 ≤ x.f0 ∧ x.f0 < n ∧ 0 ≤ x.f1 ∧ x.f1 < n
theorem adj_take (l : List S89) (i : Nat) (hi : i < l.length) : adj (l.take (i + 1)) = upd (upd (adj (l.take i)) l[i].f0.toNat l[i].f1.toNat true) l[i].f1.toNat l[i].f0.toNat true := by
  funext x y
  unfold adj upd
  rw [List.take_succ_eq_append_getElem hi, List.any_append]
  simp only [List.any_cons, List.any_nil, Bool.or_false]
  by_cases h1 : x = l[i].f1.toNat ∧ y = l[i].f0.toNat
  · rw [if_pos h1, decide_eq_true (by omega), Bool.or_true]
  · by_cases h2 : x = l[i].f0.toNat ∧ y = l[i].f1.toNat
    · rw [if_neg h1, if_pos h2, decide_eq_true (by omega), Bool.or_true]
    · rw [if_neg h1, if_neg h2, decide_eq_false (by omega), Bool.or_false]
theorem tabB_none (n : Nat) : List.replicate n (List.replicate n false) = tabB n (adj []) := by
  apply List.ext_getElem (by simp [tabB])
  intro i h1 h2
  simp only [List.getElem_replicate, tabB, List.getElem_map]
  apply List.ext_getElem (by simp)
  intro j g1 g2
  simp [adj]
theorem spec_paTable.ok (n : Nat) (hn : n ≤ 12) (l : List S89) (hl : l.length ≤ 1048576) (hp : pin n l) : Ev (fun k => spec_paTable.f k (n : Int) l) (tabB n (adj l)) := by
  have h1 : Ev (fun k => spec_paTable.l1 k (tabB n (adj (l.take 0))) l (l.length : Int) ((0 : Nat) : Int)) (tabB n (adj l)) := by
    refine up_loop (P := fun i => Ev (fun k => spec_paTable.l1 k (tabB n (adj (l.take i))) l (l.length : Int) (i : Int)) (tabB n (adj l))) (n := l.length) ?_ ?_ 0 (Nat.zero_le _)
    · refine Ev.step (f := fun _ => some (tabB n (adj l))) (fun k => ?_) (Ev.now _)
      simp only [spec_paTable.l1]
      rw [if_neg (by omega), List.take_length]
    · intro i hi h
      refine Ev.step (fun k => ?_) h
      obtain ⟨q0, q1, q2, q3⟩ := hp l[i] (List.getElem_mem hi)
      obtain ⟨a, ea⟩ := Int.eq_ofNat_of_zero_le q0
      obtain ⟨b, eb⟩ := Int.eq_ofNat_of_zero_le q2
      have ha : a < n := by omega
      have hb : b < n := by omega
      simp only [spec_paTable.l1, Option.bind_some]
      rw [if_pos (by omega), if_pos (by omega), if_pos (by omega), rd_T89_nat l i hi, ea, eb, rdL_tabB n _ a ha, if_pos (by omega), if_pos (by rw [tabB_length]; omega), if_pos (by omega), if_pos (by simp; omega), if_pos (by rw [tabB_length]; omega)]
      simp only [Int.toNat_natCast]
      rw [tabB_set n _ a b true ha, rdL_tabB n _ b hb, if_pos (by simp; omega), tabB_set n _ b a true hb, nat_succ i (by omega), adj_take l i hi, ea, eb]
      simp only [Int.toNat_natCast]
  unfold spec_paTable.f
  have h0 := up_loop (P := fun i => Ev (fun k => spec_paTable.l0 k (List.replicate i (List.replicate n false)) (i : Int) (n : Int) l) (tabB n (adj l))) (n := n) (by
      refine Ev.step (fun k => ?_) h1
      simp only [spec_paTable.l0]
      rw [if_neg (by omega), tabB_none]
      rfl) (by
      intro i hi h
      refine Ev.step (fun k => ?_) h
      simp only [spec_paTable.l0]
      rw [if_pos (by omega), if_pos (by omega), if_pos (by omega), if_pos (by simp; omega), nat_succ i (by omega), List.replicate_succ']
      rfl) 0 (Nat.zero_le _)
  exact h0

theorem goodB_pin {n : Int} {l : List S89} (h : goodB n l = true) : pin n.toNat l := by
  intro x hx
  obtain ⟨i, hi, rfl⟩ := List.getElem_of_mem hx
  have := (goodB_step h i hi).1
  have := goodB_people h
  omega
def lacks (n : Int) (l : List S89) (s : Int) : Bool × Bool := if goodB n l = true ∧ 1 ≤ s ∧ s ≤ 12 then (!cl (adj l) s.toNat (List.range n.toNat), true) else (false, false)
theorem spec_LacksGroup.loop (gs : List (List Int)) (hg : gs.length ≤ 4096) (s : Nat) : Ev (fun k => spec_LacksGroup.l0 k (s : Int) gs (gs.length : Int) ((0 : Nat) : Int)) (!decide (∃ p ∈ gs, p.length = s), true) := by
  have key := up_loop (P := fun i => Ev (fun k => spec_LacksGroup.l0 k (s : Int) gs (gs.length : Int) (i : Int)) (!decide (∃ p ∈ gs.drop i, p.length = s), true)) (n := gs.length) (by
      refine Ev.step (f := fun _ => some (true, true)) (fun k => ?_) (by rw [List.drop_length]; simpa using Ev.now (true, true))
      rw [spec_LacksGroup.l0, if_neg (by omega)]) (by
      intro i hi h
      have hr : rd_L6 gs (i : Int) = gs[i] := by simp [rd_L6, List.getD, hi]
      have hl0 : ∀ k, spec_LacksGroup.l0 (k + 1) (s : Int) gs (gs.length : Int) (i : Int) = if ((gs[i].length : Nat) : Int) = (s : Int) then some (false, true) else spec_LacksGroup.l0 k (s : Int) gs (gs.length : Int) ((i + 1 : Nat) : Int) := by
        intro k
        rw [spec_LacksGroup.l0, if_pos (by omega), if_pos (by omega), if_pos (by omega), hr, nat_succ i (by omega)]
      have hd : gs.drop i = gs[i] :: gs.drop (i + 1) := List.drop_eq_getElem_cons hi
      refine Ev.step hl0 ?_
      by_cases e : gs[i].length = s
      · refine Ev.ite_pos (by omega) ?_
        have : (∃ p ∈ gs.drop i, p.length = s) := ⟨gs[i], by rw [hd]; exact List.mem_cons_self, e⟩
        rw [decide_eq_true this]
        exact Ev.now _
      · refine Ev.ite_neg (by omega) ?_
        have : (∃ p ∈ gs.drop i, p.length = s) ↔ (∃ p ∈ gs.drop (i + 1), p.length = s) := by
          rw [hd]
          constructor
          · rintro ⟨p, hp, hl⟩
            rcases List.mem_cons.1 hp with rfl | hp
            · exact absurd hl e
            · exact ⟨p, hp, hl⟩
          · rintro ⟨p, hp, hl⟩
            exact ⟨p, List.mem_cons_of_mem _ hp, hl⟩
        rw [decide_eq_decide.2 this]
        exact h) 0 (Nat.zero_le _)
  rw [List.drop_zero] at key
  exact key
theorem spec_LacksGroup.ok (n : Int) (l : List S89) (s : Int) : Ev (fun k => spec_LacksGroup.f k n l s) (lacks n l s) := by
  unfold spec_LacksGroup.f lacks
  refine Ev.bind (ev_of 70 fun k hk => spec_paGood.ok n l k hk) ?_
  by_cases hg : goodB n l = true
  · refine Ev.ite_pos hg ?_
    rw [spec_l1In.ok]
    simp only [Option.bind_some]
    by_cases hs : 1 ≤ s ∧ s ≤ 12
    · rw [if_pos ⟨hg, hs⟩]
      have hp := goodB_people hg
      have h66 := goodB_len66 hg
      have h1 := spec_paTable.ok n.toNat (by omega) l (by omega) (goodB_pin hg)
      rw [Int.toNat_of_nonneg hp.1] at h1
      obtain ⟨gs, h2, h3, h4⟩ := spec_grGroups.ok n.toNat (by omega) (adj l) (adj_symm l)
      have h5 := spec_LacksGroup.loop gs h3 s.toNat
      rw [Int.toNat_of_nonneg (show 0 ≤ s by omega)] at h5
      have e : (!decide (∃ p ∈ gs, p.length = s.toNat)) = !cl (adj l) s.toNat (List.range n.toNat) := by
        congr 1
        rw [Bool.eq_iff_iff, decide_eq_true_eq]
        exact h4 s.toNat
      rw [e] at h5
      refine Ev.step (fun k => ?_) (Ev.bind h1 (f := fun k t167 => (spec_grGroups.f k t167).bind fun t170 => spec_LacksGroup.l0 k s t170 (t170.length : Int) 0) (Ev.bind h2 h5))
      rw [spec_LacksGroup.j0, decide_eq_true hs, if_neg (by simp)]
    · rw [if_neg (fun h => hs h.2)]
      refine Ev.step (f := fun _ => some (false, false)) (fun k => ?_) (Ev.now _)
      rw [spec_LacksGroup.j0, decide_eq_false hs, if_pos (by simp)]
  · refine Ev.ite_neg hg ?_
    rw [if_neg (fun h => hg h.1)]
    refine Ev.step (f := fun _ => some (false, false)) (fun k => ?_) (Ev.now _)
    rw [spec_LacksGroup.j0, if_pos rfl]

theorem cmp_Compare_int.ok (a b : Int) : cmp_Compare_int.f a b = some (if a < b then -1 else if a > b then 1 else 0) := by
  unfold cmp_Compare_int.f cmp_isNaN_int.f
  simp only [Option.bind_some, bne_self_eq_false]
  rw [if_neg (by simp), if_neg (by simp)]
  split <;> (try split) <;> rfl
def cmpI (a b c d : Int) : Int := if a < c then -1 else if a > c then 1 else if b < d then -1 else if b > d then 1 else 0
theorem cmp_Or_int.two (k : Nat) (x y : Int) : cmp_Or_int.f (k + 3) [x, y] = some (if x = 0 then y else x) := by
  unfold cmp_Or_int.f
  simp only [cmp_Or_int.l0, List.length_cons, List.length_nil, rd]
  by_cases hx : x = 0
  · by_cases hy : y = 0
    · simp [hx, hy, wrap_one, wrap_two]
    · simp [hx, hy, wrap_one]
  · simp [hx]
theorem impl_comparePairs.ok (k : Nat) (hk : 3 ≤ k) (a b c d : Int) : impl_comparePairs.f k a b c d = some (cmpI a b c d) := by
  obtain ⟨k, rfl⟩ : ∃ m, k = m + 3 := ⟨k - 3, by omega⟩
  unfold impl_comparePairs.f cmpI
  simp only [cmp_Compare_int.ok, Option.bind_some, cmp_Or_int.two]
  split
  · simp
  · split <;> simp
theorem cmpI_neg (x y : S89) : (cmpI x.f0 x.f1 y.f0 y.f1 ≥ 0) = (lessB x y = false) := by
  unfold cmpI lessB
  rw [eq_iff_iff, decide_eq_false_iff_not]
  split
  · constructor <;> intro h <;> omega
  · split
    · constructor <;> intro h <;> omega
    · split
      · constructor <;> intro h <;> omega
      · split <;> constructor <;> intro h <;> omega

theorem impl_areCrowd.ok (n : Int) : impl_areCrowd.f n = some (crowd n) := by unfold impl_areCrowd.f crowd; simp [impl_within.ok]

theorem impl_IsParty.ok (n : Int) (l : List S89) (hl : l.length ≤ 1048576) (k : Nat) (hk : l.length + 4 < k) : impl_IsParty.f k n l = some (goodB n l) := by
  unfold impl_IsParty.f
  rw [all_loop_fin (fun k i => impl_IsParty.l0 k l (l.length : Int) i n l) l.length (stepB n l) (crowd n) (by omega) 3 ?_ ?_ k (by omega)]
  · unfold goodB; rw [Bool.and_comm]
  · intro k i h hk3
    simp only [impl_IsParty.l0]
    rw [if_pos (by omega), if_pos (by omega), if_pos (by omega), rd_T89_nat l i h, stepB_eq n l i h]
    by_cases h1 : 0 ≤ l[i].f0 ∧ l[i].f0 < l[i].f1 ∧ l[i].f1 < n
    · rw [if_neg (by omega), if_neg (by omega), if_neg (by omega), decide_eq_true h1, Bool.true_and]
      rcases Nat.eq_zero_or_pos i with rfl | hi
      · rw [if_neg (by simp)]; simp
      · have e3 : wrap64 ((i : Int) - 1) = ((i - 1 : Nat) : Int) := by rw [wrap_id (by omega) (by omega)]; omega
        rw [if_pos (by omega), e3, if_pos (by omega), if_pos (by omega), rd_T89_nat l (i - 1) (by omega), impl_comparePairs.ok _ hk3]
        simp only [Option.bind_some, cmpI_neg]
        rw [show (i == 0) = false from by simp; omega, Bool.false_or]
        cases lessB l[i - 1] l[i] <;> rfl
    · rw [decide_eq_false h1, Bool.false_and]
      simp only [Bool.false_eq_true, if_false]
      by_cases a1 : l[i].f0 < 0
      · rw [if_pos a1]
      · rw [if_neg a1]
        by_cases a2 : l[i].f0 ≥ l[i].f1
        · rw [if_pos a2]
        · rw [if_neg a2, if_pos (by omega)]
  · intro k hk3
    simp only [impl_IsParty.l0]
    rw [if_neg (by omega), impl_areCrowd.ok]; rfl

theorem tabI_none (n : Nat) : List.replicate n (0 : Int) = tabI n (adj []) := by
  apply List.ext_getElem (by simp [tabI])
  intro i h1 h2
  have : msk (adj [] i) n = 0 := by
    apply Nat.eq_of_testBit_eq
    intro j
    rw [msk_testBit]
    simp [adj]
  simp [tabI, this]
theorem impl_Party_table.ok (n : Nat) (hn : n ≤ 12) (l : List S89) (hl : l.length ≤ 1048576) (hp : pin n l) : Ev (fun k => impl_Party_table.f k (n : Int) l) (tabI n (adj l)) := by
  have h1 : Ev (fun k => impl_Party_table.l0 k (tabI n (adj (l.take 0))) l (l.length : Int) ((0 : Nat) : Int)) (tabI n (adj l)) := by
    refine up_loop (P := fun i => Ev (fun k => impl_Party_table.l0 k (tabI n (adj (l.take i))) l (l.length : Int) (i : Int)) (tabI n (adj l))) (n := l.length) ?_ ?_ 0 (Nat.zero_le _)
    · refine Ev.step (f := fun _ => some (tabI n (adj l))) (fun k => ?_) (Ev.now _)
      simp only [impl_Party_table.l0]
      rw [if_neg (by omega), List.take_length]
    · intro i hi h
      refine Ev.step (fun k => ?_) h
      obtain ⟨q0, q1, q2, q3⟩ := hp l[i] (List.getElem_mem hi)
      obtain ⟨a, ea⟩ := Int.eq_ofNat_of_zero_le q0
      obtain ⟨b, eb⟩ := Int.eq_ofNat_of_zero_le q2
      have ha : a < n := by omega
      have hb : b < n := by omega
      simp only [impl_Party_table.l0, Option.bind_some]
      rw [if_pos (by omega), if_pos (by omega), if_pos (by omega), rd_T89_nat l i hi, ea, eb, tabI_rd n _ a ha, if_pos (by omega), if_pos (by rw [tabI_length]; omega), if_pos (by omega), if_pos (by rw [tabI_length]; omega)]
      simp only [Int.toNat_natCast]
      rw [tabI_set n _ a b (by omega) ha hb, tabI_rd n _ b hb, tabI_set n _ b a (by omega) hb ha, nat_succ i (by omega), adj_take l i hi, ea, eb]
      simp only [Int.toNat_natCast]
  unfold impl_Party_table.f
  refine Ev.congr (fun k => ?_) h1
  rw [if_pos (by omega), if_pos (by omega)]
  simp only [Int.toNat_natCast, tabI_none, List.take_zero]
  rfl

set_option maxRecDepth 100000 in
theorem impl_table_hasGroup.ok (n : Nat) (hn : n ≤ 16) (F : Nat → Nat → Bool) : ∀ (size : Nat), size ≤ 1000 → ∀ (s : Nat), s < 65536 → (∀ i, s.testBit i = true → i < n) → Ev (fun k => impl_table_hasGroup.f k (tabI n F) (s : Int) (size : Int)) (cl F size (bof s)) := by
  intro size
  induction size with
  | zero =>
    intro _ s _ _
    refine Ev.step (f := fun _ => some true) (fun k => ?_) (Ev.now _)
    simp only [impl_table_hasGroup.f]
    rw [if_pos (by omega)]
  | succ size ih =>
    intro hsz
    have key : ∀ (m s : Nat), (bof s).length = m → s < 65536 → (∀ i, s.testBit i = true → i < n) → Ev (fun k => impl_table_hasGroup.l0 k (tabI n F) (s : Int) ((size + 1 : Nat) : Int)) (clGo F (cl F size) (bof s)) := by
      intro m
      induction m with
      | zero =>
        intro s hm hs _
        have e := bof_nil s hs (List.length_eq_zero_iff.1 hm)
        rw [List.length_eq_zero_iff.1 hm]
        refine Ev.step (f := fun _ => some false) (fun k => ?_) (Ev.now _)
        simp only [impl_table_hasGroup.l0, bits_OnesCount16.f]
        rw [if_pos (by omega)]
        simp only [Option.bind_some, Int.toNat_natCast]
        rw [if_neg (by rw [popN_bof, hm]; omega)]
      | succ m ihm =>
        intro s hm hs hbits
        by_cases hc : size + 1 ≤ m + 1
        · have h0 : s ≠ 0 := by rintro rfl; rw [bof_zero] at hm; cases hm
          obtain ⟨c1, c2, c3⟩ := ctz_bit s h0 hs
          have hcn := hbits _ c1
          obtain ⟨t, ht, et, hbt⟩ := sub_bits s (msk (F (Go.Lib.ctz 16 s)) n) _ hs (msk_lt16 _ _ hn) h0 rfl
          have es := bof_step s h0 hs
          have hbt2 : ∀ i, i < 16 → t.testBit i = (s.testBit i && (i != Go.Lib.ctz 16 s) && F (Go.Lib.ctz 16 s) i) := by
            intro i hi
            rw [hbt i hi, msk_testBit]
            cases hsi : s.testBit i with
            | false => simp
            | true => rw [decide_eq_true (hbits i hsi)]; simp
          have esub := bof_sub s (Go.Lib.ctz 16 s) (F (Go.Lib.ctz 16 s)) t hbt2 (s &&& (s - 1)) (fun i _ => low_testBit s h0 hs i)
          have ht16 : ∀ i, t.testBit i = true → i < n := by
            intro i hi
            by_cases h16 : i < 16
            · rw [hbt2 i h16] at hi
              simp only [Bool.and_eq_true] at hi
              exact hbits i hi.1.1
            · rw [Nat.testBit_lt_two_pow (Nat.lt_of_lt_of_le ht (show 2 ^ 16 ≤ 2 ^ i from Nat.pow_le_pow_right (by omega) (by omega)))] at hi
              cases hi
          have hl16 : s &&& (s - 1) < 65536 := Nat.lt_of_le_of_lt Nat.and_le_left hs
          have hlb : ∀ i, (s &&& (s - 1)).testBit i = true → i < n := by
            intro i hi
            rw [low_testBit s h0 hs] at hi
            simp only [Bool.and_eq_true] at hi
            exact hbits i hi.1
          have hlen : (bof (s &&& (s - 1))).length = m := by
            rw [es] at hm
            simpa using hm
          have r1 := ih (by omega) t ht ht16
          have r2 := ihm (s &&& (s - 1)) hlen hl16 hlb
          rw [es]
          simp only [clGo]
          rw [esub] at r1
          refine Ev.step (fun k => ?_) (Ev.bind r1 (f := fun k t254 => if t254 = true then some true else impl_table_hasGroup.l0 k (tabI n F) ((s &&& (s - 1) : Nat) : Int) ((size + 1 : Nat) : Int)) ?_)
          · rw [impl_table_hasGroup.l0, bits_OnesCount16.f, if_pos (by omega), Option.bind_some, Int.toNat_natCast, if_pos (by rw [popN_bof, hm]; omega), bits_TrailingZeros16.f, if_pos (by omega), Option.bind_some]
            have ec : ctz16 (s : Int) = ((Go.Lib.ctz 16 s : Nat) : Int) := by simp [ctz16]
            rw [ec, if_pos (by omega), if_pos (by rw [tabI_length]; omega), tabI_rd n F _ hcn, et, low_bits s hs h0]
            rw [show wrap64 (((size + 1 : Nat) : Int) - 1) = (size : Int) from by rw [wrap_id (by omega) (by omega)]; omega]
          · cases hq : cl F size ((bof (s &&& (s - 1))).filter (F (Go.Lib.ctz 16 s))) with
            | true => exact Ev.ite_pos rfl (Ev.now _)
            | false =>
              refine Ev.ite_neg (by simp) ?_
              simpa using r2
        · have hsh := cl_short F (size + 1) (bof s) (by omega)
          simp only [cl] at hsh
          rw [hsh]
          refine Ev.step (f := fun _ => some false) (fun k => ?_) (Ev.now _)
          simp only [impl_table_hasGroup.l0, bits_OnesCount16.f]
          rw [if_pos (by omega)]
          simp only [Option.bind_some, Int.toNat_natCast]
          rw [if_neg (by rw [popN_bof, hm]; omega)]
    intro s hs hb
    refine Ev.step (fun k => ?_) (key _ s rfl hs hb)
    simp only [impl_table_hasGroup.f]
    rw [if_neg (by omega)]

theorem impl_table_all.ok (n : Nat) (hn : n ≤ 12) (F : Nat → Nat → Bool) : impl_table_all.f (tabI n F) = some ((msk (fun _ => true) n : Nat) : Int) := by
  unfold impl_table_all.f
  rw [tabI_length, all_bits n hn]

theorem impl_LacksGroup.ok (n : Int) (l : List S89) (hl : l.length ≤ 1048576) (s : Int) : Ev (fun k => impl_LacksGroup.f k n l s) (lacks n l s) := by
  unfold impl_LacksGroup.f lacks
  refine Ev.bind (ev_of (l.length + 5) fun k hk => impl_IsParty.ok n l hl k (by omega)) ?_
  by_cases hg : goodB n l = true
  · refine Ev.ite_pos hg ?_
    rw [impl_within.ok]
    simp only [Option.bind_some]
    by_cases hs : 1 ≤ s ∧ s ≤ 12
    · rw [if_pos ⟨hg, hs⟩]
      have hp := goodB_people hg
      have h66 := goodB_len66 hg
      have hb : ∀ i, (msk (fun _ => true) n.toNat).testBit i = true → i < n.toNat := by
        intro i hi
        rw [msk_testBit] at hi
        simpa using hi
      have h1 := impl_Party_table.ok n.toNat (by omega) l (by omega) (goodB_pin hg)
      have h2 := impl_table_hasGroup.ok n.toNat (by omega) (adj l) s.toNat (by omega) _ (msk_lt16 (fun _ => true) n.toNat (by omega)) hb
      rw [Int.toNat_of_nonneg hp.1] at h1
      rw [Int.toNat_of_nonneg (show 0 ≤ s by omega), bof_all _ (by omega)] at h2
      refine Ev.step (fun k => ?_) (Ev.bind h1 (f := fun k t209 => (impl_Party_table.f k n l).bind fun t212 => (impl_table_all.f t212).bind fun t215 => (impl_table_hasGroup.f k t209 t215 s).bind fun t216 => some (!t216, true)) (Ev.bind h1 ?_))
      · rw [impl_LacksGroup.j0, decide_eq_true hs, if_neg (by simp)]
      · simp only [impl_table_all.ok n.toNat (by omega), Option.bind_some]
        exact Ev.bind h2 (Ev.now _)
    · rw [if_neg (fun h => hs h.2)]
      refine Ev.step (f := fun _ => some (false, false)) (fun k => ?_) (Ev.now _)
      rw [impl_LacksGroup.j0, decide_eq_false hs, if_pos (by simp)]
  · refine Ev.ite_neg hg ?_
    rw [if_neg (fun h => hg h.1)]
    refine Ev.step (f := fun _ => some (false, false)) (fun k => ?_) (Ev.now _)
    rw [impl_LacksGroup.j0, if_pos rfl]

end Go.Proofs.YtomlbbnoicpfpaaDoor.PFnExactLacksGroup
namespace Go.Proofs.YtomlbbnoicpfpaaDoor
open Go.RowKit Go.Proofs.YtomlbbnoicpfpaaDoor.Base Go.Proofs.YtomlbbnoicpfpaaDoor.PFnExactLacksGroup Go.Proofs.YtomlbbnoicpfpaaDoorW.PrintWords Go.Proofs.YtomlbbnoicpfpaaDoorW.PrintLast Go.Proofs.YtomlbbnoicpfpaaDoorW.PrintMore
theorem fnExactLacksGroup_pure : fnExactLacksGroup.Pure := by
  intro n l s hn hl hs
  have hm := hl.1
  refine Ev.rounds (g := fun k => laws_FnExactLacksGroup.f k n l s) ?_
  unfold laws_FnExactLacksGroup.f
  rw [laws_szParty.ok n l _ (by omega) (by omega) hl.1]
  simp only [Option.bind_some]
  by_cases h0 : (1048576 : Int) - l.length < 0
  · rw [if_pos h0]
    exact Ev.ite_pos (by omega) (Ev.now _)
  · rw [if_neg h0]
    refine Ev.ite_neg (by omega) ?_
    have hlen : l.length ≤ 1048576 := by omega
    have hpl : (prs l).length ≤ 1048576 := by rw [prs_length]; exact hlen
    have ht : Ev (fun k => laws_toParty.f k n l) (n, prs l) := ev_of (l.length + 1) fun k hk => laws_toParty.ok n l hlen k (by omega)
    refine Ev.bind ht ?_
    refine Ev.bind (spec_LacksGroup.ok n (prs l) s) ?_
    refine Ev.bind ht ?_
    refine Ev.bind (impl_LacksGroup.ok n (prs l) hpl s) ?_
    refine Ev.ite_neg (by simp) (Ev.ite_neg (by simp) (Ev.bind ht ?_))
    refine Ev.bind (ev_of ((prs l).length + 1) fun k hk => laws_eqParty.refl n (prs l) hpl k (by omega)) ?_
    exact Ev.ite_pos rfl (Ev.now _)
theorem fnExactLacksGroup_holds : Rows.FnExactLacksGroupCardSaid := fnExactLacksGroup.proved fnExactLacksGroup_pure
end Go.Proofs.YtomlbbnoicpfpaaDoor
