/- FnThreesCounted: threes are counted by lists and by numbers of friends alike, there are no fewer than the least ones, and forks go with threes. Condition: the tables lie as their initialisers lay them (the card's own). -/
import Derived.Test.YtbjmkkgejekpnaaDoorLawFnThreesCounted
import Derived.Test.YtbjmkkgejekpnaaDoorPBase
import Derived.Test.YtbjmkkgejekpnaaDoorGraph
namespace Go.Proofs.YtbjmkkgejekpnaaDoor.PFnThreesCounted
set_option linter.unusedVariables false
set_option linter.unusedSimpArgs false
open Go.RowKit Go.Proofs.YtbjmkkgejekpnaaDoor.Base Go.Proofs.YtbjmkkgejekpnaaDoor.PFnThreesCounted Go.Proofs.YtbjmkkgejekpnaaDoorW.PrintWords Go.Proofs.YtbjmkkgejekpnaaDoorW.PrintLast Go.Proofs.YtbjmkkgejekpnaaDoorW.PrintMore
theorem laws_vSame.refl (l : List Int) (hl : l.length ≤ 1048576) : Ev (fun k => laws_vSame.f k l l) true := by
  unfold laws_vSame.f
  refine Ev.ite_pos rfl ?_
  refine up_loop (P := fun i => Ev (fun k => laws_vSame.l0 k l l (l.length : Int) (i : Int)) true) (n := l.length) ?_ ?_ 0 (Nat.zero_le _)
  · refine Ev_succ ?_
    simp only [laws_vSame.l0]
    exact Ev.ite_neg (by omega) (Ev.now _)
  · intro i hi h
    refine Ev_succ ?_
    simp only [laws_vSame.l0, nat_succ i (by omega)]
    exact Ev.ite_pos (by omega) (Ev.ite_pos (by omega) (Ev.ite_pos (by omega) (Ev.ite_pos (by omega) (Ev.ite_pos trivial h))))
theorem laws_vLists.refl (L : List (List Int)) (hl : L.length ≤ 1048576) (hs : ∀ l ∈ L, l.length ≤ 1048576) : Ev (fun k => laws_vLists.f k L L) true := by
  unfold laws_vLists.f
  refine Ev.ite_pos rfl ?_
  refine up_loop (P := fun i => Ev (fun k => laws_vLists.l0 k L L (L.length : Int) (i : Int)) true) (n := L.length) ?_ ?_ 0 (Nat.zero_le _)
  · refine Ev_succ ?_
    simp only [laws_vLists.l0]
    exact Ev.ite_neg (by omega) (Ev.now _)
  · intro i hi h
    have hr : rd_L2 L (i : Int) = L[i] := by simp [rd_L2, List.getD, hi]
    refine Ev_succ ?_
    simp only [laws_vLists.l0, nat_succ i (by omega), hr]
    exact Ev.ite_pos (by omega) (Ev.ite_pos (by omega) (Ev.ite_pos (by omega) (Ev.ite_pos (by omega) (Ev.bind (laws_vSame.refl _ (hs _ (List.getElem_mem hi))) (Ev.ite_pos rfl h)))))
def byteL (l : List Int) : Prop := ∀ x ∈ l, 0 ≤ x ∧ x ≤ 255
theorem byteL_of {l : List Int} (h : ∀ x_ ∈ l, (Lit.int .u8 x_).wf = true) : byteL l := fun x hx => by
  have := h x hx
  have : IntKind.u8.min ≤ x ∧ x ≤ IntKind.u8.max := by simpa [Lit.wf] using this
  exact this
theorem byte_and (x : Int) : 0 ≤ Go.bits .and .u64 x 255 ∧ Go.bits .and .u64 x 255 ≤ 255 := by
  have h : ((BitVec.ofInt 64 x) &&& (BitVec.ofInt 64 255)).toNat ≤ 255 := by
    rw [BitVec.toNat_and]
    exact Nat.and_le_right
  have e : Go.bits .and .u64 x 255 = IntKind.u64.wrap ((((BitVec.ofInt 64 x) &&& (BitVec.ofInt 64 255)).toNat : Nat) : Int) := rfl
  rw [e, IntKind.wrap_u64]
  omega
theorem spec_l1Cur_next.ok (l : List Int) (hb : byteL l) (i c : Int) (h0 : 0 ≤ i) (h1 : i ≤ 100000) : ∃ v d, spec_l1Cur_next.f l i c = some (v, i + 1, d) ∧ 0 ≤ v ∧ v ≤ 255 := by
  have hx : ∀ x : Int, 0 ≤ x ∧ x ≤ 255 → 0 ≤ wrap64 x ∧ wrap64 x ≤ 255 := fun x hx => by rw [wrap_id (by omega) (by omega)]; exact hx
  unfold spec_l1Cur_next.f
  rw [wrap_id (x := i + 1) (by omega) (by omega)]
  by_cases h : i < (l.length : Int)
  · obtain ⟨n, rfl⟩ := Int.eq_ofNat_of_zero_le h0
    have hn : n < l.length := by omega
    have hr : rd l (n : Int) = l[n] := by simp [rd, List.getD, hn]
    have := hb l[n] (List.getElem_mem hn)
    rw [if_pos h, if_pos h0, if_pos (by omega), hr]
    exact ⟨_, _, rfl, hx _ this⟩
  · rw [if_neg h, if_neg (by omega)]
    exact ⟨_, _, rfl, hx _ (byte_and _)⟩
theorem spec_l1Cur_pick.ok (l : List Int) (hb : byteL l) (i c a : Int) (h0 : 0 ≤ i) (h1 : i ≤ 50000) : ∃ v j d, spec_l1Cur_pick.f l i c a = some (v, j, d) ∧ i ≤ j ∧ j ≤ i + 2 ∧ 0 ≤ v ∧ (a ≤ 1 → v = 0) ∧ (1 ≤ a → v < a) := by
  unfold spec_l1Cur_pick.f
  by_cases ha : a ≤ 1
  · rw [if_pos ha]
    exact ⟨_, _, _, rfl, by omega, by omega, Int.le_refl _, fun _ => rfl, fun _ => by omega⟩
  · rw [if_neg ha]
    obtain ⟨v, d, e, v0, v1⟩ := spec_l1Cur_next.ok l hb i c h0 (by omega)
    rw [e, Option.bind_some]
    by_cases h2 : a > 200
    · rw [if_pos h2]
      obtain ⟨v', d', e', v0', v1'⟩ := spec_l1Cur_next.ok l hb (i + 1) d (by omega) (by omega)
      simp only
      rw [e', Option.bind_some, if_neg (by omega)]
      refine ⟨_, _, _, rfl, by simp only; omega, by simp only; omega, ?_, fun _ => by omega, fun _ => Int.tmod_lt_of_pos _ (by omega)⟩
      rw [wrap_id (x := v * 256) (by omega) (by omega), wrap_id (x := v * 256 + v') (by omega) (by omega)]
      exact Int.tmod_nonneg _ (by omega)
    · rw [if_neg h2, if_neg (by omega)]
      exact ⟨_, _, _, rfl, by simp only; omega, by simp only; omega, Int.tmod_nonneg _ v0, fun _ => by omega, fun _ => Int.tmod_lt_of_pos _ (by omega)⟩
theorem spec_l1Cur_among.ok (l : List Int) (hb : byteL l) (i c : Int) (xs : List Int) (hx : xs ≠ []) (h0 : 0 ≤ i) (h1 : i ≤ 50000) : ∃ v j d, spec_l1Cur_among.f l i c xs = some (v, j, d) ∧ i ≤ j ∧ j ≤ i + 2 := by
  have := List.length_pos_iff.2 hx
  obtain ⟨v, j, d, e, h2, h3, h4, _, h5⟩ := spec_l1Cur_pick.ok l hb i c xs.length h0 h1
  unfold spec_l1Cur_among.f
  rw [e, Option.bind_some]
  simp only
  rw [if_pos h4, if_pos (h5 (by omega))]
  exact ⟨_, _, _, rfl, h2, h3⟩
theorem rd_T43_nat (l : List S43) (i : Nat) (h : i < l.length) : rd_T43 l (i : Int) = l[i] := by simp [rd_T43, List.getD, h]
theorem rdL_tabB (n : Nat) (F : Nat → Nat → Bool) (a : Nat) (h : a < n) : rd_L5 (tabB n F) (a : Int) = (List.range n).map (F a) := by
  simp only [rd_L5, Int.toNat_natCast]
  exact tabB_getD n F a h
def adj (l : List S43) (a b : Nat) : Bool := l.any fun x => decide (x.f0.toNat = a ∧ x.f1.toNat = b ∨ x.f1.toNat = a ∧ x.f0.toNat = b)
theorem adj_symm (l : List S43) (a b : Nat) : adj l a b = adj l b a := by
  unfold adj
  congr 1
  funext x
  rw [decide_eq_decide]
  constructor <;> intro h <;> omega
def pin (n : Nat) (l : List S43) : Prop := ∀ x ∈ l, 0 ≤ x.f0 ∧ x.f0 < n ∧ 0 ≤ x.f1 ∧ x.f1 < n
theorem adj_take (l : List S43) (i : Nat) (hi : i < l.length) : adj (l.take (i + 1)) = upd (upd (adj (l.take i)) l[i].f0.toNat l[i].f1.toNat true) l[i].f1.toNat l[i].f0.toNat true := by
  funext x y
  unfold adj upd
  rw [List.take_succ_eq_append_getElem hi, List.any_append]
  simp only [List.any_cons, List.any_nil, Bool.or_false]
  by_cases h1 : x = l[i].f1.toNat ∧ y = l[i].f0.toNat
  · rw [if_pos h1, decide_eq_true (by omega), Bool.or_true]
  · by_cases h2 : x = l[i].f0.toNat ∧ y = l[i].f1.toNat
    · rw [if_neg h1, if_pos h2, decide_eq_true (by omega), Bool.or_true]
    · rw [if_neg h1, if_neg h2, decide_eq_false (by omega), Bool.or_false]
theorem tabB_none (n : Nat) : List.replicate n (List.replicate n false) = tabB n (adj []) := by
  apply List.ext_getElem (by simp [tabB])
  intro i h1 h2
  simp only [List.getElem_replicate, tabB, List.getElem_map]
  apply List.ext_getElem (by simp)
  intro j g1 g2
  simp [adj]
theorem spec_paTable.ok (n : Nat) (hn : n ≤ 12) (l : List S43) (hl : l.length ≤ 1048576) (hp : pin n l) : Ev (fun k => spec_paTable.f k (n : Int) l) (tabB n (adj l)) := by
  have h1 : Ev (fun k => spec_paTable.l1 k (tabB n (adj (l.take 0))) l (l.length : Int) ((0 : Nat) : Int)) (tabB n (adj l)) := by
    refine up_loop (P := fun i => Ev (fun k => spec_paTable.l1 k (tabB n (adj (l.take i))) l (l.length : Int) (i : Int)) (tabB n (adj l))) (n := l.length) ?_ ?_ 0 (Nat.zero_le _)
    · refine Ev.step (f := fun _ => some (tabB n (adj l))) (fun k => ?_) (Ev.now _)
      simp only [spec_paTable.l1]
      rw [if_neg (by omega), List.take_length]
    · intro i hi h
      refine Ev.step (fun k => ?_) h
      obtain ⟨q0, q1, q2, q3⟩ := hp l[i] (List.getElem_mem hi)
      obtain ⟨a, ea⟩ := Int.eq_ofNat_of_zero_le q0
      obtain ⟨b, eb⟩ := Int.eq_ofNat_of_zero_le q2
      have ha : a < n := by omega
      have hb : b < n := by omega
      simp only [spec_paTable.l1, Option.bind_some]
      rw [if_pos (by omega), if_pos (by omega), if_pos (by omega), rd_T43_nat l i hi, ea, eb, rdL_tabB n _ a ha, if_pos (by omega), if_pos (by rw [tabB_length]; omega), if_pos (by omega), if_pos (by simp; omega), if_pos (by rw [tabB_length]; omega)]
      simp only [Int.toNat_natCast]
      rw [tabB_set n _ a b true ha, rdL_tabB n _ b hb, if_pos (by simp; omega), tabB_set n _ b a true hb, nat_succ i (by omega), adj_take l i hi, ea, eb]
      simp only [Int.toNat_natCast]
  unfold spec_paTable.f
  have h0 := up_loop (P := fun i => Ev (fun k => spec_paTable.l0 k (List.replicate i (List.replicate n false)) (i : Int) (n : Int) l) (tabB n (adj l))) (n := n) (by
      refine Ev.step (fun k => ?_) h1
      simp only [spec_paTable.l0]
      rw [if_neg (by omega), tabB_none]
      rfl) (by
      intro i hi h
      refine Ev.step (fun k => ?_) h
      simp only [spec_paTable.l0]
      rw [if_pos (by omega), if_pos (by omega), if_pos (by omega), if_pos (by simp; omega), nat_succ i (by omega), List.replicate_succ']
      rfl) 0 (Nat.zero_le _)
  exact h0
def inn (n : Nat) (F : Nat → Nat → Bool) (a i : Nat) : List S43 := ((List.range' i (n - i)).filter (F a)).map fun (b : Nat) => ⟨(a : Int), (b : Int)⟩
def outr (n : Nat) (F : Nat → Nat → Bool) (a : Nat) : List S43 := (List.range' a (n - a)).flatMap fun x => inn n F x (x + 1)
theorem spec_paOf.ok (n : Nat) (hn : n ≤ 12) (F : Nat → Nat → Bool) : Ev (fun k => spec_paOf.f k (tabB n F)) ((n : Int), outr n F 0) := by
  have key := up_loop (P := fun a => ∀ acc : List S43, acc.length ≤ 12 * a → Ev (fun k => spec_paOf.l0 k (tabB n F) (n : Int) (a : Int) (n : Int) acc) ((n : Int), acc ++ outr n F a)) (n := n) (by
      intro acc _
      refine Ev.step (f := fun _ => some ((n : Int), acc)) (fun k => ?_) (by simpa [outr] using Ev.now ((n : Int), acc))
      simp only [spec_paOf.l0]
      rw [if_neg (by omega)]) (by
      intro a ha h acc hacc
      have inner := up_loop (P := fun i => a < i → ∀ acc : List S43, acc.length ≤ 12 * a + i → Ev (fun k => spec_paOf.l1 k (tabB n F) (a : Int) (i : Int) (n : Int) (a : Int) (n : Int) acc) ((n : Int), acc ++ (inn n F a i ++ outr n F (a + 1)))) (n := n) (by
          intro _ acc hacc
          have h9 := h acc (by omega)
          have e9 : inn n F a n = [] := by simp [inn]
          rw [e9, List.nil_append]
          refine Ev.step (fun k => ?_) h9
          simp only [spec_paOf.l1]
          rw [if_neg (by rw [tabB_length]; omega), nat_succ a (by omega)]) (by
          intro i hi h hai acc hacc
          have e0 : inn n F a i = (if F a i = true then [(⟨(a : Int), (i : Int)⟩ : S43)] else []) ++ inn n F a (i + 1) := by
            unfold inn
            rw [range'_cons i n hi]
            cases hF : F a i with
            | true => rw [List.filter_cons_of_pos hF]; simp
            | false => rw [List.filter_cons_of_neg (by simp [hF])]; simp
          rw [e0]
          cases hF : F a i with
          | true =>
            have h2 := h (by omega) (acc ++ [(⟨(a : Int), (i : Int)⟩ : S43)]) (by simp; omega)
            refine Ev.step (fun k => ?_) (by simpa using h2)
            simp only [spec_paOf.l1]
            rw [if_pos (by rw [tabB_length]; omega), if_pos (by omega), if_pos (by rw [tabB_length]; omega), if_pos (by omega), rdL_tabB n F a ha, if_pos (by simp; omega), row_get n _ i hi, hF, if_pos rfl, if_pos (by omega), nat_succ i (by omega)]
            rfl
          | false =>
            have h2 := h (by omega) acc (by omega)
            refine Ev.step (fun k => ?_) (by simpa using h2)
            simp only [spec_paOf.l1]
            rw [if_pos (by rw [tabB_length]; omega), if_pos (by omega), if_pos (by rw [tabB_length]; omega), if_pos (by omega), rdL_tabB n F a ha, if_pos (by simp; omega), row_get n _ i hi, hF, if_neg (by simp), nat_succ i (by omega)]
            rfl)
      have h3 := inner (a + 1) (by omega) (by omega) acc (by omega)
      have e1 : outr n F a = inn n F a (a + 1) ++ outr n F (a + 1) := by
        unfold outr
        rw [range'_cons a n ha, List.flatMap_cons]
      rw [e1]
      refine Ev.step (fun k => ?_) h3
      simp only [spec_paOf.l0]
      rw [if_pos (by omega), nat_succ a (by omega)])
  have h0 := key 0 (Nat.zero_le _) [] (by simp)
  rw [List.nil_append] at h0
  unfold spec_paOf.f
  rw [tabB_length]
  exact h0
theorem outr_mem (n : Nat) (F : Nat → Nat → Bool) (x : S43) : x ∈ outr n F 0 ↔ ∃ a b : Nat, x = ⟨(a : Int), (b : Int)⟩ ∧ a < b ∧ b < n ∧ F a b = true := by
  unfold outr inn
  simp only [List.mem_flatMap, List.mem_range'_1, List.mem_map, List.mem_filter]
  constructor
  · rintro ⟨a, ⟨_, h1⟩, b, ⟨⟨h2, h3⟩, h4⟩, rfl⟩
    exact ⟨a, b, rfl, by omega, by omega, h4⟩
  · rintro ⟨a, b, rfl, h1, h2, h3⟩
    exact ⟨a, ⟨by omega, by omega⟩, b, ⟨⟨by omega, by omega⟩, h3⟩, rfl⟩
theorem outr_adj (n : Nat) (F : Nat → Nat → Bool) (a b : Nat) (h : a < b) (hb : b < n) : adj (outr n F 0) a b = F a b := by
  unfold adj
  rw [Bool.eq_iff_iff, List.any_eq_true]
  constructor
  · rintro ⟨x, hx, hd⟩
    obtain ⟨u, v, rfl, h1, h2, h3⟩ := (outr_mem n F x).1 hx
    simp only [Int.toNat_natCast, decide_eq_true_eq] at hd
    rcases hd with ⟨rfl, rfl⟩ | ⟨rfl, rfl⟩
    · exact h3
    · omega
  · intro hF
    exact ⟨⟨(a : Int), (b : Int)⟩, (outr_mem n F _).2 ⟨a, b, rfl, h, hb, hF⟩, by simp⟩
theorem outr_len (n : Nat) (hn : n ≤ 12) (F : Nat → Nat → Bool) : (outr n F 0).length ≤ 144 := by
  unfold outr
  rw [List.length_flatMap]
  have h1 : ∀ x, (inn n F x (x + 1)).length ≤ 12 := by
    intro x
    unfold inn
    rw [List.length_map]
    refine Nat.le_trans (List.length_filter_le _ _) ?_
    rw [List.length_range']
    omega
  have h2 : ∀ l : List Nat, (l.map fun x => (inn n F x (x + 1)).length).sum ≤ 12 * l.length := by
    intro l
    induction l with
    | nil => simp
    | cons a l ih =>
      simp only [List.map_cons, List.sum_cons, List.length_cons]
      have := h1 a
      omega
  have := h2 (List.range' 0 (n - 0))
  rw [List.length_range'] at this
  omega
theorem tabB_congr (n : Nat) (F G : Nat → Nat → Bool) (h : ∀ x y, x < n → y < n → F x y = G x y) : tabB n F = tabB n G := by
  unfold tabB
  apply List.map_congr_left
  intro a ha
  apply List.map_congr_left
  intro b hb
  exact h a b (List.mem_range.1 ha) (List.mem_range.1 hb)
def tog (F : Nat → Nat → Bool) (a i : Nat) : Nat → Nat → Bool := fun x y => if x < a ∨ x = a ∧ y < i then !F x y else F x y
def neg (F : Nat → Nat → Bool) : Nat → Nat → Bool := fun x y => !F x y
theorem tog_upd (F : Nat → Nat → Bool) (a i : Nat) : upd (tog F a i) a i (!F a i) = tog F a (i + 1) := by
  funext x y
  unfold upd tog
  by_cases h : x = a ∧ y = i
  · rw [if_pos h, if_pos (by omega), h.1, h.2]
  · rw [if_neg h]
    by_cases h2 : x < a ∨ x = a ∧ y < i
    · rw [if_pos h2, if_pos (by omega)]
    · rw [if_neg h2, if_neg (by omega)]
theorem spec_paOther.ok (n : Nat) (hn : n ≤ 12) (l : List S43) (hl : l.length ≤ 1048576) (hp : pin n l) : Ev (fun k => spec_paOther.f k (n : Int) l) ((n : Int), outr n (neg (adj l)) 0) := by
  unfold spec_paOther.f
  refine Ev.bind (spec_paTable.ok n hn l hl hp) ?_
  generalize adj l = F
  rw [tabB_length]
  have key := up_loop (P := fun a => Ev (fun k => spec_paOther.l0 k (tabB n (tog F a 0)) (n : Int) (a : Int)) ((n : Int), outr n (neg F) 0)) (n := n) (by
      have e : tabB n (tog F n 0) = tabB n (neg F) := tabB_congr n _ _ fun x y hx _ => by
        unfold tog neg
        rw [if_pos (.inl hx)]
      rw [e]
      refine Ev.step (fun k => ?_) (Ev.bind (spec_paOf.ok n hn (neg F)) (f := fun _ bt174 => some (bt174.1, bt174.2)) (Ev.now _))
      simp only [spec_paOther.l0]
      rw [if_neg (by omega)]) (by
      intro a ha h
      have inner := up_loop (P := fun i => Ev (fun k => spec_paOther.l1 k (tabB n (tog F a i)) (a : Int) (n : Int) (a : Int) (n : Int) (i : Int)) ((n : Int), outr n (neg F) 0)) (n := n) (by
          have e : tabB n (tog F a n) = tabB n (tog F (a + 1) 0) := tabB_congr n _ _ fun x y _ hy => by
            unfold tog
            by_cases h1 : x < a ∨ x = a ∧ y < n
            · rw [if_pos h1, if_pos (by omega)]
            · rw [if_neg h1, if_neg (by omega)]
          rw [e]
          refine Ev.step (fun k => ?_) h
          simp only [spec_paOther.l1]
          rw [if_neg (by omega), nat_succ a (by omega)]) (by
          intro i hi h
          refine Ev.step (fun k => ?_) h
          have e2 : tog F a i a i = F a i := by
            unfold tog
            rw [if_neg (by omega)]
          simp only [spec_paOther.l1]
          rw [if_pos (by omega), if_pos (by omega), if_pos (by rw [tabB_length]; omega), if_pos (by omega), rdL_tabB n _ a ha, if_pos (by simp; omega), row_get n _ i hi, e2]
          simp only [Int.toNat_natCast]
          rw [tabB_set n _ a i _ ha, tog_upd, nat_succ i (by omega)]) 0 (Nat.zero_le _)
      refine Ev.step (fun k => ?_) inner
      simp only [spec_paOther.l0]
      rw [if_pos (by omega), tabB_length]
      rfl) 0 (Nat.zero_le _)
  have e : tabB n F = tabB n (tog F 0 0) := tabB_congr n _ _ fun x y _ _ => by
    unfold tog
    rw [if_neg (by omega)]
  rw [e]
  exact key
theorem spec_l1Cur_sureParty.ok (l : List Int) (hb : byteL l) (i c : Int) (n : Nat) (hn : n ≤ 8) (h0 : 0 ≤ i) (h1 : i ≤ 1000) : ∃ F j d, Ev (fun k => spec_l1Cur_sureParty.f k l i c (n : Int)) ((n : Int), outr n F 0, j, d) ∧ 0 ≤ j ∧ j ≤ i + 200 := by
  unfold spec_l1Cur_sureParty.f
  obtain ⟨v, j, d, e, j1, j2, _, _, _⟩ := spec_l1Cur_pick.ok l hb i c 4 h0 (by omega)
  have L0 := up_loop (P := fun a => ∀ F j d, 0 ≤ j → j ≤ i + 2 + 16 * (a : Int) → ∃ F' j' d', Ev (fun k => spec_l1Cur_sureParty.l0 k (n : Int) (tabB n F) (wrap64 (1 + v)) (a : Int) l j d) ((n : Int), outr n F' 0, j', d') ∧ 0 ≤ j' ∧ j' ≤ i + 200) (n := n) (by
      intro F j d hj0 hj1
      refine ⟨F, j, d, Ev_succ ?_, hj0, by omega⟩
      simp only [spec_l1Cur_sureParty.l0]
      exact Ev.ite_neg (by omega) (Ev.bind (spec_paOf.ok n (by omega) F) (Ev.now _))) (by
      intro a ha h F j d hj0 hj1
      have L1 := up_loop (P := fun b => a < b → ∀ F j d, 0 ≤ j → j ≤ i + 2 + 16 * (a : Int) + 2 * (b : Int) → ∃ F' j' d', Ev (fun k => spec_l1Cur_sureParty.l1 k (n : Int) (tabB n F) (wrap64 (1 + v)) (a : Int) (b : Int) l j d) ((n : Int), outr n F' 0, j', d') ∧ 0 ≤ j' ∧ j' ≤ i + 200) (n := n) (by
          intro _ F j d hj0 hj1
          obtain ⟨F', j', d', E, hj⟩ := h F j d hj0 (by omega)
          refine ⟨F', j', d', Ev_succ ?_, hj⟩
          simp only [spec_l1Cur_sureParty.l1, nat_succ a (by omega)]
          exact Ev.ite_neg (by omega) E) (by
          intro b hb2 h1 hab F j d hj0 hj1
          obtain ⟨v', i', d1, e', k1, k2, _, _, _⟩ := spec_l1Cur_pick.ok l hb j d 5 hj0 (by omega)
          obtain ⟨F', j', d', E, hj⟩ := h1 (by omega) (upd (upd F a b (decide (v' < wrap64 (1 + v)))) b a (decide (v' < wrap64 (1 + v)))) i' d1 (by omega) (by omega)
          refine ⟨F', j', d', Ev_succ ?_, hj⟩
          simp only [spec_l1Cur_sureParty.l1, e', Option.bind_some, tabB_length, rdL_tabB n F a ha, Int.toNat_natCast, tabB_set n _ a b _ ha, rdL_tabB n _ b hb2, tabB_set n _ b a _ hb2, List.length_map, List.length_range, nat_succ b (by omega)]
          exact Ev.ite_pos (by omega) (Ev.ite_pos (by omega) (Ev.ite_pos (by omega) (Ev.ite_pos (by omega) (Ev.ite_pos (by omega) (Ev.ite_pos (by omega) (Ev.ite_pos (by omega) E)))))))
      obtain ⟨F', j', d', E, hj⟩ := L1 (a + 1) (by omega) (by omega) F j d hj0 (by omega)
      refine ⟨F', j', d', Ev_succ ?_, hj⟩
      simp only [spec_l1Cur_sureParty.l0, nat_succ a (by omega)]
      exact Ev.ite_pos (by omega) E)
  obtain ⟨F', j', d', E, hj⟩ := L0 0 (Nat.zero_le _) (adj []) j d (by omega) (by omega)
  refine ⟨F', j', d', Ev.bind (spec_paTable.ok n (by omega) [] (by simp) (by intro x hx; cases hx)) ?_, hj⟩
  simp only [e, Option.bind_some]
  exact E
theorem spec_l1Cur_party.ok (l : List Int) (hb : byteL l) : ∃ n ps j d, Ev (fun k => spec_l1Cur_party.f k l 0 0 8) (n, ps, j, d) ∧ ps.length ≤ 1000 ∧ 0 ≤ j ∧ j ≤ 1000 := by
  unfold spec_l1Cur_party.f
  rw [wrap_id (by omega) (by omega)]
  obtain ⟨v, j, d, e, j1, j2, v0, _, v1⟩ := spec_l1Cur_pick.ok l hb 0 0 (8 + 1) (by omega) (by omega)
  simp only [e, Option.bind_some]
  obtain ⟨n, rfl⟩ := Int.eq_ofNat_of_zero_le v0
  have hn := v1 (by omega)
  obtain ⟨F, j', d', E, k1, k2⟩ := spec_l1Cur_sureParty.ok l hb j d n (by omega) (by omega) (by omega)
  have hl := outr_len n (by omega) F
  obtain ⟨v2, j3, d3, e2, m1, m2, _⟩ := spec_l1Cur_pick.ok l hb j' d' 20 k1 (by omega)
  have key : ∀ {r : Int × List S43 × Int × Int} {f : Nat → (Int × List S43 × Int × Int) → Option (Int × List S43 × Int × Int)}, Ev (fun k => f k ((n : Int), outr n F 0, j', d')) r → Ev (fun k => (spec_l1Cur_sureParty.f k l j d (n : Int)).bind (f k)) r := fun h => Ev.bind E h
  by_cases c0 : v2 = 0
  · obtain ⟨v4, j4, d4, e4, p1, p2⟩ := spec_l1Cur_among.ok l hb j3 d3 [(-1), 0, 1, 12, 13, 4611686018427387904] (by simp) (by omega) (by omega)
    refine ⟨v4, outr n F 0, j4, d4, key ?_, by omega, by omega, by omega⟩
    simp only [e2, Option.bind_some, if_pos c0, e4]
    exact Ev.now _
  by_cases c1 : v2 = 1
  · obtain ⟨v4, j4, d4, e4, p1, p2, _⟩ := spec_l1Cur_pick.ok l hb j3 d3 4 (by omega) (by omega)
    obtain ⟨v5, j5, d5, e5, q1, q2⟩ := spec_l1Cur_among.ok l hb j4 d4 [0, 1, 11, 12, (-1), 4611686018427387904] (by simp) (by omega) (by omega)
    refine ⟨n, outr n F 0 ++ [⟨v4, v5⟩], j5, d5, key ?_, by simp; omega, by omega, by omega⟩
    simp only [e2, Option.bind_some, if_neg c0, if_pos c1, e4, e5]
    exact Ev.ite_pos (by omega) (Ev.now _)
  by_cases c2 : v2 = 2
  · have ho := spec_paOther.ok 12 (by omega) [] (by simp) (by intro x hx; cases hx)
    refine ⟨12, outr 12 (neg (adj [])) 0, j3, d3, key ?_, by have := outr_len 12 (by omega) (neg (adj [])); omega, by omega, by omega⟩
    simp only [e2, Option.bind_some, if_neg c0, if_neg c1, if_pos c2]
    exact Ev.bind ho (Ev.now _)
  · refine ⟨n, outr n F 0, j3, d3, key ?_, by omega, by omega, by omega⟩
    simp only [e2, Option.bind_some, if_neg c0, if_neg c1, if_neg c2]
    exact Ev.now _
theorem spec_DrawCountThrees.ok (l : List Int) (hb : byteL l) : ∃ n ps, Ev (fun k => spec_DrawCountThrees.f k l) (n, ps) ∧ ps.length ≤ 1000 := by
  obtain ⟨n, ps, j, d, E, h1, _⟩ := spec_l1Cur_party.ok l hb
  refine ⟨n, ps, ?_, h1⟩
  unfold spec_DrawCountThrees.f spec_DrawIsParty.f
  exact Ev.bind (Ev.bind E (Ev.now _)) (Ev.now _)
def lessB (x y : S43) : Bool := decide (x.f0 < y.f0 ∨ x.f0 = y.f0 ∧ x.f1 < y.f1)
theorem cmp_Compare_int.ok (a b : Int) : cmp_Compare_int.f a b = some (if a < b then -1 else if a > b then 1 else 0) := by
  unfold cmp_Compare_int.f cmp_isNaN_int.f
  simp only [Option.bind_some, bne_self_eq_false]
  rw [if_neg (by simp), if_neg (by simp)]
  split <;> (try split) <;> rfl
def cmpI (a b c d : Int) : Int := if a < c then -1 else if a > c then 1 else if b < d then -1 else if b > d then 1 else 0
theorem cmp_Or_int.two (k : Nat) (x y : Int) : cmp_Or_int.f (k + 3) [x, y] = some (if x = 0 then y else x) := by
  unfold cmp_Or_int.f
  simp only [cmp_Or_int.l0, List.length_cons, List.length_nil, rd]
  by_cases hx : x = 0
  · by_cases hy : y = 0
    · simp [hx, hy, wrap_one, wrap_two]
    · simp [hx, hy, wrap_one]
  · simp [hx]
theorem impl_comparePairs.ok (k : Nat) (hk : 3 ≤ k) (a b c d : Int) : impl_comparePairs.f k a b c d = some (cmpI a b c d) := by
  obtain ⟨k, rfl⟩ : ∃ m, k = m + 3 := ⟨k - 3, by omega⟩
  unfold impl_comparePairs.f cmpI
  simp only [cmp_Compare_int.ok, Option.bind_some, cmp_Or_int.two]
  split
  · simp
  · split <;> simp
theorem cmpI_neg (x y : S43) : (cmpI x.f0 x.f1 y.f0 y.f1 ≥ 0) = (lessB x y = false) := by
  unfold cmpI lessB
  rw [eq_iff_iff, decide_eq_false_iff_not]
  split
  · constructor <;> intro h <;> omega
  · split
    · constructor <;> intro h <;> omega
    · split
      · constructor <;> intro h <;> omega
      · split <;> constructor <;> intro h <;> omega
theorem impl_areCrowd.ok (n : Int) : impl_areCrowd.f n = some (crowd n) := by unfold impl_areCrowd.f crowd; simp [impl_within.ok]
def stepB (n : Int) (l : List S43) (i : Nat) : Bool := decide (0 ≤ (l.getD i z43).f0 ∧ (l.getD i z43).f0 < (l.getD i z43).f1 ∧ (l.getD i z43).f1 < n) && (i == 0 || lessB (l.getD (i - 1) z43) (l.getD i z43))
def goodB (n : Int) (l : List S43) : Bool := crowd n && (List.range l.length).all (stepB n l)
theorem goodB_people {n : Int} {l : List S43} (h : goodB n l = true) : 0 ≤ n ∧ n ≤ 12 := by
  unfold goodB crowd at h
  simp only [Bool.and_eq_true, decide_eq_true_eq] at h
  exact h.1
theorem goodB_step {n : Int} {l : List S43} (h : goodB n l = true) (i : Nat) (hi : i < l.length) : (0 ≤ l[i].f0 ∧ l[i].f0 < l[i].f1 ∧ l[i].f1 < n) ∧ (∀ h0 : 0 < i, l[i - 1].f0 < l[i].f0 ∨ l[i - 1].f0 = l[i].f0 ∧ l[i - 1].f1 < l[i].f1) := by
  unfold goodB at h
  simp only [Bool.and_eq_true, List.all_eq_true] at h
  have := h.2 i (List.mem_range.2 hi)
  unfold stepB lessB at this
  simp only [List.getD, List.getElem?_eq_getElem hi, List.getElem?_eq_getElem (show i - 1 < l.length by omega), Option.getD_some, Bool.and_eq_true, Bool.or_eq_true, decide_eq_true_eq, beq_iff_eq] at this
  refine ⟨this.1, fun h0 => ?_⟩
  rcases this.2 with h | h
  · omega
  · exact h
theorem goodB_len {n : Int} {l : List S43} (h : goodB n l = true) : 2 * (l.length : Int) ≤ n * (n - 1) := by
  refine pairs_bound n l.length (fun i => (l.getD i z43).f0) (fun i => (l.getD i z43).f1) ?_ ?_ (goodB_people h).1
  · intro i hi
    simp only [List.getD, List.getElem?_eq_getElem hi, Option.getD_some]
    exact (goodB_step h i hi).1
  · intro i hi
    simp only [List.getD, List.getElem?_eq_getElem hi, List.getElem?_eq_getElem (show i < l.length by omega), Option.getD_some]
    exact (goodB_step h (i + 1) hi).2 (by omega)
theorem goodB_len66 {n : Int} {l : List S43} (h : goodB n l = true) : l.length ≤ 66 := by
  have h1 := goodB_len h
  have h2 := goodB_people h
  obtain ⟨m, rfl⟩ := Int.eq_ofNat_of_zero_le h2.1
  obtain rfl | rfl | rfl | rfl | rfl | rfl | rfl | rfl | rfl | rfl | rfl | rfl | rfl : m = 0 ∨ m = 1 ∨ m = 2 ∨ m = 3 ∨ m = 4 ∨ m = 5 ∨ m = 6 ∨ m = 7 ∨ m = 8 ∨ m = 9 ∨ m = 10 ∨ m = 11 ∨ m = 12 := by omega
  all_goals omega
theorem stepB_eq (n : Int) (l : List S43) (i : Nat) (hi : i < l.length) : stepB n l i = (decide (0 ≤ l[i].f0 ∧ l[i].f0 < l[i].f1 ∧ l[i].f1 < n) && (i == 0 || lessB l[i - 1] l[i])) := by
  unfold stepB
  simp only [List.getD, List.getElem?_eq_getElem hi, List.getElem?_eq_getElem (show i - 1 < l.length by omega), Option.getD_some]
theorem impl_IsParty.ok (n : Int) (l : List S43) (hl : l.length ≤ 1048576) (k : Nat) (hk : l.length + 4 < k) : impl_IsParty.f k n l = some (goodB n l) := by
  unfold impl_IsParty.f
  rw [all_loop_fin (fun k i => impl_IsParty.l0 k l (l.length : Int) i n l) l.length (stepB n l) (crowd n) (by omega) 3 ?_ ?_ k (by omega)]
  · unfold goodB; rw [Bool.and_comm]
  · intro k i h hk3
    simp only [impl_IsParty.l0]
    rw [if_pos (by omega), if_pos (by omega), if_pos (by omega), rd_T43_nat l i h, stepB_eq n l i h]
    by_cases h1 : 0 ≤ l[i].f0 ∧ l[i].f0 < l[i].f1 ∧ l[i].f1 < n
    · rw [if_neg (by omega), if_neg (by omega), if_neg (by omega), decide_eq_true h1, Bool.true_and]
      rcases Nat.eq_zero_or_pos i with rfl | hi
      · rw [if_neg (by simp)]; simp
      · have e3 : wrap64 ((i : Int) - 1) = ((i - 1 : Nat) : Int) := by rw [wrap_id (by omega) (by omega)]; omega
        rw [if_pos (by omega), e3, if_pos (by omega), if_pos (by omega), rd_T43_nat l (i - 1) (by omega), impl_comparePairs.ok _ hk3]
        simp only [Option.bind_some, cmpI_neg]
        rw [show (i == 0) = false from by simp; omega, Bool.false_or]
        cases lessB l[i - 1] l[i] <;> rfl
    · rw [decide_eq_false h1, Bool.false_and]
      simp only [Bool.false_eq_true, if_false]
      by_cases a1 : l[i].f0 < 0
      · rw [if_pos a1]
      · rw [if_neg a1]
        by_cases a2 : l[i].f0 ≥ l[i].f1
        · rw [if_pos a2]
        · rw [if_neg a2, if_pos (by omega)]
  · intro k hk3
    simp only [impl_IsParty.l0]
    rw [if_neg (by omega), impl_areCrowd.ok]; rfl
theorem tabI_none (n : Nat) : List.replicate n (0 : Int) = tabI n (adj []) := by
  apply List.ext_getElem (by simp [tabI])
  intro i h1 h2
  have : msk (adj [] i) n = 0 := by
    apply Nat.eq_of_testBit_eq
    intro j
    rw [msk_testBit]
    simp [adj]
  simp [tabI, this]
theorem impl_Party_table.ok (n : Nat) (hn : n ≤ 12) (l : List S43) (hl : l.length ≤ 1048576) (hp : pin n l) : Ev (fun k => impl_Party_table.f k (n : Int) l) (tabI n (adj l)) := by
  have h1 : Ev (fun k => impl_Party_table.l0 k (tabI n (adj (l.take 0))) l (l.length : Int) ((0 : Nat) : Int)) (tabI n (adj l)) := by
    refine up_loop (P := fun i => Ev (fun k => impl_Party_table.l0 k (tabI n (adj (l.take i))) l (l.length : Int) (i : Int)) (tabI n (adj l))) (n := l.length) ?_ ?_ 0 (Nat.zero_le _)
    · refine Ev.step (f := fun _ => some (tabI n (adj l))) (fun k => ?_) (Ev.now _)
      simp only [impl_Party_table.l0]
      rw [if_neg (by omega), List.take_length]
    · intro i hi h
      refine Ev.step (fun k => ?_) h
      obtain ⟨q0, q1, q2, q3⟩ := hp l[i] (List.getElem_mem hi)
      obtain ⟨a, ea⟩ := Int.eq_ofNat_of_zero_le q0
      obtain ⟨b, eb⟩ := Int.eq_ofNat_of_zero_le q2
      have ha : a < n := by omega
      have hb : b < n := by omega
      simp only [impl_Party_table.l0, Option.bind_some]
      rw [if_pos (by omega), if_pos (by omega), if_pos (by omega), rd_T43_nat l i hi, ea, eb, tabI_rd n _ a ha, if_pos (by omega), if_pos (by rw [tabI_length]; omega), if_pos (by omega), if_pos (by rw [tabI_length]; omega)]
      simp only [Int.toNat_natCast]
      rw [tabI_set n _ a b (by omega) ha hb, tabI_rd n _ b hb, tabI_set n _ b a (by omega) hb ha, nat_succ i (by omega), adj_take l i hi, ea, eb]
      simp only [Int.toNat_natCast]
  unfold impl_Party_table.f
  refine Ev.congr (fun k => ?_) h1
  rw [if_pos (by omega), if_pos (by omega)]
  simp only [Int.toNat_natCast, tabI_none, List.take_zero]
  rfl
theorem u16_bit (m i : Nat) (hm : m < 65536) (h : i ≤ 16) : (Go.bits .and .u16 (shr .u16 (m : Int) (i : Int)) 1 == 1) = m.testBit i := by
  unfold shr
  rw [Int.toNat_natCast, Nat.min_eq_left (by simpa [IntKind.bits] using h)]
  have e : ((m : Int) / 2 ^ i) = ((m / 2 ^ i : Nat) : Int) := by simp
  have hl : m / 2 ^ i < 65536 := Nat.lt_of_le_of_lt (Nat.div_le_self _ _) hm
  rw [e, show (1 : Int) = ((1 : Nat) : Int) from rfl, u16_and_nat _ _ hl (by omega), Nat.testBit_eq_decide_div_mod_eq, Nat.and_one_is_mod]
  rw [Bool.eq_iff_iff, beq_iff_eq, decide_eq_true_eq]
  omega
theorem impl_table_has.ok (n : Nat) (hn : n ≤ 12) (F : Nat → Nat → Bool) (a b : Nat) (ha : a < n) (hb : b < n) : impl_table_has.f (tabI n F) (a : Int) (b : Int) = some (F a b) := by
  unfold impl_table_has.f
  rw [if_pos (by omega), if_pos (by rw [tabI_length]; omega), if_pos (by omega), tabI_rd n F a ha, u16_bit _ _ (msk_lt16 _ _ (by omega)) (by omega), msk_testBit, decide_eq_true hb]
  rfl
def t2 (F : Nat → Nat → Bool) (a b c n : Nat) : List (List Int) := ((List.range' c (n - c)).filter (fun z => F a b && (F a z && F b z))).map fun (z : Nat) => [(a : Int), (b : Int), (z : Int)]
def t1 (F : Nat → Nat → Bool) (a b n : Nat) : List (List Int) := (List.range' b (n - b)).flatMap fun y => t2 F a y (y + 1) n
def t0 (F : Nat → Nat → Bool) (a n : Nat) : List (List Int) := (List.range' a (n - a)).flatMap fun x => t1 F x (x + 1) n
theorem t2_end (F : Nat → Nat → Bool) (a b n : Nat) : t2 F a b n n = [] := by simp [t2]
theorem t1_end (F : Nat → Nat → Bool) (a n : Nat) : t1 F a n n = [] := by simp [t1]
theorem t0_end (F : Nat → Nat → Bool) (n : Nat) : t0 F n n = [] := by simp [t0]
theorem t2_step (F : Nat → Nat → Bool) (a b c n : Nat) (h : c < n) : t2 F a b c n = (if (F a b && (F a c && F b c)) = true then [[(a : Int), (b : Int), (c : Int)]] else []) ++ t2 F a b (c + 1) n := by
  unfold t2
  rw [range'_cons c n h]
  rw [List.filter_cons]
  cases hF : (F a b && (F a c && F b c)) with
  | true => rw [if_pos rfl, if_pos rfl]; rfl
  | false => rw [if_neg (by decide), if_neg (by decide)]; rfl
theorem t1_step (F : Nat → Nat → Bool) (a b n : Nat) (h : b < n) : t1 F a b n = t2 F a b (b + 1) n ++ t1 F a (b + 1) n := by
  unfold t1
  rw [range'_cons b n h, List.flatMap_cons]
theorem t0_step (F : Nat → Nat → Bool) (a n : Nat) (h : a < n) : t0 F a n = t1 F a (a + 1) n ++ t0 F (a + 1) n := by
  unfold t0
  rw [range'_cons a n h, List.flatMap_cons]
def nf (F : Nat → Nat → Bool) (a b c : Nat) : Nat := (if F a b = true then 1 else 0) + (if F a c = true then 1 else 0) + (if F b c = true then 1 else 0)
def u2 (F : Nat → Nat → Bool) (a b c n : Nat) : List Nat := (List.range' c (n - c)).map (nf F a b)
def u1 (F : Nat → Nat → Bool) (a b n : Nat) : List Nat := (List.range' b (n - b)).flatMap fun y => u2 F a y (y + 1) n
def u0 (F : Nat → Nat → Bool) (a n : Nat) : List Nat := (List.range' a (n - a)).flatMap fun x => u1 F x (x + 1) n
theorem impl_threes.ok (n : Nat) (hn : n ≤ 12) (F : Nat → Nat → Bool) : Ev (fun k => impl_threes.f k (n : Int) (tabI n F)) (t0 F 0 n) := by
  have L0 := up_loop (P := fun a => ∀ acc : List (List Int), acc.length ≤ 144 * a → Ev (fun k => impl_threes.l0 k (n : Int) (tabI n F) acc (n : Int) (a : Int)) (acc ++ t0 F a n)) (n := n) (by
      intro acc _
      rw [t0_end, List.append_nil]
      refine Ev_succ ?_
      simp only [impl_threes.l0]
      exact Ev.ite_neg (by omega) (Ev.now _)) (by
      intro a ha h acc hacc
      have L1 := up_loop (P := fun b => a < b → ∀ acc : List (List Int), acc.length ≤ 144 * a + 12 * b → Ev (fun k => impl_threes.l1 k (n : Int) (tabI n F) acc (a : Int) (b : Int) (n : Int) (a : Int)) (acc ++ (t1 F a b n ++ t0 F (a + 1) n))) (n := n) (by
          intro _ acc hacc
          have h9 := h acc (by omega)
          rw [t1_end, List.nil_append]
          refine Ev_succ ?_
          simp only [impl_threes.l1, nat_succ a (by omega)]
          exact Ev.ite_neg (by omega) h9) (by
          intro b hb h1 hab acc hacc
          have L2 := up_loop (P := fun c => b < c → ∀ acc : List (List Int), acc.length ≤ 144 * a + 12 * b + c → Ev (fun k => impl_threes.l2 k (n : Int) (tabI n F) acc (a : Int) (b : Int) (c : Int) (n : Int) (a : Int)) (acc ++ (t2 F a b c n ++ (t1 F a (b + 1) n ++ t0 F (a + 1) n)))) (n := n) (by
              intro _ acc hacc
              have h9 := h1 (by omega) acc (by omega)
              rw [t2_end, List.nil_append]
              refine Ev_succ ?_
              simp only [impl_threes.l2, nat_succ b (by omega)]
              exact Ev.ite_neg (by omega) h9) (by
              intro c hc h2 hbc acc hacc
              have skip := h2 (by omega) acc (by omega)
              have add := h2 (by omega) (acc ++ [[(a : Int), (b : Int), (c : Int)]]) (by simp; omega)
              rw [t2_step F a b c n hc]
              refine Ev_succ ?_
              simp only [impl_threes.l2, impl_table_has.ok n hn F a b (by omega) hb, impl_table_has.ok n hn F a c (by omega) hc, impl_table_has.ok n hn F b c hb hc, Option.bind_some, nat_succ c (by omega)]
              refine Ev.ite_pos (by omega) ?_
              cases h3 : F a b with
              | false => simpa using skip
              | true =>
                cases h4 : F a c with
                | false => simpa using skip
                | true =>
                  cases h5 : F b c with
                  | false => simpa using skip
                  | true =>
                    refine Ev.ite_pos rfl (Ev.ite_pos rfl (Ev.ite_pos rfl (Ev.ite_pos (by omega) ?_)))
                    simpa using add)
          have h3 := L2 (b + 1) (by omega) (by omega) acc (by omega)
          rw [t1_step F a b n hb, List.append_assoc]
          refine Ev_succ ?_
          simp only [impl_threes.l1, nat_succ b (by omega)]
          exact Ev.ite_pos (by omega) h3)
      have h3 := L1 (a + 1) (by omega) (by omega) acc (by omega)
      rw [t0_step F a n ha]
      refine Ev_succ ?_
      simp only [impl_threes.l0, nat_succ a (by omega)]
      exact Ev.ite_pos (by omega) h3)
  have h := L0 0 (Nat.zero_le _) [] (by simp)
  rw [List.nil_append] at h
  exact h
theorem impl_table_others.ok (n : Nat) (hn : n ≤ 12) (F : Nat → Nat → Bool) : Ev (fun k => impl_table_others.f k (tabI n F)) (tabI n (oth F)) := by
  have key := up_loop (P := fun i => Ev (fun k => impl_table_others.l0 k (tabI n F) ((List.range n).map fun a => if a < i then ((msk (oth F a) n : Nat) : Int) else 0) (n : Int) (i : Int)) (tabI n (oth F))) (n := n) (by
      refine Ev.step (f := fun _ => some (tabI n (oth F))) (fun k => ?_) (Ev.now _)
      simp only [impl_table_others.l0]
      rw [if_neg (by omega)]
      congr 1
      unfold tabI
      apply List.map_congr_left
      intro a ha
      rw [if_pos (List.mem_range.1 ha)]) (by
      intro i hi h
      refine Ev.step (fun k => ?_) h
      simp only [impl_table_others.l0, tabI_length]
      rw [if_pos (by omega), if_pos (by omega), if_pos (by omega), if_pos (by simp; omega), tabI_rd n F i hi, other_bits (F i) n i hn hi, nat_succ i (by omega), Int.toNat_natCast]
      congr 1
      apply List.ext_getElem (by simp)
      intro j g1 g2
      have hj : j < n := by simpa using g2
      by_cases e : i = j
      · subst e
        simp only [List.getElem_set_self, List.getElem_map, List.getElem_range]
        rw [if_pos (by omega)]
        rfl
      · rw [List.getElem_set_ne e]
        simp only [List.getElem_map, List.getElem_range]
        by_cases h2 : j < i
        · rw [if_pos h2, if_pos (by omega)]
        · rw [if_neg h2, if_neg (by omega)]) 0 (Nat.zero_le _)
  unfold impl_table_others.f
  refine Ev.congr (fun k => ?_) key
  rw [tabI_length, if_pos (by omega), if_pos (by omega)]
  congr 1
  apply List.ext_getElem (by simp)
  intro i h1 h2
  simp
theorem goodB_pin {n : Int} {l : List S43} (h : goodB n l = true) : pin n.toNat l := by
  intro x hx
  obtain ⟨i, hi, rfl⟩ := List.getElem_of_mem hx
  have := (goodB_step h i hi).1
  have := goodB_people h
  omega
def sm : Nat → (Nat → Int) → Int
  | 0, _ => 0
  | n + 1, f => sm n f + f n
theorem sm_congr {f g : Nat → Int} : ∀ n, (∀ i, i < n → f i = g i) → sm n f = sm n g
  | 0, _ => rfl
  | n + 1, h => by rw [sm, sm, sm_congr n (fun i hi => h i (by omega)), h n (by omega)]
theorem sm_add (f g : Nat → Int) : ∀ n, sm n (fun i => f i + g i) = sm n f + sm n g
  | 0 => rfl
  | n + 1 => by simp only [sm]; rw [sm_add f g n]; omega
theorem sm_mul (c : Int) (f : Nat → Int) : ∀ n, sm n (fun i => c * f i) = c * sm n f
  | 0 => by simp [sm]
  | n + 1 => by simp only [sm]; rw [sm_mul c f n, Int.mul_add]
theorem sm_const (c : Int) : ∀ n : Nat, sm n (fun _ => c) = (n : Int) * c
  | 0 => by simp [sm]
  | n + 1 => by simp only [sm]; rw [sm_const c n]; grind
theorem sm_zero (n : Nat) : sm n (fun _ => 0) = 0 := by rw [sm_const]; simp
theorem sm_nonneg {f : Nat → Int} : ∀ n, (∀ i, i < n → 0 ≤ f i) → 0 ≤ sm n f
  | 0, _ => Int.le_refl _
  | n + 1, h => by have := sm_nonneg n (fun i hi => h i (by omega)); have := h n (by omega); simp only [sm]; omega
theorem sm_le {f g : Nat → Int} : ∀ n, (∀ i, i < n → f i ≤ g i) → sm n f ≤ sm n g
  | 0, _ => Int.le_refl _
  | n + 1, h => by have := sm_le n (fun i hi => h i (by omega)); have := h n (by omega); simp only [sm]; omega
theorem sm_swap (f : Nat → Nat → Int) (m : Nat) : ∀ n, sm n (fun i => sm m (fun j => f i j)) = sm m (fun j => sm n (fun i => f i j))
  | 0 => by simp only [sm]; rw [sm_zero]
  | n + 1 => by simp only [sm]; rw [sm_swap f m n, ← sm_add]
def P2 (n : Nat) (f : Nat → Nat → Int) : Int := sm n (fun b => sm b (fun a => f a b))
def T3 (n : Nat) (g : Nat → Nat → Nat → Int) : Int := sm n (fun c => P2 c (fun a b => g a b c))
theorem P2_congr {f g : Nat → Nat → Int} (n : Nat) (h : ∀ a b, a < b → b < n → f a b = g a b) : P2 n f = P2 n g := sm_congr n (fun b hb => sm_congr b (fun a ha => h a b ha hb))
theorem P2_add (f g : Nat → Nat → Int) (n : Nat) : P2 n (fun a b => f a b + g a b) = P2 n f + P2 n g := by
  unfold P2
  rw [← sm_add]
  exact sm_congr n (fun b _ => sm_add _ _ b)
theorem P2_le {f g : Nat → Nat → Int} (n : Nat) (h : ∀ a b, a < b → b < n → f a b ≤ g a b) : P2 n f ≤ P2 n g := sm_le n (fun b hb => sm_le b (fun a ha => h a b ha hb))
theorem T3_congr {f g : Nat → Nat → Nat → Int} (n : Nat) (h : ∀ a b c, a < b → b < c → c < n → f a b c = g a b c) : T3 n f = T3 n g := sm_congr n (fun c hc => P2_congr c (fun a b ha hb => h a b c ha hb hc))
theorem T3_add (f g : Nat → Nat → Nat → Int) (n : Nat) : T3 n (fun a b c => f a b c + g a b c) = T3 n f + T3 n g := by
  unfold T3
  rw [← sm_add]
  exact sm_congr n (fun c _ => P2_add _ _ c)
theorem T3_le {f g : Nat → Nat → Nat → Int} (n : Nat) (h : ∀ a b c, a < b → b < c → c < n → f a b c ≤ g a b c) : T3 n f ≤ T3 n g := sm_le n (fun c hc => P2_le c (fun a b ha hb => h a b c ha hb hc))
theorem P2_mul (k : Int) (f : Nat → Nat → Int) (n : Nat) : P2 n (fun a b => k * f a b) = k * P2 n f := by
  unfold P2
  rw [← sm_mul]
  exact sm_congr n (fun b _ => sm_mul k _ b)
theorem T3_mul (k : Int) (f : Nat → Nat → Nat → Int) (n : Nat) : T3 n (fun a b c => k * f a b c) = k * T3 n f := by
  unfold T3
  rw [← sm_mul]
  exact sm_congr n (fun b _ => P2_mul k _ b)
theorem sym2 (f : Nat → Nat → Int) : ∀ n, P2 n (fun a b => f a b + f b a) + sm n (fun a => f a a) = sm n (fun a => sm n (fun b => f a b))
  | 0 => rfl
  | n + 1 => by
    have ih := sym2 f n
    have e1 : P2 (n + 1) (fun a b => f a b + f b a) = P2 n (fun a b => f a b + f b a) + (sm n (fun a => f a n) + sm n (fun b => f n b)) := by
      show _ + sm n (fun a => f a n + f n a) = _
      rw [sm_add]; rfl
    have e2 : sm (n + 1) (fun a => sm (n + 1) (fun b => f a b)) = sm n (fun a => sm n (fun b => f a b)) + sm n (fun a => f a n) + (sm n (fun b => f n b) + f n n) := by
      simp only [sm]
      rw [sm_add]
    rw [e1, e2]
    simp only [sm]
    omega
theorem pr_sq (y : Nat → Int) (hy : ∀ a, y a * y a = y a) : ∀ m : Nat, P2 m (fun a b => y a + y b - 2 * (y a * y b)) = sm m y * ((m : Int) - sm m y)
  | 0 => by simp [P2, sm]
  | m + 1 => by
    have ihm := pr_sq y hy m
    have e : sm m (fun a => y a + y m - 2 * (y a * y m)) = sm m y + (m : Int) * y m - 2 * (sm m y * y m) := by
      have : sm m (fun a => y a + y m - 2 * (y a * y m)) = sm m (fun a => (y a + y m) + (-2 * y m) * y a) := sm_congr m (fun b _ => by grind)
      rw [this, sm_add, sm_add, sm_mul, sm_const]
      show sm m y + _ + _ * sm m y = _
      grind
    show P2 m _ + sm m _ = _
    rw [ihm, e]
    simp only [sm]
    have := hy m
    have : ((m + 1 : Nat) : Int) = m + 1 := by omega
    generalize sm m y = d at *
    generalize y m = z at *
    grind
theorem pr_two (y : Nat → Int) (hy : ∀ a, y a * y a = y a) : ∀ m : Nat, 2 * P2 m (fun a b => y a * y b) = sm m y * (sm m y - 1)
  | 0 => by simp [P2, sm]
  | m + 1 => by
    have ihm := pr_two y hy m
    have e : sm m (fun a => y a * y m) = sm m y * y m := by
      rw [sm_congr (g := fun a => y m * y a) m (fun a _ => Int.mul_comm _ _), sm_mul, Int.mul_comm]
    show 2 * (P2 m _ + sm m (fun a => y a * y m)) = _
    rw [Int.mul_add, ihm, e]
    simp only [sm]
    have := hy m
    generalize sm m y = d at *
    generalize y m = z at *
    grind
section
variable (x : Nat → Nat → Int) (hs : ∀ a b, x a b = x b a) (hd : ∀ a, x a a = 0) (h1 : ∀ a b, x a b * x a b = x a b)
def dg2 (n : Nat) (a : Nat) : Int := sm n (fun b => x a b)
def crn (a b c : Nat) : Int := (x a b + x a c - 2 * (x a b * x a c)) + (x a b + x b c - 2 * (x a b * x b c)) + (x a c + x b c - 2 * (x a c * x b c))
include hs hd h1
theorem corners : ∀ n : Nat, sm n (fun a => dg2 x n a * ((n : Int) - 1 - dg2 x n a)) = T3 n (crn x)
  | 0 => rfl
  | n + 1 => by
    have ih := corners n
    have eD : sm n (fun b => x n b) = sm n (fun a => x a n) := sm_congr n (fun a _ => hs n a)
    -- the left side
    have eL : sm (n + 1) (fun a => dg2 x (n + 1) a * (((n + 1 : Nat) : Int) - 1 - dg2 x (n + 1) a)) = sm n (fun a => dg2 x n a * ((n : Int) - 1 - dg2 x n a)) + sm n (fun a => (dg2 x n a + (n : Int) * x a n) - 2 * (dg2 x n a * x a n) - x a n) + sm n (fun a => x a n) * ((n : Int) - sm n (fun a => x a n)) := by
      have e0 : ∀ a, a < n → dg2 x (n + 1) a * (((n + 1 : Nat) : Int) - 1 - dg2 x (n + 1) a) = dg2 x n a * ((n : Int) - 1 - dg2 x n a) + ((dg2 x n a + (n : Int) * x a n) - 2 * (dg2 x n a * x a n) - x a n) := by
        intro a _
        have e : dg2 x (n + 1) a = dg2 x n a + x a n := rfl
        have := h1 a n
        rw [e]
        generalize dg2 x n a = d at *
        generalize x a n = y at *
        have : ((n + 1 : Nat) : Int) = n + 1 := by omega
        grind
      have eN : dg2 x (n + 1) n = sm n (fun a => x a n) := by
        show sm n (fun b => x n b) + x n n = _
        rw [hd, eD]; omega
      show sm n _ + dg2 x (n + 1) n * (((n + 1 : Nat) : Int) - 1 - dg2 x (n + 1) n) = _
      rw [sm_congr n e0, sm_add, eN, show (((n + 1 : Nat) : Int) - 1) = n by omega]
    -- the right side
    have eR : T3 (n + 1) (crn x) = T3 n (crn x) + P2 n (fun a b => crn x a b n) := rfl
    have e3 : P2 n (fun a b => crn x a b n) = P2 n (fun a b => (x a b + x a n - 2 * (x a b * x a n)) + (x b a + x b n - 2 * (x b a * x b n))) + P2 n (fun a b => x a n + x b n - 2 * (x a n * x b n)) := by
      rw [← P2_add]
      exact P2_congr n (fun a b _ _ => by unfold crn; rw [hs b a])
    have e4 := sym2 (fun a b => x a b + x a n - 2 * (x a b * x a n)) n
    have e5 : sm n (fun a => sm n (fun b => x a b + x a n - 2 * (x a b * x a n))) = sm n (fun a => dg2 x n a + (n : Int) * x a n - 2 * (dg2 x n a * x a n)) := by
      refine sm_congr n (fun a _ => ?_)
      have : sm n (fun b => x a b + x a n - 2 * (x a b * x a n)) = sm n (fun b => (x a b + x a n) + (-2 * x a n) * x a b) := sm_congr n (fun b _ => by grind)
      rw [this, sm_add, sm_add, sm_mul, sm_const]
      show dg2 x n a + _ + _ * dg2 x n a = _
      grind
    have e6 : sm n (fun a => x a a + x a n - 2 * (x a a * x a n)) = sm n (fun a => x a n) := sm_congr n (fun a _ => by rw [hd]; grind)
    have e7 : P2 n (fun a b => x a n + x b n - 2 * (x a n * x b n)) = sm n (fun a => x a n) * ((n : Int) - sm n (fun a => x a n)) := by
      exact pr_sq (fun a => x a n) (fun a => h1 a n) n
    have e8 : sm n (fun a => dg2 x n a + (n : Int) * x a n - 2 * (dg2 x n a * x a n) - x a n) = sm n (fun a => dg2 x n a + (n : Int) * x a n - 2 * (dg2 x n a * x a n)) + -1 * sm n (fun a => x a n) := by
      rw [← sm_mul, ← sm_add]
      exact sm_congr n (fun a _ => by omega)
    rw [eL, eR, e3, e7, ih, e8]
    rw [e5, e6] at e4
    omega
theorem forks2 : ∀ n : Nat, sm n (fun a => dg2 x n a * (dg2 x n a - 1)) = 2 * T3 n (fun a b c => x a b * x a c + x a b * x b c + x a c * x b c)
  | 0 => rfl
  | n + 1 => by
    have ih := forks2 n
    have eD : sm n (fun b => x n b) = sm n (fun a => x a n) := sm_congr n (fun a _ => hs n a)
    have eN : dg2 x (n + 1) n = sm n (fun a => x a n) := by
      show sm n (fun b => x n b) + x n n = _
      rw [hd, eD]; omega
    have e0 : ∀ a, a < n → dg2 x (n + 1) a * (dg2 x (n + 1) a - 1) = dg2 x n a * (dg2 x n a - 1) + 2 * (dg2 x n a * x a n) := by
      intro a _
      have e : dg2 x (n + 1) a = dg2 x n a + x a n := rfl
      have := h1 a n
      rw [e]
      generalize dg2 x n a = d at *
      generalize x a n = y at *
      grind
    have eL : sm (n + 1) (fun a => dg2 x (n + 1) a * (dg2 x (n + 1) a - 1)) = sm n (fun a => dg2 x n a * (dg2 x n a - 1)) + 2 * sm n (fun a => dg2 x n a * x a n) + sm n (fun a => x a n) * (sm n (fun a => x a n) - 1) := by
      show sm n _ + dg2 x (n + 1) n * (dg2 x (n + 1) n - 1) = _
      rw [sm_congr n e0, sm_add, sm_mul, eN]
    have e3 : P2 n (fun a b => x a b * x a n + x a b * x b n + x a n * x b n) = P2 n (fun a b => x a b * x a n + x b a * x b n) + P2 n (fun a b => x a n * x b n) := by
      rw [← P2_add]
      exact P2_congr n (fun a b _ _ => by rw [hs b a])
    have e4 := sym2 (fun a b => x a b * x a n) n
    have e5 : sm n (fun a => sm n (fun b => x a b * x a n)) = sm n (fun a => dg2 x n a * x a n) := by
      refine sm_congr n (fun a _ => ?_)
      have : sm n (fun b => x a b * x a n) = sm n (fun b => x a n * x a b) := sm_congr n (fun b _ => Int.mul_comm _ _)
      rw [this, sm_mul, Int.mul_comm]; rfl
    have e6 : sm n (fun a => x a a * x a n) = 0 := by
      rw [sm_congr (g := fun _ => 0) n (fun a _ => by rw [hd]; simp), sm_zero]
    have e7 : 2 * P2 n (fun a b => x a n * x b n) = sm n (fun a => x a n) * (sm n (fun a => x a n) - 1) := by
      exact pr_two (fun a => x a n) (fun a => h1 a n) n
    show _ = 2 * (T3 n _ + P2 n (fun a b => x a b * x a n + x a b * x b n + x a n * x b n))
    rw [eL, e3, ih]
    rw [e5, e6] at e4
    omega
omit h1 in
theorem atP (p : Nat) : ∀ n : Nat, sm n (fun b => sm n (fun c => x p b * x p c * x b c)) * (if p < n then 1 else 0) = 2 * T3 n (fun a b c => x a b * x a c * x b c * ((if a = p then 1 else 0) + (if b = p then 1 else 0) + (if c = p then 1 else 0)))
  | 0 => rfl
  | n + 1 => by
    have ih := atP p n
    have eT : T3 (n + 1) (fun a b c => x a b * x a c * x b c * ((if a = p then 1 else 0) + (if b = p then 1 else 0) + (if c = p then 1 else 0))) = T3 n (fun a b c => x a b * x a c * x b c * ((if a = p then 1 else 0) + (if b = p then 1 else 0) + (if c = p then 1 else 0))) + P2 n (fun a b => x a b * x a n * x b n * ((if a = p then 1 else 0) + (if b = p then 1 else 0) + (if n = p then 1 else 0))) := rfl
    have eS : sm (n + 1) (fun b => sm (n + 1) (fun c => x p b * x p c * x b c)) = sm n (fun b => sm n (fun c => x p b * x p c * x b c)) + 2 * sm n (fun b => x p b * x p n * x b n) := by
      simp only [sm]
      rw [sm_add, hd, sm_congr (f := fun c => x p n * x p c * x n c) (g := fun b => x p b * x p n * x b n) n (fun c _ => by rw [hs n c, Int.mul_comm (x p n)])]
      simp only [Int.mul_zero]
      omega
    rw [eT, eS, Int.mul_add, ← ih]
    by_cases h : p < n
    · have e1 : P2 n (fun a b => x a b * x a n * x b n * ((if a = p then 1 else 0) + (if b = p then 1 else 0) + (if n = p then 1 else 0))) = sm n (fun b => x p b * x p n * x b n) := by
        have e2 := sym2 (fun a b => x a b * x a n * x b n * (if a = p then 1 else 0)) n
        have e3 : P2 n (fun a b => x a b * x a n * x b n * ((if a = p then 1 else 0) + (if b = p then 1 else 0) + (if n = p then 1 else 0))) = P2 n (fun a b => x a b * x a n * x b n * (if a = p then 1 else 0) + x b a * x b n * x a n * (if b = p then 1 else 0)) := P2_congr n (fun a b _ _ => by
          rw [if_neg (show ¬ n = p by omega), hs b a]
          grind)
        have e4 : sm n (fun a => x a a * x a n * x a n * (if a = p then 1 else 0)) = 0 := by
          rw [sm_congr (g := fun _ => 0) n (fun a _ => by rw [hd]; simp), sm_zero]
        have e5 : ∀ m : Nat, sm m (fun a => sm n (fun b => x a b * x a n * x b n * (if a = p then 1 else 0))) = (if p < m then sm n (fun b => x p b * x p n * x b n) else 0) := by
          intro m
          induction m with
          | zero => rfl
          | succ m ihm =>
            simp only [sm]
            rw [ihm]
            by_cases hm : m = p
            · subst hm
              rw [if_neg (Nat.lt_irrefl _), if_pos (Nat.lt_succ_self _), sm_congr (g := fun b => x m b * x m n * x b n) n (fun b _ => by rw [if_pos rfl, Int.mul_one])]
              omega
            · rw [sm_congr (f := fun b => x m b * x m n * x b n * (if m = p then 1 else 0)) (g := fun _ => 0) n (fun b _ => by rw [if_neg hm, Int.mul_zero]), sm_zero, Int.add_zero]
              by_cases h2 : p < m
              · rw [if_pos h2, if_pos (by omega)]
              · rw [if_neg h2, if_neg (by omega)]
        rw [e4, e5 n, if_pos h] at e2
        rw [e3]
        omega
      rw [e1, if_pos h, if_pos (show p < n + 1 by omega)]
      omega
    · by_cases h2 : p = n
      · subst h2
        have e1 : 2 * P2 p (fun a b => x a b * x a p * x b p * ((if a = p then 1 else 0) + (if b = p then 1 else 0) + (if p = p then 1 else 0))) = sm p (fun b => sm p (fun c => x p b * x p c * x b c)) := by
          have e2 := sym2 (fun a b => x p a * x p b * x a b) p
          have e4 : sm p (fun a => x p a * x p a * x a a) = 0 := by
            rw [sm_congr (g := fun _ => 0) p (fun a _ => by rw [hd]; simp), sm_zero]
          have e3 : P2 p (fun a b => x p a * x p b * x a b + x p b * x p a * x b a) = 2 * P2 p (fun a b => x a b * x a p * x b p * ((if a = p then 1 else 0) + (if b = p then 1 else 0) + (if p = p then 1 else 0))) := by
            rw [← P2_mul]
            refine P2_congr p (fun a b ha hb => ?_)
            rw [if_neg (show ¬ a = p by omega), if_neg (show ¬ b = p by omega), if_pos rfl, hs b a, hs p a, hs p b]
            grind
          rw [e3, e4] at e2
          omega
        rw [e1, if_neg h, if_pos (Nat.lt_succ_self _)]
        have : sm p (fun b => x p b * x p p * x b p) = 0 := by
          rw [sm_congr (g := fun _ => 0) p (fun a _ => by rw [hd]; simp), sm_zero]
        rw [this]
        omega
      · have e1 : P2 n (fun a b => x a b * x a n * x b n * ((if a = p then 1 else 0) + (if b = p then 1 else 0) + (if n = p then 1 else 0))) = 0 := by
          have : P2 n (fun a b => x a b * x a n * x b n * ((if a = p then 1 else 0) + (if b = p then 1 else 0) + (if n = p then 1 else 0))) = P2 n (fun _ _ => 0) := P2_congr n (fun a b ha hb => by
            rw [if_neg (show ¬ a = p by omega), if_neg (show ¬ b = p by omega), if_neg (show ¬ n = p by omega)]
            simp)
          rw [this]
          unfold P2
          rw [sm_congr (g := fun _ => 0) n (fun b _ => sm_zero b), sm_zero]
        rw [e1, if_neg h, if_neg (show ¬ p < n + 1 by omega)]
        simp
end
def bi (b : Bool) : Int := if b = true then 1 else 0
theorem bi_sq (b : Bool) : bi b * bi b = bi b := by cases b <;> rfl
theorem bi_and (a b : Bool) : bi (a && b) = bi a * bi b := by cases a <;> cases b <;> rfl
theorem bi_not (a : Bool) : bi (!a) = 1 - bi a := by cases a <;> rfl
def up (a : Nat) : Nat → (Nat → Int) → Int
  | 0, _ => 0
  | d + 1, f => up a d f + f (a + d)
theorem up_congr {f g : Nat → Int} (a : Nat) : ∀ d, (∀ i, a ≤ i → i < a + d → f i = g i) → up a d f = up a d g
  | 0, _ => rfl
  | d + 1, h => by rw [up, up, up_congr a d (fun i h1 h2 => h i h1 (by omega)), h (a + d) (by omega) (by omega)]
theorem up_add (f g : Nat → Int) (a : Nat) : ∀ d, up a d (fun i => f i + g i) = up a d f + up a d g
  | 0 => rfl
  | d + 1 => by simp only [up]; rw [up_add f g a d]; omega
theorem up_first (f : Nat → Int) (a : Nat) : ∀ d, up a (d + 1) f = f a + up (a + 1) d f
  | 0 => by simp [up]
  | d + 1 => by
    have := up_first f a d
    simp only [up] at this ⊢
    rw [show a + 1 + d = a + (d + 1) from by omega]
    omega
theorem up_zero (n : Nat) : ∀ (f : Nat → Int), up 0 n f = sm n f := by
  induction n with
  | zero => intro f; rfl
  | succ n ih => intro f; simp only [up, sm, Nat.zero_add]; rw [ih]
theorem len_flat {α : Type} (f : Nat → List α) : ∀ (d a : Nat), (((List.range' a d).flatMap f).length : Int) = up a d (fun i => ((f i).length : Int))
  | 0, a => rfl
  | d + 1, a => by
    rw [List.range'_succ, List.flatMap_cons, List.length_append, up_first, ← len_flat f d (a + 1)]
    omega
theorem len_filter (p : Nat → Bool) : ∀ (d a : Nat), (((List.range' a d).filter p).length : Int) = up a d (fun i => bi (p i))
  | 0, a => rfl
  | d + 1, a => by
    rw [List.range'_succ, up_first, ← len_filter p d (a + 1), List.filter_cons]
    cases hp : p a with
    | true => rw [if_pos rfl]; simp only [List.length_cons, bi, if_pos]; omega
    | false => rw [if_neg (by decide)]; simp [bi]
theorem up_pairs (f : Nat → Nat → Int) : ∀ n, sm n (fun a => up (a + 1) (n - (a + 1)) (fun b => f a b)) = P2 n f
  | 0 => rfl
  | n + 1 => by
    have ih := up_pairs f n
    have e : sm (n + 1) (fun a => up (a + 1) (n + 1 - (a + 1)) (fun b => f a b)) = sm n (fun a => up (a + 1) (n - (a + 1)) (fun b => f a b) + f a n) := by
      show sm n _ + up (n + 1) (n + 1 - (n + 1)) _ = _
      rw [Nat.sub_self]
      show _ + 0 = _
      rw [Int.add_zero]
      refine sm_congr n (fun a ha => ?_)
      rw [show n + 1 - (a + 1) = (n - (a + 1)) + 1 from by omega]
      show _ + f a (a + 1 + (n - (a + 1))) = _
      rw [show a + 1 + (n - (a + 1)) = n from by omega]
    rw [e, sm_add, ih]
    rfl
theorem up_triples (g : Nat → Nat → Nat → Int) : ∀ n, sm n (fun a => up (a + 1) (n - (a + 1)) (fun b => up (b + 1) (n - (b + 1)) (fun c => g a b c))) = T3 n g
  | 0 => rfl
  | n + 1 => by
    have ih := up_triples g n
    have hp := up_pairs (fun a b => g a b n) n
    have e : sm (n + 1) (fun a => up (a + 1) (n + 1 - (a + 1)) (fun b => up (b + 1) (n + 1 - (b + 1)) (fun c => g a b c))) = sm n (fun a => up (a + 1) (n - (a + 1)) (fun b => up (b + 1) (n - (b + 1)) (fun c => g a b c)) + up (a + 1) (n - (a + 1)) (fun b => g a b n)) := by
      show sm n _ + up (n + 1) (n + 1 - (n + 1)) _ = _
      rw [Nat.sub_self]
      show _ + 0 = _
      rw [Int.add_zero]
      refine sm_congr n (fun a ha => ?_)
      rw [show n + 1 - (a + 1) = (n - (a + 1)) + 1 from by omega, ← up_add]
      show _ + up (a + 1 + (n - (a + 1)) + 1) (n + 1 - (a + 1 + (n - (a + 1)) + 1)) _ = _
      rw [show n + 1 - (a + 1 + (n - (a + 1)) + 1) = 0 from by omega]
      show _ + 0 = _
      rw [Int.add_zero]
      refine up_congr _ _ (fun b h1 h2 => ?_)
      rw [show n + 1 - (b + 1) = (n - (b + 1)) + 1 from by omega]
      show _ + g a b (b + 1 + (n - (b + 1))) = _
      rw [show b + 1 + (n - (b + 1)) = n from by omega]
    rw [e, sm_add, ih, hp]
    rfl
theorem t0_len (n : Nat) (F : Nat → Nat → Bool) : ((t0 F 0 n).length : Int) = T3 n (fun a b c => bi (F a b) * bi (F a c) * bi (F b c)) := by
  unfold t0 t1 t2
  rw [len_flat, Nat.sub_zero, up_zero, ← up_triples]
  refine sm_congr n (fun a _ => ?_)
  rw [len_flat]
  refine up_congr _ _ (fun b _ _ => ?_)
  rw [List.length_map, len_filter]
  refine up_congr _ _ (fun c _ _ => ?_)
  rw [bi_and, bi_and, Int.mul_assoc]
theorem u0_count (n : Nat) (F : Nat → Nat → Bool) (j : Nat) : (((u0 F 0 n).filter (· == j)).length : Int) = T3 n (fun a b c => bi (nf F a b c == j)) := by
  unfold u0 u1 u2
  rw [List.filter_flatMap, len_flat, Nat.sub_zero, up_zero, ← up_triples]
  refine sm_congr n (fun a _ => ?_)
  rw [List.filter_flatMap, len_flat]
  refine up_congr _ _ (fun b _ _ => ?_)
  rw [List.filter_map, List.length_map, len_filter]
  rfl
def cF (n : Nat) (F : Nat → Nat → Bool) : Int := T3 n (fun a b c => bi (F a b) * bi (F a c) * bi (F b c))
def cS (n : Nat) (F : Nat → Nat → Bool) : Int := T3 n (fun a b c => (1 - bi (F a b)) * (1 - bi (F a c)) * (1 - bi (F b c)))
def c3 (n : Nat) : Int := T3 n (fun _ _ _ => 1)
def cM (n : Nat) (F : Nat → Nat → Bool) : Int := c3 n - cF n F - cS n F
theorem T3_nonneg {g : Nat → Nat → Nat → Int} (n : Nat) (h : ∀ a b c, a < b → b < c → c < n → 0 ≤ g a b c) : 0 ≤ T3 n g := by
  have e : T3 n (fun _ _ _ => 0) = 0 := by
    unfold T3 P2
    rw [sm_congr (g := fun _ => 0) n (fun c _ => by rw [sm_congr (g := fun _ => 0) c (fun b _ => sm_zero b), sm_zero]), sm_zero]
  rw [← e]
  exact T3_le n h
theorem bi_two (v : Bool) : bi v = 0 ∨ bi v = 1 := by cases v <;> simp [bi]
theorem cF_le (n : Nat) (F : Nat → Nat → Bool) : 0 ≤ cF n F ∧ 0 ≤ cS n F ∧ 0 ≤ cM n F := by
  refine ⟨T3_nonneg n (fun a b c _ _ _ => ?_), T3_nonneg n (fun a b c _ _ _ => ?_), ?_⟩
  · rcases bi_two (F a b) with h | h <;> rcases bi_two (F a c) with h2 | h2 <;> rcases bi_two (F b c) with h3 | h3 <;> simp [h, h2, h3]
  · rcases bi_two (F a b) with h | h <;> rcases bi_two (F a c) with h2 | h2 <;> rcases bi_two (F b c) with h3 | h3 <;> simp [h, h2, h3]
  · have : cF n F + cS n F ≤ c3 n := by
      unfold cF cS c3
      rw [← T3_add]
      refine T3_le n (fun a b c _ _ _ => ?_)
      rcases bi_two (F a b) with h | h <;> rcases bi_two (F a c) with h2 | h2 <;> rcases bi_two (F b c) with h3 | h3 <;> simp [h, h2, h3]
    unfold cM
    omega
theorem c3_val (n : Nat) (hn : n ≤ 12) : 6 * c3 n = (n : Int) * ((n : Int) - 1) * ((n : Int) - 2) ∧ 0 ≤ c3 n ∧ c3 n ≤ 220 := by
  obtain rfl | rfl | rfl | rfl | rfl | rfl | rfl | rfl | rfl | rfl | rfl | rfl | rfl : n = 0 ∨ n = 1 ∨ n = 2 ∨ n = 3 ∨ n = 4 ∨ n = 5 ∨ n = 6 ∨ n = 7 ∨ n = 8 ∨ n = 9 ∨ n = 10 ∨ n = 11 ∨ n = 12 := by omega
  all_goals decide +kernel
theorem t0_oth (n : Nat) (F : Nat → Nat → Bool) : ((t0 (oth F) 0 n).length : Int) = cS n F := by
  rw [t0_len]
  refine T3_congr n (fun a b c h1 h2 _ => ?_)
  have e : ∀ x y, x < y → bi (oth F x y) = 1 - bi (F x y) := fun x y h => by
    unfold oth
    rw [show (y != x) = true from by simp; omega, Bool.and_true, bi_not]
  rw [e a b h1, e a c (by omega), e b c h2]
def threeC (n : Int) (l : List S43) : Int × Int × Int × Bool := if goodB n l = true then (cF n.toNat (adj l), cS n.toNat (adj l), cM n.toNat (adj l), true) else (0, 0, 0, false)
theorem good_N {n : Int} {l : List S43} (h : goodB n l = true) : ∃ N : Nat, n = (N : Int) ∧ N ≤ 12 ∧ pin N l ∧ l.length ≤ 66 := by
  have h1 := goodB_people h
  obtain ⟨N, rfl⟩ := Int.eq_ofNat_of_zero_le h1.1
  exact ⟨N, rfl, by omega, goodB_pin h, goodB_len66 h⟩
theorem impl_choose.three (n : Nat) (hn : n ≤ 12) : Ev (fun k => impl_choose.f k (n : Int) 3) (c3 n) := by
  refine Ev.of (fun k => impl_choose.mono _ _ k) (k := 20) ?_
  obtain rfl | rfl | rfl | rfl | rfl | rfl | rfl | rfl | rfl | rfl | rfl | rfl | rfl : n = 0 ∨ n = 1 ∨ n = 2 ∨ n = 3 ∨ n = 4 ∨ n = 5 ∨ n = 6 ∨ n = 7 ∨ n = 8 ∨ n = 9 ∨ n = 10 ∨ n = 11 ∨ n = 12 := by omega
  all_goals decide +kernel
theorem impl_choose.ev2 (n : Nat) (hn : n ≤ 12) : Ev (fun k => impl_choose.f k (n : Int) 2) ((n : Int) * ((n : Int) - 1) / 2) := by
  refine Ev.of (fun k => impl_choose.mono _ _ k) (k := 20) ?_
  obtain rfl | rfl | rfl | rfl | rfl | rfl | rfl | rfl | rfl | rfl | rfl | rfl | rfl : n = 0 ∨ n = 1 ∨ n = 2 ∨ n = 3 ∨ n = 4 ∨ n = 5 ∨ n = 6 ∨ n = 7 ∨ n = 8 ∨ n = 9 ∨ n = 10 ∨ n = 11 ∨ n = 12 := by omega
  all_goals decide +kernel
theorem impl_CountThrees.ok (n : Int) (l : List S43) (hl : l.length ≤ 1048576) : Ev (fun k => impl_CountThrees.f k n l) (threeC n l) := by
  unfold impl_CountThrees.f threeC
  refine Ev.bind (ev_of (l.length + 5) fun k hk => impl_IsParty.ok n l hl k (by omega)) ?_
  by_cases hg : goodB n l = true
  · rw [if_pos hg]
    obtain ⟨N, rfl, hN, hp, _⟩ := good_N hg
    refine Ev.ite_pos hg (Ev.bind (impl_Party_table.ok N hN l hl hp) (Ev.bind (impl_threes.ok N hN _) (Ev.bind (impl_table_others.ok N hN _) (Ev.bind (impl_threes.ok N hN _) (Ev.bind (impl_choose.three N hN) ?_)))))
    rw [Int.toNat_natCast, t0_oth, t0_len]
    have h1 := cF_le N (adj l)
    have h2 := c3_val N hN
    have h3 : cM N (adj l) = c3 N - cF N (adj l) - cS N (adj l) := rfl
    rw [show (T3 N fun a b c => bi (adj l a b) * bi (adj l a c) * bi (adj l b c)) = cF N (adj l) from rfl, wrap_id (x := c3 N - cF N (adj l)) (by omega) (by omega), wrap_id (by omega) (by omega), ← h3]
    exact Ev.now _
  · rw [if_neg hg]
    exact Ev.ite_neg hg (Ev.now _)
theorem spec_l1In.ok (n lo hi : Int) : spec_l1In.f n lo hi = some (decide (lo ≤ n ∧ n ≤ hi)) := by
  unfold spec_l1In.f
  by_cases h : lo ≤ n <;> simp [h]
theorem spec_paPeople.ok (n : Int) : spec_paPeople.f n = some (crowd n) := by unfold spec_paPeople.f crowd; simp [spec_l1In.ok]
theorem spec_paLess.ok (a b c d : Int) : spec_paLess.f a b c d = some (lessB ⟨a, b⟩ ⟨c, d⟩) := by
  unfold spec_paLess.f lessB
  by_cases h : a < c
  · simp [h]
  · by_cases h2 : a = c
    · subst h2; simp
    · simp [h, h2]
theorem half (n : Int) (h0 : 0 ≤ n) (h1 : n ≤ 12) : wrap64 (Int.tdiv (wrap64 (n * (wrap64 (n - 1)))) 2) = n * (n - 1) / 2 := by
  obtain ⟨m, rfl⟩ := Int.eq_ofNat_of_zero_le h0
  have : m ≤ 12 := by omega
  obtain rfl | rfl | rfl | rfl | rfl | rfl | rfl | rfl | rfl | rfl | rfl | rfl | rfl : m = 0 ∨ m = 1 ∨ m = 2 ∨ m = 3 ∨ m = 4 ∨ m = 5 ∨ m = 6 ∨ m = 7 ∨ m = 8 ∨ m = 9 ∨ m = 10 ∨ m = 11 ∨ m = 12 := by omega
  all_goals (unfold wrap64; decide)
theorem spec_paGood.ok (n : Int) (l : List S43) (k : Nat) (hk : 70 ≤ k) : spec_paGood.f k n l = some (goodB n l) := by
  obtain ⟨k, rfl⟩ : ∃ m, k = m + 1 := ⟨k - 1, by omega⟩
  unfold spec_paGood.f
  rw [spec_paPeople.ok]
  simp only [Option.bind_some]
  by_cases hn : crowd n = true
  · have hc : 0 ≤ n ∧ n ≤ 12 := by simpa [crowd] using hn
    rw [if_pos hn, half n hc.1 hc.2]
    simp only [spec_paGood.j0]
    by_cases hl : (l.length : Int) > n * (n - 1) / 2
    · rw [if_pos (by simpa using hl)]
      congr 1
      symm
      rw [Bool.eq_false_iff]
      intro h
      have := goodB_len h
      omega
    · rw [if_neg (by simpa using hl)]
      have h66 : l.length ≤ 66 := by
        obtain ⟨m, rfl⟩ := Int.eq_ofNat_of_zero_le hc.1
        have : m ≤ 12 := by omega
        obtain rfl | rfl | rfl | rfl | rfl | rfl | rfl | rfl | rfl | rfl | rfl | rfl | rfl : m = 0 ∨ m = 1 ∨ m = 2 ∨ m = 3 ∨ m = 4 ∨ m = 5 ∨ m = 6 ∨ m = 7 ∨ m = 8 ∨ m = 9 ∨ m = 10 ∨ m = 11 ∨ m = 12 := by omega
        all_goals omega
      rw [all_loop (fun k i => spec_paGood.l0 k l (l.length : Int) i n l) l.length (stepB n l) (by omega) 0 ?_ ?_ k (by omega)]
      · unfold goodB; rw [hn]; rfl
      · intro k i h _
        have e1 : wrap64 (n - 1) = n - 1 := wrap_id (by omega) (by omega)
        simp only [spec_paGood.l0]
        rw [if_pos (by omega), if_pos (by omega), if_pos (by omega), rd_T43_nat l i h, spec_l1In.ok]
        simp only [Option.bind_some, e1]
        rw [stepB_eq n l i h]
        by_cases hA : 0 ≤ l[i].f0 ∧ l[i].f0 ≤ n - 1
        · have e2 : wrap64 (l[i].f0 + 1) = l[i].f0 + 1 := wrap_id (by omega) (by omega)
          rw [if_pos (by simpa using hA), spec_l1In.ok, e2]
          simp only [Option.bind_some]
          by_cases hB : l[i].f0 + 1 ≤ l[i].f1 ∧ l[i].f1 ≤ n - 1
          · rw [if_pos (by simpa using hB), decide_eq_true (show 0 ≤ l[i].f0 ∧ l[i].f0 < l[i].f1 ∧ l[i].f1 < n from ⟨by omega, by omega, by omega⟩)]
            simp only [Bool.true_and]
            rcases Nat.eq_zero_or_pos i with rfl | hi
            · rw [if_neg (by simp)]; simp
            · have e3 : wrap64 ((i : Int) - 1) = ((i - 1 : Nat) : Int) := by rw [wrap_id (by omega) (by omega)]; omega
              rw [if_pos (by omega), e3, if_pos (by omega), if_pos (by omega), rd_T43_nat l (i - 1) (by omega), spec_paLess.ok]
              simp only [Option.bind_some]
              rw [show (i == 0) = false from by simp; omega, Bool.false_or]
          · rw [if_neg (by simpa using hB), decide_eq_false (show ¬ (0 ≤ l[i].f0 ∧ l[i].f0 < l[i].f1 ∧ l[i].f1 < n) from by omega)]; simp
        · rw [if_neg (by simpa using hA), decide_eq_false (show ¬ (0 ≤ l[i].f0 ∧ l[i].f0 < l[i].f1 ∧ l[i].f1 < n) from by omega)]; simp
      · intro k
        simp only [spec_paGood.l0]
        rw [if_neg (by omega)]
  · have hn : crowd n = false := by simpa using hn
    rw [hn, if_neg (by simp)]
    simp [spec_paGood.j0, goodB, hn]
def bump (st : Nat → Nat) (ks : List Nat) : Nat → Nat := fun j => st j + (ks.filter (· == j)).length
def four (st : Nat → Nat) : List Int := [(st 0 : Int), (st 1 : Int), (st 2 : Int), (st 3 : Int)]
theorem four_bump (st : Nat → Nat) (j : Nat) (hj : j < 4) (hs : ∀ i, st i ≤ 100000) : (four st).set j (wrap64 (rd (four st) (j : Int) + 1)) = four (bump st [j]) := by
  have w : ∀ i, wrap64 ((st i : Int) + 1) = ((st i + 1 : Nat) : Int) := fun i => by have := hs i; rw [wrap_id (by omega) (by omega)]; omega
  obtain rfl | rfl | rfl | rfl : j = 0 ∨ j = 1 ∨ j = 2 ∨ j = 3 := by omega
  all_goals simp [four, bump, rd, w]
theorem bump_app (st : Nat → Nat) (xs ys : List Nat) : bump (bump st xs) ys = bump st (xs ++ ys) := by
  funext j
  simp [bump, Nat.add_assoc]
theorem bump_nil (st : Nat → Nat) : bump st [] = st := by funext j; simp [bump]
theorem bump_le (st : Nat → Nat) (j : Nat) (m : Nat) (h : ∀ i, st i ≤ m) : ∀ i, bump st [j] i ≤ m + 1 := by
  intro i
  have := h i
  unfold bump
  have h2 := List.length_filter_le (· == i) [j]
  simp only [List.length_cons, List.length_nil] at h2
  omega
theorem nf_lt (F : Nat → Nat → Bool) (a b c : Nat) : nf F a b c < 4 := by unfold nf; cases F a b <;> cases F a c <;> cases F b c <;> decide
theorem spec_trThrees.ok (n : Nat) (hn : n ≤ 12) (l : List S43) (hl : l.length ≤ 1048576) (hp : pin n l) : Ev (fun k => spec_trThrees.f k (n : Int) l) (four (bump (fun _ => 0) (u0 (adj l) 0 n))) := by
  unfold spec_trThrees.f
  refine Ev.bind (spec_paTable.ok n hn l hl hp) (Ev.ite_pos (by omega) ?_)
  generalize adj l = F
  rw [tabB_length, show List.replicate 4 (0 : Int) = four (fun _ => 0) from rfl]
  have L0 := up_loop (P := fun a => ∀ st : Nat → Nat, (∀ i, st i ≤ 144 * a) → Ev (fun k => spec_trThrees.l0 k (tabB n F) (four st) (n : Int) (a : Int)) (four (bump st (u0 F a n)))) (n := n) (by
      intro st _
      rw [show u0 F n n = [] from by simp [u0], bump_nil]
      refine Ev_succ ?_
      simp only [spec_trThrees.l0]
      exact Ev.ite_neg (by omega) (Ev.now _)) (by
      intro a ha h st hst
      have L1 := up_loop (P := fun b => a < b → ∀ st : Nat → Nat, (∀ i, st i ≤ 144 * a + 12 * b) → Ev (fun k => spec_trThrees.l1 k (tabB n F) (four st) (a : Int) (b : Int) (n : Int) (a : Int)) (four (bump st (u1 F a b n ++ u0 F (a + 1) n)))) (n := n) (by
          intro _ st hst
          have h9 := h st (fun i => by have := hst i; omega)
          rw [show u1 F a n n = [] from by simp [u1], List.nil_append]
          refine Ev_succ ?_
          simp only [spec_trThrees.l1, nat_succ a (by omega), tabB_length]
          exact Ev.ite_neg (by omega) h9) (by
          intro b hb h1 hab st hst
          have L2 := up_loop (P := fun c => b < c → ∀ st : Nat → Nat, (∀ i, st i ≤ 144 * a + 12 * b + c) → Ev (fun k => spec_trThrees.l2 k (tabB n F) (four st) (a : Int) (b : Int) (c : Int) (n : Int) (a : Int)) (four (bump st (u2 F a b c n ++ (u1 F a (b + 1) n ++ u0 F (a + 1) n))))) (n := n) (by
              intro _ st hst
              have h9 := h1 (by omega) st (fun i => by have := hst i; omega)
              rw [show u2 F a b n n = [] from by simp [u2], List.nil_append]
              refine Ev_succ ?_
              simp only [spec_trThrees.l2, nat_succ b (by omega), tabB_length]
              exact Ev.ite_neg (by omega) h9) (by
              intro c hc h2 hbc st hst
              have e : u2 F a b c n = nf F a b c :: u2 F a b (c + 1) n := by unfold u2; rw [range'_cons c n hc]; rfl
              have h9 := h2 (by omega) (bump st [nf F a b c]) (fun i => by have := bump_le st (nf F a b c) _ hst i; omega)
              rw [bump_app, List.singleton_append, ← List.cons_append, ← e] at h9
              have hset := four_bump st (nf F a b c) (nf_lt F a b c) (fun i => by have := hst i; omega)
              have hlt := nf_lt F a b c
              refine Ev_succ ?_
              simp only [spec_trThrees.l2, tabB_length, rdL_tabB n F a (by omega), rdL_tabB n F b hb, row_get n _ b hb, row_get n _ c hc, List.length_map, List.length_range, Option.bind_some]
              refine Ev.ite_pos (by omega) (Ev.ite_pos (by omega) (Ev.ite_pos (by omega) (Ev.ite_pos (by omega) (Ev.ite_pos (by omega) (Ev.ite_pos (by omega) (Ev.ite_pos (by omega) (Ev.ite_pos (by omega) (Ev.ite_pos (by omega) ?_))))))))
              -- the three signs
              have fin : Ev (fun k => spec_trThrees.l3 k (tabB n F) (four st) (a : Int) (b : Int) (c : Int) ((nf F a b c : Nat) : Int) (n : Int) (a : Int) [F a b, F a c, F b c] 3 3) (four (bump st (u2 F a b c n ++ (u1 F a (b + 1) n ++ u0 F (a + 1) n)))) := by
                refine Ev_succ ?_
                simp only [spec_trThrees.l3, Int.toNat_natCast, hset, nat_succ c (by omega)]
                exact Ev.ite_neg (by omega) (Ev.ite_pos (by omega) (Ev.ite_pos (by simp [four]; omega) h9))
              have step : ∀ (m : Nat) (i : Nat) (v : Bool), i < 3 → rdOf false [F a b, F a c, F b c] (i : Int) = v → ∀ R, Ev (fun k => spec_trThrees.l3 k (tabB n F) (four st) (a : Int) (b : Int) (c : Int) ((m + (if v = true then 1 else 0) : Nat) : Int) (n : Int) (a : Int) [F a b, F a c, F b c] 3 ((i + 1 : Nat) : Int)) R → m ≤ 3 → Ev (fun k => spec_trThrees.l3 k (tabB n F) (four st) (a : Int) (b : Int) (c : Int) (m : Int) (n : Int) (a : Int) [F a b, F a c, F b c] 3 (i : Int)) R := by
                intro m i v hi hv R hR hm
                refine Ev_succ ?_
                simp only [spec_trThrees.l3, hv, nat_succ i (by omega), nat_succ m (by omega)]
                refine Ev.ite_pos (by omega) (Ev.ite_pos (by omega) (Ev.ite_pos (by simp; omega) ?_))
                cases v with
                | true => exact Ev.ite_pos rfl hR
                | false => exact Ev.ite_neg (by decide) hR
              refine step 0 0 (F a b) (by omega) rfl _ ?_ (by omega)
              refine step _ 1 (F a c) (by omega) rfl _ ?_ (by split <;> omega)
              refine step _ 2 (F b c) (by omega) rfl _ ?_ (by split <;> split <;> omega)
              have : 0 + (if F a b = true then 1 else 0) + (if F a c = true then 1 else 0) + (if F b c = true then 1 else 0) = nf F a b c := by unfold nf; omega
              rw [this]
              exact fin)
          have h3 := L2 (b + 1) (by omega) (by omega) st (fun i => by have := hst i; omega)
          have e : u1 F a b n = u2 F a b (b + 1) n ++ u1 F a (b + 1) n := by unfold u1; rw [range'_cons b n hb, List.flatMap_cons]
          rw [e, List.append_assoc]
          refine Ev_succ ?_
          simp only [spec_trThrees.l1, nat_succ b (by omega), tabB_length]
          exact Ev.ite_pos (by omega) h3)
      have h3 := L1 (a + 1) (by omega) (by omega) st (fun i => by have := hst i; omega)
      have e : u0 F a n = u1 F a (a + 1) n ++ u0 F (a + 1) n := by unfold u0; rw [range'_cons a n ha, List.flatMap_cons]
      rw [e]
      refine Ev_succ ?_
      simp only [spec_trThrees.l0, nat_succ a (by omega)]
      exact Ev.ite_pos (by omega) h3)
  exact L0 0 (Nat.zero_le _) (fun _ => 0) (fun _ => Nat.zero_le _)
theorem spec_CountThrees.ok (n : Int) (l : List S43) (hl : l.length ≤ 1048576) : Ev (fun k => spec_CountThrees.f k n l) (threeC n l) := by
  unfold spec_CountThrees.f threeC
  refine Ev.bind (ev_of 70 fun k hk => spec_paGood.ok n l k hk) ?_
  by_cases hg : goodB n l = true
  · rw [if_pos hg]
    obtain ⟨N, rfl, hN, hp, _⟩ := good_N hg
    refine Ev.ite_pos hg (Ev.bind (spec_trThrees.ok N hN l hl hp) ?_)
    have hb : ∀ j, ((bump (fun _ => 0) (u0 (adj l) 0 N) j : Nat) : Int) = T3 N (fun a b c => bi (nf (adj l) a b c == j)) := fun j => by
      rw [← u0_count]
      show ((0 + _ : Nat) : Int) = _
      rw [Nat.zero_add]
    generalize adj l = F at *
    have e3 : T3 N (fun a b c => bi (nf F a b c == 3)) = cF N F := T3_congr N (fun a b c _ _ _ => by unfold nf; cases F a b <;> cases F a c <;> cases F b c <;> rfl)
    have e0 : T3 N (fun a b c => bi (nf F a b c == 0)) = cS N F := T3_congr N (fun a b c _ _ _ => by unfold nf; cases F a b <;> cases F a c <;> cases F b c <;> rfl)
    have e12 : T3 N (fun a b c => bi (nf F a b c == 1)) + T3 N (fun a b c => bi (nf F a b c == 2)) = cM N F := by
      have : (T3 N (fun a b c => bi (nf F a b c == 1)) + T3 N (fun a b c => bi (nf F a b c == 2))) + (cF N F + cS N F) = c3 N := by
        unfold cF cS c3
        rw [← T3_add, ← T3_add, ← T3_add]
        refine T3_congr N (fun a b c _ _ _ => ?_)
        unfold nf
        cases F a b <;> cases F a c <;> cases F b c <;> rfl
      unfold cM
      omega
    have h1 := cF_le N F
    have h2 := c3_val N hN
    have h3 : cM N F = c3 N - cF N F - cS N F := rfl
    refine Ev.ite_pos (by simp [four]) (Ev.ite_pos (by simp [four]) (Ev.ite_pos (by simp [four]) (Ev.ite_pos (by simp [four]) ?_)))
    rw [show rd (four (bump (fun _ => 0) (u0 F 0 N))) 3 = cF N F from (hb 3).trans e3, show rd (four (bump (fun _ => 0) (u0 F 0 N))) 0 = cS N F from (hb 0).trans e0, show rd (four (bump (fun _ => 0) (u0 F 0 N))) 1 = _ from hb 1, show rd (four (bump (fun _ => 0) (u0 F 0 N))) 2 = _ from hb 2, e12, wrap_id (by omega) (by omega), Int.toNat_natCast]
    exact Ev.now _
  · rw [if_neg hg]
    exact Ev.ite_neg hg (Ev.now _)
def friendC (n : Int) (l : List S43) : List (List Int) × Bool := if goodB n l = true then (t0 (adj l) 0 n.toNat, true) else ([], false)
theorem impl_FriendThrees.ok (n : Int) (l : List S43) (hl : l.length ≤ 1048576) : Ev (fun k => impl_FriendThrees.f k n l) (friendC n l) := by
  unfold impl_FriendThrees.f friendC
  refine Ev.bind (ev_of (l.length + 5) fun k hk => impl_IsParty.ok n l hl k (by omega)) ?_
  by_cases hg : goodB n l = true
  · rw [if_pos hg]
    obtain ⟨N, rfl, hN, hp, _⟩ := good_N hg
    exact Ev.ite_pos hg (Ev.bind (impl_Party_table.ok N hN l hl hp) (Ev.bind (impl_threes.ok N hN _) (Ev.now _)))
  · rw [if_neg hg]
    exact Ev.ite_neg hg (Ev.now _)
theorem spec_l1Own.ok (l : List Int) (h : l.length < 17592186044416) : spec_l1Own.f l = some l := by
  unfold spec_l1Own.f
  simp only [Option.bind_some, List.nil_append]
  rw [if_pos (by simpa using h)]
def ints (bs : List Nat) : List Int := bs.map fun (b : Nat) => (b : Int)
theorem ints_length (bs : List Nat) : (ints bs).length = bs.length := by simp [ints]
theorem rd_ints (bs : List Nat) (i : Nat) (h : i < bs.length) : rd (ints bs) (i : Int) = ((bs[i] : Nat) : Int) := by simp [rd, ints, List.getD, h]
def know (F : Nat → Nat → Bool) (bs : List Nat) (x : Nat) : Bool := bs.all (F x)
theorem spec_trKnows.ok (n : Nat) (_hn : n ≤ 12) (F : Nat → Nat → Bool) (bs : List Nat) (a : Nat) (ha : a < n) (hb : ∀ b ∈ bs, b < n) (hl : bs.length ≤ 1048576) : Ev (fun k => spec_trKnows.f k (tabB n F) (ints bs) (a : Int)) (know F bs a) := by
  unfold spec_trKnows.f know
  rw [ints_length]
  refine up_loop (P := fun i => Ev (fun k => spec_trKnows.l0 k (tabB n F) (a : Int) (ints bs) (bs.length : Int) (i : Int)) ((bs.drop i).all (F a))) (n := bs.length) ?_ ?_ 0 (Nat.zero_le _)
  · refine Ev.step (f := fun _ => some true) (fun k => ?_) (by rw [List.drop_length]; exact Ev.now _)
    simp only [spec_trKnows.l0]
    rw [if_neg (by omega)]
  · intro i hi h
    have e : (bs.drop i).all (F a) = (F a bs[i] && (bs.drop (i + 1)).all (F a)) := by rw [List.drop_eq_getElem_cons hi]; rfl
    have hbi := hb bs[i] (List.getElem_mem hi)
    rw [e]
    cases hF : F a bs[i] with
    | false =>
      rw [Bool.false_and]
      refine Ev.step (f := fun _ => some false) (fun k => ?_) (Ev.now _)
      simp only [spec_trKnows.l0]
      rw [if_pos (by omega), if_pos (by omega), if_pos (by rw [ints_length]; omega), if_pos (by omega), if_pos (by rw [tabB_length]; omega), rd_ints bs i hi, if_pos (by omega), rdL_tabB n F a ha, if_pos (by simp; omega), row_get n _ _ hbi, hF, if_neg (by simp)]
    | true =>
      rw [Bool.true_and]
      refine Ev.step (fun k => ?_) h
      simp only [spec_trKnows.l0]
      rw [if_pos (by omega), if_pos (by omega), if_pos (by rw [ints_length]; omega), if_pos (by omega), if_pos (by rw [tabB_length]; omega), rd_ints bs i hi, if_pos (by omega), rdL_tabB n F a ha, if_pos (by simp; omega), row_get n _ _ hbi, hF, if_pos rfl, nat_succ i (by omega)]
def tg (n : Nat) (F : Nat → Nat → Bool) : Nat → List Nat → Nat → List (List Int)
  | 0, bs, _ => [ints bs]
  | d + 1, bs, fr => (List.range' fr (n - fr)).flatMap fun a => if know F bs a = true then tg n F d (bs ++ [a]) (a + 1) else []
theorem flat_if {α : Type} (p : Nat → Bool) (g : Nat → α) : ∀ l : List Nat, (l.flatMap fun c => if p c = true then [g c] else []) = (l.filter p).map g
  | [] => rfl
  | c :: l => by
    rw [List.flatMap_cons, flat_if p g l, List.filter_cons]
    cases p c <;> rfl
theorem tg_three (n : Nat) (F : Nat → Nat → Bool) (hF : ∀ a b, F a b = F b a) : tg n F 3 [] 0 = t0 F 0 n := by
  show ((List.range' 0 (n - 0)).flatMap fun a => if know F [] a = true then tg n F 2 ([] ++ [a]) (a + 1) else []) = (List.range' 0 (n - 0)).flatMap fun x => t1 F x (x + 1) n
  congr 1
  funext a
  rw [if_pos (show know F [] a = true from rfl)]
  show ((List.range' (a + 1) (n - (a + 1))).flatMap fun b => if know F [a] b = true then tg n F 1 ([a] ++ [b]) (b + 1) else []) = (List.range' (a + 1) (n - (a + 1))).flatMap fun y => t2 F a y (y + 1) n
  congr 1
  funext b
  have e1 : know F [a] b = F a b := by simp [know, hF b a]
  rw [e1]
  unfold t2
  cases hab : F a b with
  | false =>
    rw [if_neg (by decide)]
    simp
  | true =>
    rw [if_pos rfl]
    show ((List.range' (b + 1) (n - (b + 1))).flatMap fun c => if know F [a, b] c = true then [ints ([a, b] ++ [c])] else []) = _
    rw [flat_if]
    have e2 : know F [a, b] = fun z => true && (F a z && F b z) := by
      funext z
      simp [know, hF z a, hF z b]
    rw [e2]
    rfl
theorem spec_trGroups.exact (n : Nat) (hn : n ≤ 12) (F : Nat → Nat → Bool) : ∀ (d : Nat), d ≤ 5 → ∀ (bs : List Nat) (fr : Nat) (size : Nat), size = bs.length + d → bs.length + d ≤ 1000 → fr ≤ n → (∀ b ∈ bs, b < n) → ((bs = [] ∧ fr = 0) ∨ (0 < bs.length ∧ fr = bs.getD (bs.length - 1) 0 + 1)) →
    Ev (fun k => spec_trGroups.f k (tabB n F) (ints bs) (size : Int)) (tg n F d bs fr) ∧ (tg n F d bs fr).length ≤ 12 ^ d := by
  intro d
  induction d with
  | zero =>
    intro _ bs fr size hs hl _ _ _
    refine ⟨Ev_succ ?_, by simp [tg]⟩
    simp only [spec_trGroups.f, spec_l1Own.ok _ (show (ints bs).length < 17592186044416 by rw [ints_length]; omega), Option.bind_some]
    exact Ev.ite_pos (by rw [ints_length]; omega) (Ev.now _)
  | succ d ih =>
    intro hd bs fr size hs hl hfn hb hfr
    have hX : 12 ^ d ≤ 12 ^ 4 := Nat.pow_le_pow_right (by omega) (by omega)
    have hX2 : (12 : Nat) ^ 4 = 20736 := rfl
    have loop := up_loop (P := fun i => fr ≤ i → ∀ acc : List (List Int), acc.length ≤ i * 12 ^ d → Ev (fun k => spec_trGroups.l0 k (tabB n F) (ints bs) (size : Int) acc (i : Int)) (acc ++ (List.range' i (n - i)).flatMap fun a => if know F bs a = true then tg n F d (bs ++ [a]) (a + 1) else []) ∧ ((List.range' i (n - i)).flatMap fun a => if know F bs a = true then tg n F d (bs ++ [a]) (a + 1) else []).length ≤ (n - i) * 12 ^ d) (n := n) (by
        intro _ acc _
        rw [Nat.sub_self]
        refine ⟨Ev_succ ?_, by simp⟩
        simp only [spec_trGroups.l0]
        rw [show acc ++ (List.range' n 0).flatMap (fun a => if know F bs a = true then tg n F d (bs ++ [a]) (a + 1) else []) = acc from by simp]
        exact Ev.ite_neg (by rw [tabB_length]; omega) (Ev.now _)) (by
        intro i hi h hfi acc hacc
        have hk := spec_trKnows.ok n hn F bs i hi hb (by omega)
        have hXi : (i + 1) * 12 ^ d = i * 12 ^ d + 12 ^ d := Nat.succ_mul _ _
        have hXn : (n - i) * 12 ^ d = (n - (i + 1)) * 12 ^ d + 12 ^ d := by rw [show n - i = (n - (i + 1)) + 1 from by omega, Nat.succ_mul]
        have hXb : i * 12 ^ d ≤ 12 * 12 ^ d := Nat.mul_le_mul_right _ (by omega)
        rw [range'_cons i n hi, List.flatMap_cons]
        cases hki : know F bs i with
        | false =>
          obtain ⟨o1, o3⟩ := h (by omega) acc (by omega)
          rw [if_neg (by decide), List.nil_append]
          refine ⟨Ev_succ ?_, by omega⟩
          simp only [spec_trGroups.l0, nat_succ i (by omega)]
          rw [hki] at hk
          exact Ev.ite_pos (by rw [tabB_length]; omega) (Ev.bind hk (Ev.ite_neg (by decide) o1))
        | true =>
          obtain ⟨a1, a3⟩ := ih (by omega) (bs ++ [i]) (i + 1) size (by simp; omega) (by simp; omega) (by omega) (by
            intro b hbm
            rcases List.mem_append.1 hbm with h | h
            · exact hb b h
            · obtain rfl := List.mem_singleton.1 h
              exact hi) (.inr ⟨by simp, by simp [List.getD]⟩)
          rw [if_pos rfl]
          obtain ⟨o1, o3⟩ := h (by omega) (acc ++ tg n F d (bs ++ [i]) (i + 1)) (by rw [List.length_append]; omega)
          rw [List.append_assoc] at o1
          refine ⟨Ev_succ ?_, by rw [List.length_append]; omega⟩
          rw [hki] at hk
          have e : ints bs ++ [(i : Int)] = ints (bs ++ [i]) := by simp [ints]
          simp only [spec_trGroups.l0, nat_succ i (by omega), spec_l1Own.ok _ (show (ints bs).length < 17592186044416 by rw [ints_length]; omega), Option.bind_some, e]
          exact Ev.ite_pos (by rw [tabB_length]; omega) (Ev.bind hk (Ev.ite_pos rfl (Ev.ite_pos (by rw [ints_length]; omega) (Ev.bind a1 (Ev.ite_pos (by omega) o1))))))
    obtain ⟨o1, o3⟩ := loop fr hfn (Nat.le_refl _) [] (by simp)
    rw [List.nil_append] at o1
    have hj : Ev (fun k => spec_trGroups.j0 k (tabB n F) (ints bs) (size : Int) (fr : Int)) (tg n F (d + 1) bs fr) := by
      refine Ev_succ ?_
      simp only [spec_trGroups.j0]
      exact o1
    refine ⟨Ev_succ ?_, ?_⟩
    · simp only [spec_trGroups.f]
      refine Ev.ite_neg (by rw [ints_length]; omega) ?_
      rcases hfr with ⟨rfl, rfl⟩ | ⟨h0, h1⟩
      · exact Ev.ite_neg (by simp [ints]) hj
      · have e1 : wrap64 (((ints bs).length : Int) - 1) = ((bs.length - 1 : Nat) : Int) := by rw [ints_length, wrap_id (by omega) (by omega)]; omega
        have e2 : bs.getD (bs.length - 1) 0 = bs[bs.length - 1] := by rw [List.getD, List.getElem?_eq_getElem (by omega)]; rfl
        have e3 := hb bs[bs.length - 1] (List.getElem_mem (by omega))
        simp only [e1, rd_ints bs _ (show bs.length - 1 < bs.length by omega), nat_succ _ (show bs[bs.length - 1] ≤ 4611686018427387904 by omega)]
        rw [h1, e2] at hj
        exact Ev.ite_pos (by rw [ints_length]; omega) (Ev.ite_pos (by omega) (Ev.ite_pos (by rw [ints_length]; omega) (by rw [h1, e2]; exact hj)))
    · have : (n - fr) * 12 ^ d ≤ 12 * 12 ^ d := Nat.mul_le_mul_right _ (by omega)
      have e : (tg n F (d + 1) bs fr).length = ((List.range' fr (n - fr)).flatMap fun a => if know F bs a = true then tg n F d (bs ++ [a]) (a + 1) else []).length := rfl
      rw [Nat.pow_succ, Nat.mul_comm (12 ^ d) 12]
      omega
theorem spec_trGroups.three (n : Nat) (hn : n ≤ 12) (F : Nat → Nat → Bool) (hF : ∀ a b, F a b = F b a) : Ev (fun k => spec_trGroups.f k (tabB n F) ([] : List Int) 3) (t0 F 0 n) ∧ (t0 F 0 n).length ≤ 1728 := by
  have h := spec_trGroups.exact n hn F 3 (by omega) [] 0 3 rfl (by simp) (by omega) (by simp) (.inl ⟨rfl, rfl⟩)
  rw [tg_three n F hF] at h
  exact h
theorem spec_FriendThrees.ok (n : Int) (l : List S43) (hl : l.length ≤ 1048576) : Ev (fun k => spec_FriendThrees.f k n l) (friendC n l) := by
  unfold spec_FriendThrees.f friendC
  refine Ev.bind (ev_of 70 fun k hk => spec_paGood.ok n l k hk) ?_
  by_cases hg : goodB n l = true
  · rw [if_pos hg]
    obtain ⟨N, rfl, hN, hp, _⟩ := good_N hg
    exact Ev.ite_pos hg (Ev.bind (spec_paTable.ok N hN l hl hp) (Ev.bind (spec_trGroups.three N hN _ (adj_symm l)).1 (Ev.now _)))
  · rw [if_neg hg]
    exact Ev.ite_neg hg (Ev.now _)
def deg (n : Nat) (F : Nat → Nat → Bool) (a : Nat) : Int := dg2 (fun x y => bi (F x y)) n a
def degL (n : Nat) (F : Nat → Nat → Bool) : List Int := (List.range n).map (deg n F)
theorem degL_len (n : Nat) (F : Nat → Nat → Bool) : (degL n F).length = n := by simp [degL]
theorem degL_rd (n : Nat) (F : Nat → Nat → Bool) (a : Nat) (h : a < n) : rd (degL n F) (a : Int) = deg n F a := by simp [rd, degL, List.getD, h]
theorem deg_card (n : Nat) (F : Nat → Nat → Bool) (a : Nat) : (((List.range n).filter (F a)).length : Int) = deg n F a := by
  rw [List.range_eq_range', len_filter, up_zero]
  rfl
theorem deg_le (n : Nat) (F : Nat → Nat → Bool) (a : Nat) : 0 ≤ deg n F a ∧ deg n F a ≤ n := by
  rw [← deg_card]
  have := List.length_filter_le (F a) (List.range n)
  rw [List.length_range] at this
  omega
theorem deg_lt (n : Nat) (F : Nat → Nat → Bool) (a : Nat) (ha : a < n) (hd : F a a = false) : deg n F a ≤ (n : Int) - 1 := by
  have h : sm n (fun b => bi (F a b)) ≤ sm n (fun b => 1 - (if b = a then 1 else 0)) := sm_le n (fun b _ => by
    by_cases e : b = a
    · rw [if_pos e, e, hd]; simp [bi]
    · rw [if_neg e]; rcases bi_two (F a b) with h | h <;> omega)
  have h2 : ∀ m : Nat, sm m (fun b => 1 - (if b = a then (1 : Int) else 0)) = (m : Int) - (if a < m then 1 else 0) := by
    intro m
    induction m with
    | zero => rfl
    | succ m ih =>
      simp only [sm, ih]
      by_cases e : m = a
      · subst e; rw [if_neg (Nat.lt_irrefl _), if_pos rfl, if_pos (Nat.lt_succ_self _)]; omega
      · rw [if_neg e]
        by_cases e2 : a < m
        · rw [if_pos e2, if_pos (by omega)]; omega
        · rw [if_neg e2, if_neg (by omega)]; omega
  rw [h2 n, if_pos ha] at h
  exact h
theorem impl_table_number.ok (n : Nat) (hn : n ≤ 12) (F : Nat → Nat → Bool) (a : Nat) (ha : a < n) : impl_table_number.f (tabI n F) (a : Int) = some (deg n F a) := by
  have h16 := msk_lt16 (F a) n (by omega)
  unfold impl_table_number.f
  rw [if_pos (by omega), if_pos (by rw [tabI_length]; omega), tabI_rd n F a ha, bits_OnesCount16.f, if_pos (by omega), Int.toNat_natCast, popN_bof, bof_msk _ _ (by omega), deg_card]
  rfl
theorem impl_table_numbers.ok (n : Nat) (hn : n ≤ 12) (F : Nat → Nat → Bool) : Ev (fun k => impl_table_numbers.f k (tabI n F)) (degL n F) := by
  have L := up_loop (P := fun i => Ev (fun k => impl_table_numbers.l0 k (tabI n F) ((List.range i).map (deg n F)) (n : Int) (i : Int)) (degL n F)) (n := n) (by
      refine Ev_succ ?_
      simp only [impl_table_numbers.l0]
      exact Ev.ite_neg (by omega) (Ev.now _)) (by
      intro i hi h
      refine Ev_succ ?_
      simp only [impl_table_numbers.l0, impl_table_number.ok n hn F i hi, Option.bind_some, nat_succ i (by omega)]
      refine Ev.ite_pos (by omega) (Ev.ite_pos (by simp; omega) ?_)
      rw [List.range_succ, List.map_append] at h
      exact h) 0 (Nat.zero_le _)
  unfold impl_table_numbers.f
  rw [tabI_length]
  exact L
def numsC (n : Int) (l : List S43) : List Int × Bool := if goodB n l = true then (degL n.toNat (adj l), true) else ([], false)
theorem impl_NumbersOfFriends.ok (n : Int) (l : List S43) (hl : l.length ≤ 1048576) : Ev (fun k => impl_NumbersOfFriends.f k n l) (numsC n l) := by
  unfold impl_NumbersOfFriends.f numsC
  refine Ev.bind (ev_of (l.length + 5) fun k hk => impl_IsParty.ok n l hl k (by omega)) ?_
  by_cases hg : goodB n l = true
  · rw [if_pos hg]
    obtain ⟨N, rfl, hN, hp, _⟩ := good_N hg
    exact Ev.ite_pos hg (Ev.bind (impl_Party_table.ok N hN l hl hp) (Ev.bind (impl_table_numbers.ok N hN _) (Ev.now _)))
  · rw [if_neg hg]
    exact Ev.ite_neg hg (Ev.now _)
theorem adj_irr {n : Int} {l : List S43} (h : goodB n l = true) (a : Nat) : adj l a a = false := by
  unfold adj
  rw [List.any_eq_false]
  intro x hx
  obtain ⟨i, hi, rfl⟩ := List.getElem_of_mem hx
  have := (goodB_step h i hi).1
  simp only [decide_eq_true_eq]
  omega
def sB (n : Nat) (F : Nat → Nat → Bool) : Int := sm n (fun a => deg n F a * ((n : Int) - 1 - deg n F a))
theorem sB_mixed {n : Int} {l : List S43} (hg : goodB n l = true) (N : Nat) : sB N (adj l) = 2 * cM N (adj l) := by
  have h := corners (fun x y => bi (adj l x y)) (fun a b => by rw [adj_symm]) (fun a => by rw [adj_irr hg]; rfl) (fun a b => bi_sq _) N
  unfold sB deg
  rw [h]
  have : T3 N (crn fun x y => bi (adj l x y)) + 2 * (cF N (adj l) + cS N (adj l)) = 2 * c3 N := by
    unfold cF cS c3
    rw [← T3_add, ← T3_mul, ← T3_mul, ← T3_add]
    refine T3_congr N (fun a b c _ _ _ => ?_)
    unfold crn
    rcases bi_two (adj l a b) with h | h <;> rcases bi_two (adj l a c) with h2 | h2 <;> rcases bi_two (adj l b c) with h3 | h3 <;> simp [h, h2, h3]
  unfold cM
  omega
def kindC (n : Int) (l : List S43) : Int × Bool := if goodB n l = true then (cF n.toNat (adj l) + cS n.toNat (adj l), true) else (0, false)
theorem kind_end {n : Int} {l : List S43} (hg : goodB n l = true) (N : Nat) (hN : N ≤ 12) : wrap64 (c3 N - wrap64 (Int.tdiv (sB N (adj l)) 2)) = cF N (adj l) + cS N (adj l) := by
  have h1 := cF_le N (adj l)
  have h2 := c3_val N hN
  have h3 : cM N (adj l) = c3 N - cF N (adj l) - cS N (adj l) := rfl
  rw [sB_mixed hg, Int.mul_comm, Int.mul_tdiv_cancel _ (by decide), wrap_id (x := cM N (adj l)) (by omega) (by omega), wrap_id (by omega) (by omega)]
  omega
theorem term_le (n : Nat) (hn : n ≤ 12) (F : Nat → Nat → Bool) (a : Nat) : wrap64 (deg n F a * wrap64 (wrap64 ((n : Int) - 1) - deg n F a)) = deg n F a * ((n : Int) - 1 - deg n F a) ∧ -1000 ≤ deg n F a * ((n : Int) - 1 - deg n F a) ∧ deg n F a * ((n : Int) - 1 - deg n F a) ≤ 1000 := by
  have h := deg_le n F a
  obtain ⟨m, hm⟩ := Int.eq_ofNat_of_zero_le h.1
  rw [hm] at h ⊢
  have hm12 : m ≤ 12 := by omega
  have hb : -1000 ≤ (m : Int) * ((n : Int) - 1 - m) ∧ (m : Int) * ((n : Int) - 1 - m) ≤ 1000 := by
    have h1 : -12 ≤ (n : Int) - 1 - m := by omega
    have h2 : (n : Int) - 1 - m ≤ 12 := by omega
    constructor
    · have := Int.mul_le_mul_of_nonneg_left h1 (show (0 : Int) ≤ m by omega)
      omega
    · have := Int.mul_le_mul_of_nonneg_left h2 (show (0 : Int) ≤ m by omega)
      omega
  rw [wrap_id (x := (n : Int) - 1) (by omega) (by omega), wrap_id (x := (n : Int) - 1 - m) (by omega) (by omega), wrap_id (by omega) (by omega)]
  exact ⟨rfl, hb⟩
theorem sm_bound {f : Nat → Int} (c : Int) (hc : 0 ≤ c) : ∀ n : Nat, (∀ i, i < n → -c ≤ f i ∧ f i ≤ c) → -(c * n) ≤ sm n f ∧ sm n f ≤ c * n
  | 0, _ => by simp [sm]
  | n + 1, h => by
    have ih := sm_bound c hc n (fun i hi => h i (by omega))
    have := h n (by omega)
    have e : c * ((n + 1 : Nat) : Int) = c * n + c := by rw [show ((n + 1 : Nat) : Int) = n + 1 by omega, Int.mul_add, Int.mul_one]
    simp only [sm]
    omega
theorem impl_CountByNumbers.ok (n : Int) (l : List S43) (hl : l.length ≤ 1048576) : Ev (fun k => impl_CountByNumbers.f k n l) (kindC n l) := by
  unfold impl_CountByNumbers.f
  refine Ev.bind (impl_NumbersOfFriends.ok n l hl) ?_
  unfold numsC kindC
  by_cases hg : goodB n l = true
  · rw [if_pos hg, if_pos hg]
    obtain ⟨N, rfl, hN, hp, _⟩ := good_N hg
    rw [Int.toNat_natCast]
    simp only
    rw [degL_len]
    have hb := fun i => sm_bound (f := fun a => deg N (adj l) a * ((N : Int) - 1 - deg N (adj l) a)) 1000 (by omega) i (fun a _ => (term_le N hN (adj l) a).2)
    have L := up_loop (P := fun i => Ev (fun k => impl_CountByNumbers.l0 k (degL N (adj l)) true (sm i (fun a => deg N (adj l) a * ((N : Int) - 1 - deg N (adj l) a))) (degL N (adj l)) (N : Int) (i : Int)) (cF N (adj l) + cS N (adj l), true)) (n := N) (by
        refine Ev_succ ?_
        simp only [impl_CountByNumbers.l0, degL_len]
        refine Ev.ite_neg (by omega) (Ev.bind (impl_choose.three N hN) ?_)
        rw [show sm N (fun a => deg N (adj l) a * ((N : Int) - 1 - deg N (adj l) a)) = sB N (adj l) from rfl, kind_end hg N hN]
        exact Ev.now _) (by
        intro i hi h
        refine Ev_succ ?_
        have h1 := hb i
        have h2 := (term_le N hN (adj l) i).2
        have e : wrap64 (sm i (fun a => deg N (adj l) a * ((N : Int) - 1 - deg N (adj l) a)) + deg N (adj l) i * ((N : Int) - 1 - deg N (adj l) i)) = sm (i + 1) (fun a => deg N (adj l) a * ((N : Int) - 1 - deg N (adj l) a)) := wrap_id (by omega) (by omega)
        simp only [impl_CountByNumbers.l0, degL_len, degL_rd N _ i hi, (term_le N hN (adj l) i).1, e, nat_succ i (by omega)]
        exact Ev.ite_pos (by omega) (Ev.ite_pos (by omega) (Ev.ite_pos (by omega) h))) 0 (Nat.zero_le _)
    exact L
  · rw [if_neg hg, if_neg hg]
    refine Ev_succ ?_
    simp only [impl_CountByNumbers.l0, List.length_nil]
    refine Ev.ite_neg (by omega) (Ev.bind (impl_choose.three 0 (by omega)) ?_)
    rw [show wrap64 (c3 0 - wrap64 (Int.tdiv 0 2)) = 0 from by decide +kernel]
    exact Ev.now _
theorem sm_upd (f : Nat → Int) (b : Nat) (v : Int) : ∀ n, sm n (fun y => if y = b then v else f y) = sm n f + (if b < n then v - f b else 0)
  | 0 => rfl
  | n + 1 => by
    simp only [sm]
    rw [sm_upd f b v n]
    by_cases e : n = b
    · subst e; rw [if_neg (Nat.lt_irrefl _), if_pos rfl, if_pos (Nat.lt_succ_self _)]; omega
    · rw [if_neg e]
      by_cases e2 : b < n
      · rw [if_pos e2, if_pos (by omega)]; omega
      · rw [if_neg e2, if_neg (by omega)]; omega
theorem deg_upd (n : Nat) (F : Nat → Nat → Bool) (a b p : Nat) (hab : a ≠ b) (ha : a < n) (hb : b < n) (h1 : F a b = false) (h2 : F b a = false) : deg n (upd (upd F a b true) b a true) p = deg n F p + (if p = a then 1 else 0) + (if p = b then 1 else 0) := by
  unfold deg dg2 upd
  by_cases e1 : p = a
  · subst e1
    rw [if_pos rfl, if_neg hab]
    have : sm n (fun y => bi (if p = b ∧ y = p then true else if p = p ∧ y = b then true else F p y)) = sm n (fun y => if y = b then 1 else bi (F p y)) := sm_congr n (fun y _ => by
      rw [if_neg (fun h => hab h.1)]
      by_cases e : y = b
      · rw [if_pos ⟨rfl, e⟩, if_pos e]; rfl
      · rw [if_neg (fun h => e h.2), if_neg e])
    rw [this, sm_upd, if_pos hb, h1]
    simp [bi]
  · rw [if_neg e1]
    by_cases e2 : p = b
    · subst e2
      rw [if_pos rfl]
      have : sm n (fun y => bi (if p = p ∧ y = a then true else if p = a ∧ y = p then true else F p y)) = sm n (fun y => if y = a then 1 else bi (F p y)) := sm_congr n (fun y _ => by
        by_cases e : y = a
        · rw [if_pos ⟨rfl, e⟩, if_pos e]; rfl
        · rw [if_neg (fun h => e h.2), if_neg e, if_neg (fun h => e1 h.1)])
      rw [this, sm_upd, if_pos ha, h2]
      simp [bi]
    · rw [if_neg e2]
      have : sm n (fun y => bi (if p = b ∧ y = a then true else if p = a ∧ y = b then true else F p y)) = sm n (fun y => bi (F p y)) := sm_congr n (fun y _ => by
        rw [if_neg (fun h => e2 h.1), if_neg (fun h => e1 h.1)])
      rw [this]
      simp
theorem lex_chain {n : Int} {l : List S43} (h : goodB n l = true) : ∀ (d i : Nat) (h1 : i < l.length) (h2 : i + d + 1 < l.length), l[i].f0 < l[i + d + 1].f0 ∨ l[i].f0 = l[i + d + 1].f0 ∧ l[i].f1 < l[i + d + 1].f1
  | 0, i, h1, h2 => by
    have := (goodB_step h (i + 1) h2).2 (by omega)
    simpa using this
  | d + 1, i, h1, h2 => by
    have ih := lex_chain h d i h1 (by omega)
    have := (goodB_step h (i + (d + 1) + 1) h2).2 (by omega)
    simp only [Nat.add_sub_cancel] at this
    have e : i + (d + 1) = i + d + 1 := by omega
    simp only [e] at this ⊢
    omega
theorem adj_new {n : Int} {l : List S43} (h : goodB n l = true) (i : Nat) (hi : i < l.length) : adj (l.take i) l[i].f0.toNat l[i].f1.toNat = false := by
  unfold adj
  rw [List.any_eq_false]
  intro x hx
  obtain ⟨j, hj, rfl⟩ := List.getElem_of_mem hx
  rw [List.length_take] at hj
  have hji : j < i := by omega
  have hjl : j < l.length := by omega
  rw [List.getElem_take]
  have a1 := (goodB_step h i hi).1
  have a2 := (goodB_step h j hjl).1
  have a3 := lex_chain h (i - j - 1) j hjl (by omega)
  have e : j + (i - j - 1) + 1 = i := by omega
  simp only [e] at a3
  simp only [decide_eq_true_eq]
  omega
theorem spec_paNumbers.ok (N : Nat) (hN : N ≤ 12) (l : List S43) (hg : goodB (N : Int) l = true) : Ev (fun k => spec_paNumbers.f k (N : Int) l) (degL N (adj l)) := by
  have h66 := goodB_len66 hg
  unfold spec_paNumbers.f
  rw [Int.toNat_natCast]
  refine Ev.ite_pos (by omega) (Ev.ite_pos (by omega) ?_)
  have e0 : List.replicate N (0 : Int) = degL N (adj (l.take 0)) := by
    apply List.ext_getElem
    · simp [degL]
    · intro i h1 h2
      simp only [degL, List.getElem_replicate, List.getElem_map, List.getElem_range]
      unfold deg dg2
      rw [sm_congr (g := fun _ => 0) N (fun b _ => by rw [List.take_zero]; rfl), sm_zero]
  rw [e0]
  refine up_loop (P := fun i => Ev (fun k => spec_paNumbers.l0 k (degL N (adj (l.take i))) l (l.length : Int) (i : Int)) (degL N (adj l))) (n := l.length) ?_ ?_ 0 (Nat.zero_le _)
  · rw [List.take_length]
    refine Ev_succ ?_
    simp only [spec_paNumbers.l0]
    exact Ev.ite_neg (by omega) (Ev.now _)
  · intro i hi h
    have hs := (goodB_step hg i hi).1
    have hnew := adj_new hg i hi
    have ht := adj_take l i hi
    obtain ⟨a, ha⟩ := Int.eq_ofNat_of_zero_le (show 0 ≤ l[i].f0 by omega)
    obtain ⟨b, hb⟩ := Int.eq_ofNat_of_zero_le (show 0 ≤ l[i].f1 by omega)
    rw [ha, hb] at hs hnew ht
    simp only [Int.toNat_natCast] at hnew ht
    have haN : a < N := by omega
    have hbN : b < N := by omega
    have hab : a ≠ b := by omega
    have hd := fun p => deg_upd N (adj (l.take i)) a b p hab haN hbN hnew (by rw [adj_symm]; exact hnew)
    have hle := fun p => deg_le N (adj (l.take i)) p
    have hset : ((degL N (adj (l.take i))).set a (deg N (adj (l.take i)) a + 1)).set b (deg N (adj (l.take i)) b + 1) = degL N (adj (l.take (i + 1))) := by
      rw [ht]
      apply List.ext_getElem
      · simp [degL]
      · intro j h1 h2
        rw [List.getElem_set, List.getElem_set]
        simp only [degL, List.getElem_map, List.getElem_range, hd]
        by_cases e1 : b = j
        · subst e1
          rw [if_pos rfl, if_neg (fun h => hab h.symm), if_pos rfl]; omega
        · rw [if_neg e1, if_neg (fun h : j = b => e1 h.symm)]
          by_cases e2 : a = j
          · subst e2; rw [if_pos rfl, if_pos rfl]; omega
          · rw [if_neg e2, if_neg (fun h : j = a => e2 h.symm)]; omega
    have hlen := degL_len N (adj (l.take i))
    have er : rd ((degL N (adj (l.take i))).set a (deg N (adj (l.take i)) a + 1)) (b : Int) = deg N (adj (l.take i)) b := by
      simp only [rd, List.getD, Int.toNat_natCast]
      rw [List.getElem?_set_ne hab]
      have := degL_rd N (adj (l.take i)) b hbN
      simpa [rd, List.getD] using this
    refine Ev_succ ?_
    simp only [spec_paNumbers.l0, rd_T43_nat l i hi, ha, hb, Int.toNat_natCast, degL_rd N _ a haN, nat_succ i (by omega), Option.bind_some]
    have w1 : wrap64 (deg N (adj (l.take i)) a + 1) = deg N (adj (l.take i)) a + 1 := by have := hle a; exact wrap_id (by omega) (by omega)
    have w2 : wrap64 (deg N (adj (l.take i)) b + 1) = deg N (adj (l.take i)) b + 1 := by have := hle b; exact wrap_id (by omega) (by omega)
    simp only [w1, er, w2, hset]
    exact Ev.ite_pos (by omega) (Ev.ite_pos (by omega) (Ev.ite_pos (by omega) (Ev.ite_pos (by omega) (Ev.ite_pos (by omega) (Ev.ite_pos (by omega) (Ev.ite_pos (by omega) h))))))
theorem spec_trChoose.three (n : Nat) (hn : n ≤ 12) : Ev (fun k => spec_trChoose.f k (n : Int) 3) (c3 n) := by
  refine Ev.of (fun k => spec_trChoose.mono _ _ k) (k := 20) ?_
  obtain rfl | rfl | rfl | rfl | rfl | rfl | rfl | rfl | rfl | rfl | rfl | rfl | rfl : n = 0 ∨ n = 1 ∨ n = 2 ∨ n = 3 ∨ n = 4 ∨ n = 5 ∨ n = 6 ∨ n = 7 ∨ n = 8 ∨ n = 9 ∨ n = 10 ∨ n = 11 ∨ n = 12 := by omega
  all_goals decide +kernel
theorem spec_trChoose.ev2 (n : Nat) (hn : n ≤ 12) : Ev (fun k => spec_trChoose.f k (n : Int) 2) ((n : Int) * ((n : Int) - 1) / 2) := by
  refine Ev.of (fun k => spec_trChoose.mono _ _ k) (k := 20) ?_
  obtain rfl | rfl | rfl | rfl | rfl | rfl | rfl | rfl | rfl | rfl | rfl | rfl | rfl : n = 0 ∨ n = 1 ∨ n = 2 ∨ n = 3 ∨ n = 4 ∨ n = 5 ∨ n = 6 ∨ n = 7 ∨ n = 8 ∨ n = 9 ∨ n = 10 ∨ n = 11 ∨ n = 12 := by omega
  all_goals decide +kernel
theorem spec_CountByNumbers.ok (n : Int) (l : List S43) : Ev (fun k => spec_CountByNumbers.f k n l) (kindC n l) := by
  unfold spec_CountByNumbers.f kindC
  refine Ev.bind (ev_of 70 fun k hk => spec_paGood.ok n l k hk) ?_
  by_cases hg : goodB n l = true
  · rw [if_pos hg]
    obtain ⟨N, rfl, hN, hp, _⟩ := good_N hg
    rw [Int.toNat_natCast]
    refine Ev.ite_pos hg (Ev.bind (spec_paNumbers.ok N hN l hg) ?_)
    rw [degL_len]
    have hb := fun i => sm_bound (f := fun a => deg N (adj l) a * ((N : Int) - 1 - deg N (adj l) a)) 1000 (by omega) i (fun a _ => (term_le N hN (adj l) a).2)
    have L := up_loop (P := fun i => Ev (fun k => spec_CountByNumbers.l0 k (sm i (fun a => deg N (adj l) a * ((N : Int) - 1 - deg N (adj l) a))) (degL N (adj l)) (N : Int) (i : Int) (N : Int) l) (cF N (adj l) + cS N (adj l), true)) (n := N) (by
        refine Ev_succ ?_
        simp only [spec_CountByNumbers.l0]
        refine Ev.ite_neg (by omega) (Ev.bind (spec_trChoose.three N hN) ?_)
        rw [show sm N (fun a => deg N (adj l) a * ((N : Int) - 1 - deg N (adj l) a)) = sB N (adj l) from rfl, kind_end hg N hN]
        exact Ev.now _) (by
        intro i hi h
        refine Ev_succ ?_
        have h1 := hb i
        have h2 := (term_le N hN (adj l) i).2
        have e : wrap64 (sm i (fun a => deg N (adj l) a * ((N : Int) - 1 - deg N (adj l) a)) + deg N (adj l) i * ((N : Int) - 1 - deg N (adj l) i)) = sm (i + 1) (fun a => deg N (adj l) a * ((N : Int) - 1 - deg N (adj l) a)) := wrap_id (by omega) (by omega)
        simp only [spec_CountByNumbers.l0, degL_len, degL_rd N _ i hi, (term_le N hN (adj l) i).1, e, nat_succ i (by omega)]
        exact Ev.ite_pos (by omega) (Ev.ite_pos (by omega) (Ev.ite_pos (by omega) h))) 0 (Nat.zero_le _)
    exact L
  · rw [if_neg hg]
    exact Ev.ite_neg hg (Ev.now _)
def fk (n : Nat) (F : Nat → Nat → Bool) (a : Nat) : Int := deg n F a * (deg n F a - 1) / 2
def fkS (n : Nat) (F : Nat → Nat → Bool) : Int := sm n (fk n F)
theorem fk_two (n : Nat) (hn : n ≤ 12) (F : Nat → Nat → Bool) (a : Nat) : 2 * fk n F a = deg n F a * (deg n F a - 1) ∧ 0 ≤ fk n F a ∧ fk n F a ≤ 100 := by
  have h := deg_le n F a
  unfold fk
  obtain ⟨m, hm⟩ := Int.eq_ofNat_of_zero_le h.1
  rw [hm] at h ⊢
  have hm12 : m ≤ 12 := by omega
  obtain rfl | rfl | rfl | rfl | rfl | rfl | rfl | rfl | rfl | rfl | rfl | rfl | rfl : m = 0 ∨ m = 1 ∨ m = 2 ∨ m = 3 ∨ m = 4 ∨ m = 5 ∨ m = 6 ∨ m = 7 ∨ m = 8 ∨ m = 9 ∨ m = 10 ∨ m = 11 ∨ m = 12 := by omega
  all_goals decide
theorem fkS_bounds {n : Int} {l : List S43} (hg : goodB n l = true) (N : Nat) (hN : N ≤ 12) : 3 * cF N (adj l) ≤ fkS N (adj l) ∧ fkS N (adj l) ≤ 3 * cF N (adj l) + cM N (adj l) := by
  have h := forks2 (fun x y => bi (adj l x y)) (fun a b => by rw [adj_symm]) (fun a => by rw [adj_irr hg]; rfl) (fun a b => bi_sq _) N
  have e : sm N (fun a => deg N (adj l) a * (deg N (adj l) a - 1)) = 2 * fkS N (adj l) := by
    unfold fkS
    rw [← sm_mul]
    exact sm_congr N (fun a _ => ((fk_two N hN (adj l) a).1).symm)
  have e2 : fkS N (adj l) = T3 N (fun a b c => bi (adj l a b) * bi (adj l a c) + bi (adj l a b) * bi (adj l b c) + bi (adj l a c) * bi (adj l b c)) := by
    unfold deg at e
    rw [e] at h
    omega
  rw [e2]
  constructor
  · unfold cF
    rw [← T3_mul]
    refine T3_le N (fun a b c _ _ _ => ?_)
    rcases bi_two (adj l a b) with h | h <;> rcases bi_two (adj l a c) with h2 | h2 <;> rcases bi_two (adj l b c) with h3 | h3 <;> simp [h, h2, h3]
  · have : T3 N (fun a b c => bi (adj l a b) * bi (adj l a c) + bi (adj l a b) * bi (adj l b c) + bi (adj l a c) * bi (adj l b c)) + cS N (adj l) ≤ 2 * cF N (adj l) + c3 N := by
      unfold cF cS c3
      rw [← T3_mul, ← T3_add, ← T3_add]
      refine T3_le N (fun a b c _ _ _ => ?_)
      rcases bi_two (adj l a b) with h | h <;> rcases bi_two (adj l a c) with h2 | h2 <;> rcases bi_two (adj l b c) with h3 | h3 <;> simp [h, h2, h3]
    unfold cM
    omega
def forkC (n : Int) (l : List S43) : Int × Bool := if goodB n l = true then (fkS n.toNat (adj l), true) else (0, false)
theorem impl_choose.deg (n : Nat) (hn : n ≤ 12) (F : Nat → Nat → Bool) (a : Nat) : Ev (fun k => impl_choose.f k (deg n F a) 2) (fk n F a) := by
  have h := deg_le n F a
  unfold fk
  obtain ⟨m, hm⟩ := Int.eq_ofNat_of_zero_le h.1
  rw [hm] at h ⊢
  exact impl_choose.ev2 m (by omega)
theorem impl_CountForks.ok (n : Int) (l : List S43) (hl : l.length ≤ 1048576) : Ev (fun k => impl_CountForks.f k n l) (forkC n l) := by
  unfold impl_CountForks.f
  refine Ev.bind (impl_NumbersOfFriends.ok n l hl) ?_
  unfold numsC forkC
  by_cases hg : goodB n l = true
  · rw [if_pos hg, if_pos hg]
    obtain ⟨N, rfl, hN, hp, _⟩ := good_N hg
    rw [Int.toNat_natCast]
    simp only
    rw [degL_len]
    have hb := fun i => sm_bound (f := fk N (adj l)) 100 (by omega) i (fun a _ => by have := fk_two N hN (adj l) a; omega)
    exact up_loop (P := fun i => Ev (fun k => impl_CountForks.l0 k true (sm i (fk N (adj l))) (degL N (adj l)) (N : Int) (i : Int)) (fkS N (adj l), true)) (n := N) (by
        refine Ev_succ ?_
        simp only [impl_CountForks.l0]
        exact Ev.ite_neg (by omega) (Ev.now _)) (by
        intro i hi h
        have h1 := hb i
        have h2 := fk_two N hN (adj l) i
        have e : wrap64 (sm i (fk N (adj l)) + fk N (adj l) i) = sm (i + 1) (fk N (adj l)) := wrap_id (by omega) (by omega)
        refine Ev_succ ?_
        simp only [impl_CountForks.l0, degL_len, degL_rd N _ i hi, nat_succ i (by omega)]
        refine Ev.ite_pos (by omega) (Ev.ite_pos (by omega) (Ev.ite_pos (by omega) (Ev.bind (impl_choose.deg N hN (adj l) i) ?_)))
        rw [e]
        exact h) 0 (Nat.zero_le _)
  · rw [if_neg hg, if_neg hg]
    refine Ev_succ ?_
    simp only [impl_CountForks.l0, List.length_nil]
    exact Ev.ite_neg (by omega) (Ev.now _)
theorem spec_trChoose.deg (n : Nat) (hn : n ≤ 12) (F : Nat → Nat → Bool) (a : Nat) : Ev (fun k => spec_trChoose.f k (deg n F a) 2) (fk n F a) := by
  have h := deg_le n F a
  unfold fk
  obtain ⟨m, hm⟩ := Int.eq_ofNat_of_zero_le h.1
  rw [hm] at h ⊢
  exact spec_trChoose.ev2 m (by omega)
theorem spec_CountForks.ok (n : Int) (l : List S43) : Ev (fun k => spec_CountForks.f k n l) (forkC n l) := by
  unfold spec_CountForks.f forkC
  refine Ev.bind (ev_of 70 fun k hk => spec_paGood.ok n l k hk) ?_
  by_cases hg : goodB n l = true
  · rw [if_pos hg]
    obtain ⟨N, rfl, hN, hp, _⟩ := good_N hg
    rw [Int.toNat_natCast]
    refine Ev.ite_pos hg (Ev.bind (spec_paNumbers.ok N hN l hg) ?_)
    rw [degL_len]
    have hb := fun i => sm_bound (f := fk N (adj l)) 100 (by omega) i (fun a _ => by have := fk_two N hN (adj l) a; omega)
    exact up_loop (P := fun i => Ev (fun k => spec_CountForks.l0 k (sm i (fk N (adj l))) (degL N (adj l)) (N : Int) (i : Int)) (fkS N (adj l), true)) (n := N) (by
        refine Ev_succ ?_
        simp only [spec_CountForks.l0]
        exact Ev.ite_neg (by omega) (Ev.now _)) (by
        intro i hi h
        have h1 := hb i
        have h2 := fk_two N hN (adj l) i
        have e : wrap64 (sm i (fk N (adj l)) + fk N (adj l) i) = sm (i + 1) (fk N (adj l)) := wrap_id (by omega) (by omega)
        refine Ev_succ ?_
        simp only [spec_CountForks.l0, degL_len, degL_rd N _ i hi, nat_succ i (by omega)]
        refine Ev.ite_pos (by omega) (Ev.ite_pos (by omega) (Ev.ite_pos (by omega) (Ev.bind (spec_trChoose.deg N hN (adj l) i) ?_)))
        rw [e]
        exact h) 0 (Nat.zero_le _)
  · rw [if_neg hg]
    exact Ev.ite_neg hg (Ev.now _)
def leastV (n : Nat) : Int := (impl_leastOneKind.f (n : Int)).getD 0
def leastC (n : Int) : Int × Bool := if crowd n = true then (leastV n.toNat, true) else (0, false)
theorem crowd_N {n : Int} (h : crowd n = true) : ∃ N : Nat, n = (N : Int) ∧ N ≤ 12 := by
  unfold crowd at h
  simp only [decide_eq_true_eq] at h
  obtain ⟨N, rfl⟩ := Int.eq_ofNat_of_zero_le h.1
  exact ⟨N, rfl, by omega⟩
theorem leastV_some (n : Nat) (hn : n ≤ 12) : impl_leastOneKind.f (n : Int) = some (leastV n) ∧ 0 ≤ leastV n := by
  obtain rfl | rfl | rfl | rfl | rfl | rfl | rfl | rfl | rfl | rfl | rfl | rfl | rfl : n = 0 ∨ n = 1 ∨ n = 2 ∨ n = 3 ∨ n = 4 ∨ n = 5 ∨ n = 6 ∨ n = 7 ∨ n = 8 ∨ n = 9 ∨ n = 10 ∨ n = 11 ∨ n = 12 := by omega
  all_goals decide +kernel
theorem mixed_le {n : Int} {l : List S43} (hg : goodB n l = true) (N : Nat) (hN : N ≤ 12) : leastV N ≤ cF N (adj l) + cS N (adj l) := by
  have h1 := sB_mixed hg N
  have h2 : sB N (adj l) ≤ sm N (fun _ => (((N - 1) / 2 * (N - 1 - (N - 1) / 2) : Nat) : Int)) := sm_le N (fun a ha => by
    have hd := deg_le N (adj l) a
    have hd2 := deg_lt N (adj l) a ha (adj_irr hg a)
    obtain ⟨m, hm⟩ := Int.eq_ofNat_of_zero_le hd.1
    rw [hm] at hd2 ⊢
    have hmN : m < N := by omega
    have key : ∀ N : Nat, N ≤ 12 → ∀ m : Nat, m < N → m * (N - 1 - m) ≤ (N - 1) / 2 * (N - 1 - (N - 1) / 2) := by decide +kernel
    have := key N hN m hmN
    rw [show (N : Int) - 1 - m = ((N - 1 - m : Nat) : Int) by omega, ← Int.natCast_mul]
    exact Int.ofNat_le.mpr this)
  rw [sm_const] at h2
  have h3 : cM N (adj l) = c3 N - cF N (adj l) - cS N (adj l) := rfl
  have key : ∀ N : Nat, N ≤ 12 → (N : Int) * (((N - 1) / 2 * (N - 1 - (N - 1) / 2) : Nat) : Int) ≤ 2 * (c3 N - leastV N) + 1 := by decide +kernel
  have := key N hN
  omega
theorem impl_LeastOneKind.ok (n : Int) : impl_LeastOneKind.f n = some (leastC n) := by
  unfold impl_LeastOneKind.f leastC
  rw [impl_areCrowd.ok, Option.bind_some]
  by_cases hc : crowd n = true
  · obtain ⟨N, rfl, hN⟩ := crowd_N hc
    rw [if_pos hc, if_pos hc, (leastV_some N hN).1, Int.toNat_natCast]
    rfl
  · rw [if_neg hc, if_neg hc]
theorem impl_listed.go : ∀ (m s : Nat) (acc : List Int), (bof s).length = m → s < 65536 → acc.length + m ≤ 1000 → Ev (fun k => impl_listed.l0 k (s : Int) acc) (acc ++ ints (bof s)) := by
  intro m
  induction m with
  | zero =>
    intro s acc hm hs _
    have e := bof_nil s hs (List.length_eq_zero_iff.1 hm)
    rw [List.length_eq_zero_iff.1 hm]
    subst e
    refine Ev.step (f := fun _ => some acc) (fun k => ?_) (by rw [show acc ++ ints [] = acc from by simp [ints]]; exact Ev.now _)
    rw [impl_listed.l0, if_neg (by simp)]
  | succ m ih =>
    intro s acc hm hs ha
    have h0 : s ≠ 0 := by rintro rfl; rw [bof_zero] at hm; simp at hm
    have es := bof_step s h0 hs
    rw [es] at hm ⊢
    have h1 := ih (s &&& (s - 1)) (acc ++ [((Go.Lib.ctz 16 s : Nat) : Int)]) (by simpa using hm) (Nat.lt_of_le_of_lt Nat.and_le_left hs) (by simp; omega)
    have ec : ctz16 (s : Int) = ((Go.Lib.ctz 16 s : Nat) : Int) := by simp [ctz16]
    refine Ev.step (fun k => ?_) (by rw [show acc ++ ints (Go.Lib.ctz 16 s :: bof (s &&& (s - 1))) = (acc ++ [((Go.Lib.ctz 16 s : Nat) : Int)]) ++ ints (bof (s &&& (s - 1))) from by simp [ints]]; exact h1)
    rw [impl_listed.l0, if_pos (by omega), bits_TrailingZeros16.f, if_pos (by omega), Option.bind_some, if_pos (by omega), low_bits s hs h0, ec]
theorem impl_listed.ok (s : Nat) (hs : s < 65536) : Ev (fun k => impl_listed.f k (s : Int)) (ints (bof s)) := by
  have h := impl_listed.go _ s [] rfl hs (by
    have : (bof s).length ≤ 16 := by unfold bof; exact Nat.le_trans (List.length_filter_le _ _) (by simp)
    simp; omega)
  rw [List.nil_append] at h
  exact h
theorem impl_listed.msk (p : Nat → Bool) (n : Nat) (h : n ≤ 16) : Ev (fun k => impl_listed.f k ((msk p n : Nat) : Int)) (ints ((List.range n).filter p)) := by
  have := impl_listed.ok (Base.msk p n) (msk_lt16 p n h)
  rwa [bof_msk p n h] at this
def wv (n : Nat) (F : Nat → Nat → Bool) (p : Nat) : Int := T3 n (fun a b c => bi (F a b) * bi (F a c) * bi (F b c) * ((if a = p then 1 else 0) + (if b = p then 1 else 0) + (if c = p then 1 else 0)))
theorem wv_len (n : Nat) (F : Nat → Nat → Bool) (p : Nat) : (((t0 F 0 n).filter (fun t => decide ((p : Int) ∈ t))).length : Int) = wv n F p := by
  unfold t0 t1 t2 wv
  rw [List.filter_flatMap, len_flat, Nat.sub_zero, up_zero, ← up_triples]
  refine sm_congr n (fun a _ => ?_)
  rw [List.filter_flatMap, len_flat]
  refine up_congr _ _ (fun b hb _ => ?_)
  rw [List.filter_map, List.length_map, List.filter_filter, len_filter]
  refine up_congr _ _ (fun c hc _ => ?_)
  rw [bi_and, bi_and, bi_and]
  have e : bi (((fun t => decide ((p : Int) ∈ t)) ∘ fun (z : Nat) => [(a : Int), (b : Int), (z : Int)]) c) = (if a = p then 1 else 0) + (if b = p then 1 else 0) + (if c = p then 1 else 0) := by
    simp only [Function.comp, List.mem_cons, List.not_mem_nil, or_false, bi, decide_eq_true_eq]
    by_cases h1 : a = p
    · rw [if_pos (by omega), if_pos h1, if_neg (by omega), if_neg (by omega)]; rfl
    · by_cases h2 : b = p
      · rw [if_pos (by omega), if_neg h1, if_pos h2, if_neg (by omega)]; rfl
      · by_cases h3 : c = p
        · rw [if_pos (by omega), if_neg h1, if_neg h2, if_pos h3]; rfl
        · rw [if_neg (by omega), if_neg h1, if_neg h2, if_neg h3]; rfl
  rw [e]
  grind
theorem wv_two (n : Nat) (F : Nat → Nat → Bool) (hs : ∀ a b, F a b = F b a) (hd : ∀ a, F a a = false) (p : Nat) (hp : p < n) : sm n (fun b => sm n (fun c => bi (F p b) * bi (F p c) * bi (F b c))) = 2 * wv n F p := by
  have h := atP (fun x y => bi (F x y)) (fun a b => by rw [hs]) (fun a => by rw [hd]; rfl) p n
  rw [if_pos hp, Int.mul_one] at h
  exact h
theorem sm_one (p : Nat → Int) (a : Nat) : ∀ n : Nat, sm n (fun i => if a = i then p i else 0) = if a < n then p a else 0
  | 0 => rfl
  | n + 1 => by
    simp only [sm]
    rw [sm_one p a n]
    by_cases e : a = n
    · subst e; rw [if_neg (Nat.lt_irrefl _), if_pos rfl, if_pos (Nat.lt_succ_self _)]; omega
    · rw [if_neg e]
      by_cases e2 : a < n
      · rw [if_pos e2, if_pos (by omega)]; omega
      · rw [if_neg e2, if_neg (by omega)]; omega
theorem T3_sm (m : Nat) (g : Nat → Nat → Nat → Nat → Int) : ∀ n, sm m (fun i => T3 n (fun a b c => g i a b c)) = T3 n (fun a b c => sm m (fun i => g i a b c)) := by
  intro n
  unfold T3 P2
  rw [sm_swap]
  refine sm_congr n (fun c _ => ?_)
  rw [sm_swap]
  refine sm_congr c (fun b _ => ?_)
  rw [sm_swap]
theorem wv_sum (n : Nat) (F : Nat → Nat → Bool) : sm n (wv n F) = 3 * cF n F := by
  unfold wv cF
  rw [T3_sm, ← T3_mul]
  refine T3_congr n (fun a b c hab hbc hc => ?_)
  rw [sm_mul, sm_add, sm_add, sm_one (fun _ => 1), sm_one (fun _ => 1), sm_one (fun _ => 1), if_pos (by omega), if_pos (by omega), if_pos hc]
  omega
theorem wv_le (n : Nat) (hn : n ≤ 12) (F : Nat → Nat → Bool) (p : Nat) : 0 ≤ wv n F p ∧ wv n F p ≤ 660 := by
  have h : wv n F p ≤ 3 * c3 n := by
    unfold wv c3
    rw [← T3_mul]
    refine T3_le n (fun a b c _ _ _ => ?_)
    rcases bi_two (F a b) with h | h <;> rcases bi_two (F a c) with h2 | h2 <;> rcases bi_two (F b c) with h3 | h3 <;> simp only [h, h2, h3] <;> (repeat' split) <;> omega
  have h2 := c3_val n hn
  rw [← wv_len]
  rw [← wv_len] at h
  omega
def atC (n : Int) (l : List S43) (a : Int) : Int × Bool := if goodB n l = true ∧ 0 ≤ a ∧ a < n then (wv n.toNat (adj l) a.toNat, true) else (0, false)
theorem band (p q : Nat → Bool) (n : Nat) (h : n ≤ 16) : Go.bits .and .u16 ((msk p n : Nat) : Int) ((msk q n : Nat) : Int) = ((msk (fun y => p y && q y) n : Nat) : Int) := by
  rw [u16_and_nat _ _ (msk_lt16 p n h) (msk_lt16 q n h)]
  congr 1
  apply Nat.eq_of_testBit_eq
  intro i
  rw [Nat.testBit_and, msk_testBit, msk_testBit, msk_testBit]
  cases decide (i < n) <;> simp
def sl (f : Nat → List Nat → Int) : List Nat → Int
  | [] => 0
  | x :: c => f x c + sl f c
def cn (F : Nat → Nat → Bool) : Nat → List Nat → Int
  | 0, _ => 0
  | d + 1, c => (if d = 0 then 1 else 0) + sl (fun x c => cn F d (c.filter (F x))) c
theorem sl_nonneg (f : Nat → List Nat → Int) (h : ∀ x c, 0 ≤ f x c) : ∀ c, 0 ≤ sl f c
  | [] => Int.le_refl _
  | x :: c => by have := sl_nonneg f h c; have := h x c; simp only [sl]; omega
theorem sl_zero : ∀ c, sl (fun _ _ => 0) c = 0
  | [] => rfl
  | x :: c => by simp only [sl]; rw [sl_zero c]; rfl
theorem cn_nonneg (F : Nat → Nat → Bool) : ∀ d c, 0 ≤ cn F d c
  | 0, _ => Int.le_refl _
  | d + 1, c => by
    have := sl_nonneg (fun x c => cn F d (c.filter (F x))) (fun x c => cn_nonneg F d _) c
    simp only [cn]
    split <;> omega
theorem cn_open (F : Nat → Nat → Bool) (m : Nat) (c : List Nat) : cn F (4 - m) c = (if m = 3 then 1 else 0) + sl (fun x c => cn F (4 - (m + 1)) (c.filter (F x))) c := by
  by_cases h : m < 4
  · rw [show 4 - m = (3 - m) + 1 by omega, show 4 - (m + 1) = 3 - m by omega]
    show (if 3 - m = 0 then 1 else 0) + _ = _
    congr 1
    by_cases e : m = 3
    · rw [if_pos e, if_pos (by omega)]
    · rw [if_neg e, if_neg (by omega)]
  · rw [show 4 - m = 0 by omega, show 4 - (m + 1) = 0 by omega, if_neg (by omega)]
    show 0 = 0 + sl (fun _ _ => 0) c
    rw [sl_zero]
    rfl
theorem sl_filter (f : Nat → List Nat → Int) (p : Nat → Bool) : ∀ c, sl f (c.filter p) = sl (fun x c => bi (p x) * f x (c.filter p)) c
  | [] => rfl
  | x :: c => by
    rw [List.filter_cons]
    simp only [sl]
    rw [← sl_filter f p c]
    cases hp : p x with
    | true => rw [if_pos rfl]; simp [sl, bi]
    | false => rw [if_neg (by decide)]; simp [bi]
theorem sl_range (f : Nat → List Nat → Int) : ∀ d a, sl f (List.range' a d) = up a d (fun i => f i (List.range' (i + 1) (a + d - (i + 1))))
  | 0, a => rfl
  | d + 1, a => by
    rw [List.range'_succ, up_first]
    simp only [sl]
    rw [sl_range f d (a + 1), show a + (d + 1) - (a + 1) = d by omega]
    congr 1
    exact up_congr _ _ (fun i _ _ => by rw [show a + 1 + d - (i + 1) = a + (d + 1) - (i + 1) by omega])
theorem up_mul (c : Int) (f : Nat → Int) (a : Nat) : ∀ d, up a d (fun i => c * f i) = c * up a d f
  | 0 => by simp [up]
  | d + 1 => by simp only [up]; rw [up_mul c f a d, Int.mul_add]
theorem sl_congr {f g : Nat → List Nat → Int} : ∀ c, (∀ x c, f x c = g x c) → sl f c = sl g c
  | [], _ => rfl
  | x :: c, h => by simp only [sl]; rw [h, sl_congr c h]
theorem cn_all (n : Nat) (F : Nat → Nat → Bool) : cn F 4 (List.range n) = cF n F := by
  have e1 : ∀ c, cn F 1 c = 1 := fun c => by
    show 1 + sl (fun _ _ => 0) c = 1
    rw [sl_zero]; rfl
  have e2 : ∀ c, cn F 2 c = sl (fun _ _ => 1) c := fun c => by
    show 0 + sl _ c = _
    rw [Int.zero_add]
    exact sl_congr c (fun x c => e1 _)
  have e3 : ∀ c, cn F 3 c = sl (fun b c => sl (fun z _ => bi (F b z) * 1) c) c := fun c => by
    show 0 + sl _ c = _
    rw [Int.zero_add]
    exact sl_congr c (fun x c => by rw [e2, sl_filter])
  have e4 : ∀ c, cn F 4 c = sl (fun a c => sl (fun b c => bi (F a b) * sl (fun z _ => bi (F a z) * (bi (F b z) * 1)) c) c) c := fun c => by
    show 0 + sl _ c = _
    rw [Int.zero_add]
    exact sl_congr c (fun x c => by
      rw [e3, sl_filter]
      exact sl_congr c (fun y c => by rw [sl_filter]))
  rw [e4, List.range_eq_range', sl_range, up_zero]
  unfold cF
  rw [← up_triples]
  refine sm_congr n (fun a ha => ?_)
  rw [Nat.zero_add, sl_range]
  rw [show a + 1 + (n - (a + 1)) = n by omega]
  refine up_congr _ _ (fun b h1 h2 => ?_)
  rw [sl_range, ← up_mul]
  exact up_congr _ _ (fun z _ _ => by rw [Int.mul_one, Int.mul_assoc])
theorem behind (p : Nat → Bool) (n a : Nat) (pre rest : List Nat) (h : (List.range n).filter p = pre ++ a :: rest) : (List.range n).filter (fun y => decide (a < y) && p y) = rest := by
  have hs : ((List.range n).filter p).Pairwise (· < ·) := List.Pairwise.filter _ List.pairwise_lt_range
  rw [← List.filter_filter, h]
  rw [h, List.pairwise_append] at hs
  obtain ⟨_, h2, h3⟩ := hs
  rw [List.pairwise_cons] at h2
  rw [List.filter_append, List.filter_cons_of_neg (by simp), List.filter_eq_nil_iff.2 (fun y hy => by have := h3 y hy a List.mem_cons_self; simp; omega), List.nil_append, List.filter_eq_self]
  intro y hy
  have := h2.1 y hy
  simpa using this
theorem bleft (p q : Nat → Bool) (n a : Nat) (h : n ≤ 16) (ha : a < n) : Go.bits .andNot .u16 (Go.bits .and .u16 ((msk p n : Nat) : Int) ((msk q n : Nat) : Int)) (IntKind.u16.wrap (shl .u16 1 (a : Int) - 1)) = ((msk (fun y => (p y && q y) && decide (a ≤ y)) n : Nat) : Int) := by
  have hA := pow_lt16 a (by omega)
  have hpos := Nat.two_pow_pos a
  have e1 : IntKind.u16.wrap (((2 ^ a : Nat) : Int) - 1) = ((2 ^ a - 1 : Nat) : Int) := by rw [IntKind.wrap_u16]; omega
  rw [band p q n h, shl_one a (by omega), e1, u16_andNot_nat _ _ (msk_lt16 _ n h) (by omega)]
  congr 1
  apply Nat.eq_of_testBit_eq
  intro i
  have := Nat.testBit_two_pow_sub_succ (n := 16) (x := 2 ^ a - 1) (by omega) i
  rw [Nat.testBit_and, show 65535 - (2 ^ a - 1) = 2 ^ 16 - ((2 ^ a - 1) + 1) from by omega, this, msk_testBit, msk_testBit, Nat.testBit_two_pow_sub_one]
  by_cases hi : i < n
  · have h16 : i < 16 := by omega
    by_cases e : i < a
    · have : ¬ a ≤ i := by omega
      simp [e, this]
    · have : a ≤ i := by omega
      simp [hi, h16, e, this]
  · simp [hi]
theorem ball (n : Nat) (hn : n ≤ 12) : IntKind.u16.wrap (shl .u16 1 (n : Int) - 1) = ((msk (fun _ => true) n : Nat) : Int) := by
  have hA := pow_lt16 n (by omega)
  have hpos := Nat.two_pow_pos n
  have e1 : IntKind.u16.wrap (((2 ^ n : Nat) : Int) - 1) = ((2 ^ n - 1 : Nat) : Int) := by rw [IntKind.wrap_u16]; omega
  rw [shl_one n (by omega), e1]
  congr 1
  apply Nat.eq_of_testBit_eq
  intro i
  rw [Nat.testBit_two_pow_sub_one, msk_testBit, Bool.and_true]
theorem impl_CountGroups_1.gs.ok (n : Nat) (hn : n ≤ 12) (F : Nat → Nat → Bool) (hI : ∀ a, F a a = false) : ∀ (m : Nat) (p : Nat → Bool) (bs : List Nat) (xs : Int), ((List.range n).filter p).length = m → bs.length + m ≤ 1000 → (∀ b ∈ bs, b < n) → 0 ≤ xs → xs + cn F (4 - bs.length) ((List.range n).filter p) ≤ 1000000 →
    Ev (fun k => impl_CountGroups_1.gs.f 3 k (tabI n F) (ints bs) ((msk p n : Nat) : Int) xs) (xs + cn F (4 - bs.length) ((List.range n).filter p)) := by
  intro m
  induction m using Nat.strongRecOn with
  | ind m ih =>
    intro p bs xs hm hbl hb hx0 hx
    have h2 := impl_listed.msk p n (by omega)
    have hmem : ∀ a ∈ (List.range n).filter p, a < n := fun a ha => List.mem_range.1 (List.mem_filter.1 ha).1
    have hbeh := behind p n
    rw [cn_open] at hx ⊢
    have h1 : impl_CountGroups_1.f 3 (ints bs) xs = some (xs + if bs.length = 3 then 1 else 0) := by
      unfold impl_CountGroups_1.f
      have hnn := sl_nonneg (fun x c => cn F (4 - (bs.length + 1)) (c.filter (F x))) (fun x c => cn_nonneg F _ _) ((List.range n).filter p)
      rw [ints_length]
      by_cases e : bs.length = 3
      · rw [if_pos e] at hx ⊢
        rw [if_pos (by rw [e]; rfl), wrap_id (by omega) (by omega)]
      · rw [if_neg e] at hx ⊢
        rw [if_neg (by simp only [beq_iff_eq]; omega), wrap_id (by omega) (by omega)]
    generalize hL : (List.range n).filter p = L at h2 hm hmem hbeh hx ⊢
    have loop := up_loop (P := fun i => ∀ acc : Int, 0 ≤ acc → acc + sl (fun x c => cn F (4 - (bs.length + 1)) (c.filter (F x))) (L.drop i) ≤ 1000000 → Ev (fun k => impl_CountGroups_1.gs.l0 3 k (tabI n F) (ints bs) ((msk p n : Nat) : Int) (ints L) (i : Int) acc) (acc + sl (fun x c => cn F (4 - (bs.length + 1)) (c.filter (F x))) (L.drop i))) (n := L.length) (by
        intro acc _ _
        rw [List.drop_length, show sl (fun x c => cn F (4 - (bs.length + 1)) (c.filter (F x))) [] = 0 from rfl, Int.add_zero]
        refine Ev.step (f := fun _ => some acc) (fun k => ?_) (Ev.now _)
        rw [impl_CountGroups_1.gs.l0, if_neg (by rw [ints_length]; omega)]) (by
        intro i hi h acc hacc hle
        have ha := hmem L[i] (List.getElem_mem hi)
        have hd : L = L.take i ++ L[i] :: L.drop (i + 1) := by rw [← List.drop_eq_getElem_cons hi, List.take_append_drop]
        have hr := hbeh L[i] (L.take i) (L.drop (i + 1)) hd
        rw [List.drop_eq_getElem_cons hi] at hle ⊢
        simp only [sl] at hle ⊢
        generalize hae : L[i] = a at ha hr hle ⊢
        have e : (List.range n).filter (fun y => (p y && F a y) && decide (a ≤ y)) = (L.drop (i + 1)).filter (F a) := by
          rw [← hr, List.filter_filter]
          apply List.filter_congr
          intro y _
          by_cases ey : y = a
          · subst ey; rw [hI]; simp
          · by_cases hy : a < y
            · have : a ≤ y := by omega
              simp [hy, this, Bool.and_comm]
            · have : ¬ a ≤ y := by omega
              simp [hy, this]
        have hfl := List.length_filter_le (F a) (L.drop (i + 1))
        have hdl : (L.drop (i + 1)).length = L.length - (i + 1) := List.length_drop
        have hn1 := cn_nonneg F (4 - (bs.length + 1)) ((L.drop (i + 1)).filter (F a))
        have hn2 := sl_nonneg (fun x c => cn F (4 - (bs.length + 1)) (c.filter (F x))) (fun x c => cn_nonneg F _ _) (L.drop (i + 1))
        have a1 := ih ((L.drop (i + 1)).filter (F a)).length (by omega) (fun y => (p y && F a y) && decide (a ≤ y)) (bs ++ [a]) acc (by rw [e]) (by simp only [List.length_append, List.length_singleton]; omega) (by
            intro b hbm
            rcases List.mem_append.1 hbm with h | h
            · exact hb b h
            · obtain rfl := List.mem_singleton.1 h
              exact ha) hacc (by rw [e, List.length_append, List.length_singleton]; omega)
        rw [e, List.length_append, List.length_singleton] at a1
        have o1 := h (acc + cn F (4 - (bs.length + 1)) ((L.drop (i + 1)).filter (F a))) (by omega) (by omega)
        have e2 : ints bs ++ [(a : Int)] = ints (bs ++ [a]) := by simp [ints]
        rw [Int.add_assoc] at o1
        refine Ev.step (fun k => ?_) (Ev.bind a1 (f := fun k ys => impl_CountGroups_1.gs.l0 3 k (tabI n F) (ints bs) ((msk p n : Nat) : Int) (ints L) ((i + 1 : Nat) : Int) ys) o1)
        rw [impl_CountGroups_1.gs.l0, if_pos (by rw [ints_length]; omega), if_pos (by omega), rd_ints L i hi, hae, if_pos (by omega), if_pos (by rw [tabI_length]; omega), show slices_Clone_int_int.f (ints bs) = some (ints bs) from by (unfold slices_Clone_int_int.f; rw [if_pos (by rw [ints_length]; omega)]), Option.bind_some, if_pos (by rw [ints_length]; omega), e2, tabI_rd n F a ha, bleft p (F a) n a (by omega) ha, nat_succ i (by omega)])
    have h3 := loop 0 (Nat.zero_le _) (xs + if bs.length = 3 then 1 else 0) (by split <;> omega) (by rw [List.drop_zero]; omega)
    rw [List.drop_zero, Int.add_assoc] at h3
    refine Ev.step (fun k => ?_) (Ev.bind' h1 (f := fun k ys => (impl_listed.f k ((msk p n : Nat) : Int)).bind fun q => impl_CountGroups_1.gs.l0 3 k (tabI n F) (ints bs) ((msk p n : Nat) : Int) q 0 ys) (Ev.bind h2 h3))
    rw [impl_CountGroups_1.gs.f]
theorem impl_CountGroups.three (n : Int) (l : List S43) (hl : l.length ≤ 1048576) (hg : goodB n l = true) : Ev (fun k => impl_CountGroups.f k n l 3) (cF n.toNat (adj l), true) := by
  unfold impl_CountGroups.f
  refine Ev.bind (ev_of (l.length + 5) fun k hk => impl_IsParty.ok n l hl k (by omega)) ?_
  obtain ⟨N, rfl, hN, hp, _⟩ := good_N hg
  rw [Int.toNat_natCast]
  refine Ev.ite_pos hg ?_
  simp only [impl_areCrowd.ok, Option.bind_some]
  refine Ev.ite_pos (by decide) (Ev.bind (impl_Party_table.ok N hN l hl hp) ?_)
  have ef : (List.range N).filter (fun _ => true) = List.range N := List.filter_eq_self.2 (fun _ _ => rfl)
  have hc := cn_all N (adj l)
  have h1 := cF_le N (adj l)
  have h2 := c3_val N hN
  have h3 : cM N (adj l) = c3 N - cF N (adj l) - cS N (adj l) := rfl
  have h := impl_CountGroups_1.gs.ok N hN (adj l) (adj_irr hg) N (fun _ => true) [] 0 (by rw [ef, List.length_range]) (by simp only [List.length_nil]; omega) (by simp) (by omega) (by rw [ef]; show 0 + cn _ 4 _ ≤ _; omega)
  rw [ef] at h
  have h4 : Ev (fun k => impl_CountGroups_1.ga.f 3 k (tabI N (adj l))) (cF N (adj l)) := by
    unfold impl_CountGroups_1.ga.f
    rw [tabI_length, ball N hN]
    have e : (0 : Int) + cn (adj l) (4 - ([] : List Nat).length) (List.range N) = cF N (adj l) := by
      show 0 + cn _ 4 _ = _
      omega
    rw [e] at h
    exact h
  exact Ev.bind h4 (Ev.now _)
theorem impl_arePeople.ok (n : Int) (l : List S43) (hl : l.length ≤ 1048576) (xs : List Int) : Ev (fun k => impl_arePeople.f k n l xs) (goodB n l && xs.all (inB 0 (n - 1))) := by
  unfold impl_arePeople.f
  refine Ev.bind (ev_of (l.length + 5) fun k hk => impl_IsParty.ok n l hl k (by omega)) ?_
  by_cases hg : goodB n l = true
  · have h := goodB_people hg
    rw [hg, wrap_id (x := n - 1) (by omega) (by omega)]
    exact Ev.ite_pos rfl (Ev.now _)
  · simp only [Bool.not_eq_true] at hg
    rw [hg]
    exact Ev.ite_neg (by decide) (Ev.now _)
theorem sum_filter (p : Nat → Bool) (f : Nat → Int) (n : Nat) : (((List.range n).filter p).map f).sum = sm n (fun b => bi (p b) * f b) := by
  induction n with
  | zero => rfl
  | succ n ih =>
    rw [List.range_succ, List.filter_append, List.map_append, List.sum_append, ih]
    simp only [sm]
    cases hp : p n <;> simp [hp, bi]
theorem impl_ThreesAt.ok (n : Int) (l : List S43) (hl : l.length ≤ 1048576) (a : Int) : Ev (fun k => impl_ThreesAt.f k n l a) (atC n l a) := by
  unfold impl_ThreesAt.f atC
  refine Ev.bind (impl_arePeople.ok n l hl [a]) ?_
  by_cases hg : goodB n l = true
  · obtain ⟨N, rfl, hN, hp, _⟩ := good_N hg
    by_cases ha : 0 ≤ a ∧ a < (N : Int)
    · rw [if_pos ⟨hg, ha⟩, Int.toNat_natCast]
      refine Ev.ite_pos (by simp [hg, inB]; omega) (Ev.bind (impl_Party_table.ok N hN l hl hp) ?_)
      obtain ⟨A, rfl⟩ := Int.eq_ofNat_of_zero_le ha.1
      have hA : A < N := by omega
      have hw := wv_two N (adj l) (adj_symm l) (adj_irr hg) A hA
      have hb := wv_le N hN (adj l) A
      rw [Int.toNat_natCast]
      generalize adj l = F at hw hb ⊢
      have hl0 := impl_listed.msk (F A) N (by omega)
      have hsum := sum_filter (F A) (fun b => sm N (fun c => bi (F A c) * bi (F b c))) N
      have e : sm N (fun b => bi (F A b) * sm N (fun c => bi (F A c) * bi (F b c))) = 2 * wv N F A := by
        rw [← hw]
        refine sm_congr N (fun b _ => ?_)
        rw [← sm_mul]
        exact sm_congr N (fun c _ => by rw [Int.mul_assoc])
      rw [e] at hsum
      have hmem : ∀ b ∈ (List.range N).filter (F A), b < N := fun b hb => List.mem_range.1 (List.mem_filter.1 hb).1
      have hlen : ((List.range N).filter (F A)).length ≤ N := by have := List.length_filter_le (F A) (List.range N); simpa using this
      simp only [tabI_length, tabI_rd N F A hA]
      refine Ev.ite_pos (by omega) (Ev.ite_pos (by omega) (Ev.bind hl0 ?_))
      generalize (List.range N).filter (F A) = L at hsum hmem hlen ⊢
      have hf : ∀ b, 0 ≤ sm N (fun c => bi (F A c) * bi (F b c)) := fun b => sm_nonneg N (fun c _ => by rcases bi_two (F A c) with h | h <;> rcases bi_two (F b c) with h2 | h2 <;> simp [h, h2])
      have hnn : ∀ M : List Nat, 0 ≤ (M.map (fun b => sm N (fun c => bi (F A c) * bi (F b c)))).sum := by
        intro M
        induction M with
        | nil => simp
        | cons x M ih => have := hf x; rw [List.map_cons, List.sum_cons]; omega
      have hsplit : ∀ i, ((L.take i).map (fun b => sm N (fun c => bi (F A c) * bi (F b c)))).sum ≤ 2 * wv N F A := by
        intro i
        have h1 := hnn (L.drop i)
        rw [← hsum]
        conv => rhs; rw [← List.take_append_drop i L]
        rw [List.map_append, List.sum_append]
        omega
      rw [ints_length]
      have loop := up_loop (P := fun i => Ev (fun k => impl_ThreesAt.l0 k (A : Int) (tabI N F) ((L.take i).map (fun b => sm N (fun c => bi (F A c) * bi (F b c)))).sum (ints L) (L.length : Int) (i : Int)) (wv N F A, true)) (n := L.length) (by
          rw [List.take_length, hsum]
          refine Ev_succ ?_
          simp only [impl_ThreesAt.l0]
          rw [Int.mul_comm, Int.mul_tdiv_cancel _ (by decide), wrap_id (x := wv N F A) (by omega) (by omega)]
          exact Ev.ite_neg (by omega) (Ev.now _)) (by
          intro i hi h
          have hb2 := hmem L[i] (List.getElem_mem hi)
          have h1 := hsplit (i + 1)
          have h2 := hnn (L.take i)
          have h3 := hf L[i]
          have e2 : ((L.take (i + 1)).map (fun b => sm N (fun c => bi (F A c) * bi (F b c)))).sum = ((L.take i).map (fun b => sm N (fun c => bi (F A c) * bi (F b c)))).sum + sm N (fun c => bi (F A c) * bi (F L[i] c)) := by
            rw [List.take_succ_eq_append_getElem hi, List.map_append, List.sum_append]
            simp
          rw [e2] at h1 h
          have hm : msk (fun y => F A y && F L[i] y) N < 65536 := msk_lt16 _ N (by omega)
          have hc : (((bof (msk (fun y => F A y && F L[i] y) N)).length : Nat) : Int) = sm N (fun c => bi (F A c) * bi (F L[i] c)) := by
            rw [bof_msk _ _ (by omega), List.range_eq_range', len_filter, up_zero]
            exact sm_congr N (fun c _ => bi_and _ _)
          refine Ev_succ ?_
          simp only [impl_ThreesAt.l0, ints_length, rd_ints L i hi, tabI_length, tabI_rd N F A hA, tabI_rd N F L[i] hb2, band _ _ N (show N ≤ 16 by omega), nat_succ i (by omega)]
          rw [bits_OnesCount16.f, if_pos (by omega), Int.toNat_natCast, popN_bof]
          refine Ev.ite_pos (by omega) (Ev.ite_pos (by omega) (Ev.ite_pos (by omega) (Ev.ite_pos (by omega) (Ev.ite_pos (by omega) (Ev.ite_pos (by omega) (Ev.ite_pos (by omega) (Ev.bind (Ev.now _) ?_)))))))
          rw [hc, wrap_id (by omega) (by omega)]
          exact h)
      have := loop 0 (Nat.zero_le _)
      rw [List.take_zero] at this
      exact this
    · rw [if_neg (fun h => ha h.2)]
      exact Ev.ite_neg (by simp [hg, inB]; omega) (Ev.now _)
  · rw [if_neg (fun h => hg h.1)]
    exact Ev.ite_neg (by simp [hg]) (Ev.now _)
theorem w64 : wrap64 0 = 0 ∧ wrap64 1 = 1 ∧ wrap64 2 = 2 ∧ wrap64 3 = 3 := by decide +kernel
def lexP (s t : List Int) : Prop := rd s 0 < rd t 0 ∨ rd s 0 = rd t 0 ∧ (rd s 1 < rd t 1 ∨ rd s 1 = rd t 1 ∧ rd s 2 < rd t 2)
theorem t0_lex (F : Nat → Nat → Bool) (n : Nat) : (t0 F 0 n).Pairwise lexP := by
  have hr : ∀ a d, (List.range' a d).Pairwise (· < ·) := fun a d => List.pairwise_lt_range'
  unfold t0
  rw [List.pairwise_flatMap]
  constructor
  · intro a _
    unfold t1
    rw [List.pairwise_flatMap]
    constructor
    · intro b _
      unfold t2
      rw [List.pairwise_map]
      refine List.Pairwise.imp ?_ (List.Pairwise.filter _ (hr _ _))
      intro x y h
      exact .inr ⟨rfl, .inr ⟨rfl, Int.ofNat_lt.2 h⟩⟩
    · refine List.Pairwise.imp ?_ (hr _ _)
      intro x y h s hs t ht
      simp only [t2, List.mem_map] at hs ht
      obtain ⟨_, _, rfl⟩ := hs
      obtain ⟨_, _, rfl⟩ := ht
      exact .inr ⟨rfl, .inl (Int.ofNat_lt.2 h)⟩
  · refine List.Pairwise.imp ?_ (hr _ _)
    intro x y h s hs t ht
    simp only [t1, t2, List.mem_flatMap, List.mem_map] at hs ht
    obtain ⟨_, _, _, _, rfl⟩ := hs
    obtain ⟨_, _, _, _, rfl⟩ := ht
    exact .inl (Int.ofNat_lt.2 h)
theorem t0_mem (F : Nat → Nat → Bool) (n : Nat) (t : List Int) (h : t ∈ t0 F 0 n) : ∃ a b c : Nat, t = [(a : Int), (b : Int), (c : Int)] ∧ a < b ∧ b < c ∧ c < n ∧ F a b = true ∧ F a c = true ∧ F b c = true := by
  simp only [t0, t1, t2, List.mem_flatMap, List.mem_map, List.mem_filter, List.mem_range'_1, Bool.and_eq_true] at h
  obtain ⟨a, ha, b, hb, c, ⟨hc, h1, h2, h3⟩, rfl⟩ := h
  exact ⟨a, b, c, rfl, by omega, by omega, by omega, h1, h2, h3⟩
theorem impl_isRising.three (a b c : Int) (h1 : a < b) (h2 : b < c) : Ev (fun k => impl_isRising.f k [a, b, c]) true := by
  refine Ev.of (fun k => impl_isRising.mono _ k) (k := 5) ?_
  have r : ∀ p q s : Int, rd [p, q, s] 0 = p ∧ rd [p, q, s] 1 = q ∧ rd [p, q, s] 2 = s := fun p q s => ⟨rfl, rfl, rfl⟩
  have e1 : ¬ b ≤ a := by omega
  have e2 : ¬ c ≤ b := by omega
  simp only [impl_isRising.f, impl_isRising.l0, List.length_cons, List.length_nil, w64, (r _ _ _).1, (r _ _ _).2.1, (r _ _ _).2.2]
  simp [e1, e2, w64, r]
theorem impl_table_isGroup.three (n : Nat) (hn : n ≤ 12) (F : Nat → Nat → Bool) (hF : ∀ a b, F a b = F b a) (a b c : Nat) (h1 : a < b) (h2 : b < c) (h3 : c < n) (f1 : F a b = true) (f2 : F a c = true) (f3 : F b c = true) : Ev (fun k => impl_table_isGroup.f k (tabI n F) [(a : Int), (b : Int), (c : Int)]) true := by
  refine Ev.of (fun k => impl_table_isGroup.mono _ _ k) (k := 15) ?_
  have r : ∀ p q s : Int, rd [p, q, s] 0 = p ∧ rd [p, q, s] 1 = q ∧ rd [p, q, s] 2 = s := fun p q s => ⟨rfl, rfl, rfl⟩
  have r2 : ∀ p q : Int, rd [p, q] 0 = p ∧ rd [p, q] 1 = q := fun p q => ⟨rfl, rfl⟩
  have r1 : ∀ p : Int, rd [p] 0 = p := fun p => rfl
  have k1 := impl_table_has.ok n hn F b a (by omega) (by omega)
  have k2 := impl_table_has.ok n hn F c a (by omega) (by omega)
  have k3 := impl_table_has.ok n hn F c b (by omega) (by omega)
  rw [hF, f1] at k1
  rw [hF, f2] at k2
  rw [hF, f3] at k3
  simp [impl_table_isGroup.f, impl_table_isGroup.l0, impl_table_isGroup.l1, r, r2, r1, w64, k1, k2, k3]
theorem impl_IsGroup.three (N : Nat) (l : List S43) (hl : l.length ≤ 1048576) (hg : goodB (N : Int) l = true) (t : List Int) (ht : t ∈ t0 (adj l) 0 N) : Ev (fun k => impl_IsGroup.f k (N : Int) l t) (true, true) := by
  obtain ⟨a, b, c, rfl, h1, h2, h3, f1, f2, f3⟩ := t0_mem _ _ _ ht
  have hN : N ≤ 12 := by have := goodB_people hg; omega
  have hp : pin N l := by have := goodB_pin hg; rwa [Int.toNat_natCast] at this
  unfold impl_IsGroup.f
  refine Ev.bind (ev_of (l.length + 5) fun k hk => impl_IsParty.ok N l hl k (by omega)) (Ev.ite_pos hg (Ev.bind (impl_arePeople.ok N l hl _) (Ev.ite_pos (by simp [hg, inB]; omega) (Ev.bind (impl_isRising.three _ _ _ (by omega) (by omega)) (Ev.ite_pos rfl (Ev.bind (impl_Party_table.ok N hN l hl hp) (Ev.bind (impl_table_isGroup.three N hN _ (adj_symm l) a b c h1 h2 h3 f1 f2 f3) (Ev.now _))))))))
theorem laws_vLess.three (a b c x y z : Int) (h : lexP [a, b, c] [x, y, z]) : Ev (fun k => laws_vLess.f k [a, b, c] [x, y, z]) true := by
  refine Ev.of (fun k => laws_vLess.mono _ _ k) (k := 5) ?_
  have h' : a < x ∨ a = x ∧ (b < y ∨ b = y ∧ c < z) := h
  have r : ∀ p q s : Int, rd [p, q, s] 0 = p ∧ rd [p, q, s] 1 = q ∧ rd [p, q, s] 2 = s := fun p q s => ⟨rfl, rfl, rfl⟩
  simp only [laws_vLess.f, laws_vLess.l0, List.length_cons, List.length_nil, w64, (r _ _ _).1, (r _ _ _).2.1, (r _ _ _).2.2]
  rcases h' with h' | ⟨rfl, h' | ⟨rfl, h'⟩⟩
  · have : ¬ a = x := by omega
    simp [this, h', w64, r]
  · have : ¬ b = y := by omega
    simp [this, h', w64, r]
  · have : ¬ c = z := by omega
    simp [this, h', w64, r]
theorem impl_table_party.ok (n : Nat) (hn : n ≤ 12) (F : Nat → Nat → Bool) : Ev (fun k => impl_table_party.f k (tabI n F)) ((n : Int), outr n F 0) := by
  have key := up_loop (P := fun a => ∀ acc : List S43, acc.length ≤ 12 * a → Ev (fun k => impl_table_party.l0 k (tabI n F) (n : Int) (a : Int) (n : Int) acc) ((n : Int), acc ++ outr n F a)) (n := n) (by
      intro acc _
      refine Ev.step (f := fun _ => some ((n : Int), acc)) (fun k => ?_) (by simpa [outr] using Ev.now ((n : Int), acc))
      simp only [impl_table_party.l0]
      rw [if_neg (by omega)]) (by
      intro a ha h acc hacc
      have inner := up_loop (P := fun i => a < i → ∀ acc : List S43, acc.length ≤ 12 * a + i → Ev (fun k => impl_table_party.l1 k (tabI n F) (a : Int) (i : Int) (n : Int) (a : Int) (n : Int) acc) ((n : Int), acc ++ (inn n F a i ++ outr n F (a + 1)))) (n := n) (by
          intro _ acc hacc
          have h9 := h acc (by omega)
          have e9 : inn n F a n = [] := by simp [inn]
          rw [e9, List.nil_append]
          refine Ev.step (fun k => ?_) h9
          simp only [impl_table_party.l1]
          rw [if_neg (by rw [tabI_length]; omega), nat_succ a (by omega)]) (by
          intro i hi h hai acc hacc
          have e0 : inn n F a i = (if F a i = true then [(⟨(a : Int), (i : Int)⟩ : S43)] else []) ++ inn n F a (i + 1) := by
            unfold inn
            rw [range'_cons i n hi]
            cases hF : F a i with
            | true => rw [List.filter_cons_of_pos hF]; simp
            | false => rw [List.filter_cons_of_neg (by simp [hF])]; simp
          rw [e0]
          have hh := impl_table_has.ok n hn F a i ha hi
          cases hF : F a i with
          | true =>
            have h2 := h (by omega) (acc ++ [(⟨(a : Int), (i : Int)⟩ : S43)]) (by simp; omega)
            rw [hF] at hh
            refine Ev.step (fun k => ?_) (by simpa using h2)
            simp only [impl_table_party.l1]
            rw [if_pos (by rw [tabI_length]; omega), hh, Option.bind_some, if_pos rfl, if_pos (by omega), nat_succ i (by omega)]
            rfl
          | false =>
            have h2 := h (by omega) acc (by omega)
            rw [hF] at hh
            refine Ev.step (fun k => ?_) (by simpa using h2)
            simp only [impl_table_party.l1]
            rw [if_pos (by rw [tabI_length]; omega), hh, Option.bind_some, if_neg (by simp), nat_succ i (by omega)]
            rfl)
      have h3 := inner (a + 1) (by omega) (by omega) acc (by omega)
      have e1 : outr n F a = inn n F a (a + 1) ++ outr n F (a + 1) := by
        unfold outr
        rw [range'_cons a n ha, List.flatMap_cons]
      rw [e1]
      refine Ev.step (fun k => ?_) h3
      simp only [impl_table_party.l0]
      rw [if_pos (by omega), nat_succ a (by omega)])
  have h0 := key 0 (Nat.zero_le _) [] (by simp)
  rw [List.nil_append] at h0
  unfold impl_table_party.f
  rw [tabI_length]
  exact h0
theorem outr_lex (n : Nat) (F : Nat → Nat → Bool) : (outr n F 0).Pairwise (fun x y => x.f0 < y.f0 ∨ x.f0 = y.f0 ∧ x.f1 < y.f1) := by
  have hr : ∀ a d, (List.range' a d).Pairwise (· < ·) := fun a d => List.pairwise_lt_range'
  unfold outr
  rw [List.pairwise_flatMap]
  constructor
  · intro a _
    unfold inn
    rw [List.pairwise_map]
    refine List.Pairwise.imp ?_ (List.Pairwise.filter _ (hr _ _))
    intro x y h
    exact .inr ⟨rfl, Int.ofNat_lt.2 h⟩
  · refine List.Pairwise.imp ?_ (hr _ _)
    intro x y h s hs t ht
    simp only [inn, List.mem_map] at hs ht
    obtain ⟨_, _, rfl⟩ := hs
    obtain ⟨_, _, rfl⟩ := ht
    exact .inl (Int.ofNat_lt.2 h)
theorem outr_good (n : Nat) (hn : n ≤ 12) (F : Nat → Nat → Bool) : goodB (n : Int) (outr n F 0) = true := by
  unfold goodB
  rw [Bool.and_eq_true, List.all_eq_true]
  refine ⟨by unfold crowd; simp; omega, fun i hi => ?_⟩
  have hi := List.mem_range.1 hi
  rw [stepB_eq _ _ i hi, Bool.and_eq_true]
  constructor
  · obtain ⟨a, b, e, h1, h2, _⟩ := (outr_mem n F _).1 (List.getElem_mem hi)
    rw [e]
    simp only [decide_eq_true_eq]
    omega
  · by_cases h0 : i = 0
    · subst h0; rfl
    · have := List.pairwise_iff_getElem.1 (outr_lex n F) (i - 1) i (by omega) hi (by omega)
      unfold lessB
      rw [decide_eq_true this, Bool.or_true]
theorem impl_OtherParty.good (N : Nat) (l : List S43) (hl : l.length ≤ 1048576) (hg : goodB (N : Int) l = true) : Ev (fun k => impl_OtherParty.f k (N : Int) l) ((N : Int), outr N (oth (adj l)) 0, true) := by
  have hN : N ≤ 12 := by have := goodB_people hg; omega
  have hp : pin N l := by have := goodB_pin hg; rwa [Int.toNat_natCast] at this
  unfold impl_OtherParty.f
  exact Ev.bind (ev_of (l.length + 5) fun k hk => impl_IsParty.ok N l hl k (by omega)) (Ev.ite_pos hg (Ev.bind (impl_Party_table.ok N hN l hl hp) (Ev.bind (impl_table_others.ok N hN _) (Ev.bind (impl_table_party.ok N hN _) (Ev.now _)))))
theorem threeC_other (N : Nat) (hN : N ≤ 12) (F : Nat → Nat → Bool) : threeC (N : Int) (outr N (oth F) 0) = (cS N F, cF N F, cM N F, true) := by
  unfold threeC
  rw [if_pos (outr_good N hN _), Int.toNat_natCast]
  have e : ∀ x y, x < y → y < N → bi (adj (outr N (oth F) 0) x y) = 1 - bi (F x y) := fun x y h hy => by
    rw [outr_adj N _ x y h hy]
    unfold oth
    rw [show (y != x) = true from by simp; omega, Bool.and_true, bi_not]
  have e1 : cF N (adj (outr N (oth F) 0)) = cS N F := T3_congr N (fun a b c h1 h2 h3 => by rw [e a b h1 (by omega), e a c (by omega) h3, e b c h2 h3])
  have e2 : cS N (adj (outr N (oth F) 0)) = cF N F := T3_congr N (fun a b c h1 h2 h3 => by rw [e a b h1 (by omega), e a c (by omega) h3, e b c h2 h3]; grind)
  have e3 : cM N (adj (outr N (oth F) 0)) = cM N F := by unfold cM; rw [e1, e2]; omega
  rw [e1, e2, e3]
theorem spec_l1Cur_person.ok (l : List Int) (hb : byteL l) (i c n : Int) (ps : List S43) (h0 : 0 ≤ i) (h1 : i ≤ 10000) : ∃ v j d, Ev (fun k => spec_l1Cur_person.f k l i c n ps) (v, j, d) ∧ 0 ≤ j ∧ j ≤ i + 4 := by
  have J : ∀ (b : Bool) (i c : Int), 0 ≤ i → i ≤ 20000 → ∃ v j d, Ev (fun k => spec_l1Cur_person.j0 k b l i c n ps) (v, j, d) ∧ 0 ≤ j ∧ j ≤ i + 2 := by
    intro b i c h0 h1
    cases b with
    | true =>
      obtain ⟨v, j, d, e, p1, p2⟩ := spec_l1Cur_among.ok l hb i c [(-1), 0, n, 4611686018427387904] (by simp) h0 (by omega)
      refine ⟨v, j, d, Ev_succ ?_, by omega, by omega⟩
      simp only [spec_l1Cur_person.j0, e, Option.bind_some]
      exact Ev.now _
    | false =>
      obtain ⟨v, j, d, e, p1, p2, _⟩ := spec_l1Cur_pick.ok l hb i c n h0 (by omega)
      refine ⟨v, j, d, Ev_succ ?_, by omega, by omega⟩
      simp only [spec_l1Cur_person.j0, e, Option.bind_some]
      exact Ev.now _
  unfold spec_l1Cur_person.f
  by_cases c1 : n < 1
  · obtain ⟨v, j, d, E, p⟩ := J true i c h0 (by omega)
    exact ⟨v, j, d, Ev.ite_pos c1 E, by omega, by omega⟩
  by_cases c2 : n > 12
  · obtain ⟨v, j, d, E, p⟩ := J true i c h0 (by omega)
    exact ⟨v, j, d, Ev.ite_neg c1 (Ev.ite_pos c2 E), by omega, by omega⟩
  · obtain ⟨v, j, d, e, p1, p2, _⟩ := spec_l1Cur_pick.ok l hb i c 14 h0 (by omega)
    obtain ⟨v', j', d', E, q⟩ := J (v == 0) j d (by omega) (by omega)
    refine ⟨v', j', d', Ev.ite_neg c1 (Ev.ite_neg c2 ?_), by omega, by omega⟩
    simp only [spec_l1Cur_one.f, e, Option.bind_some]
    exact E
theorem spec_DrawThreesAt.ok (l : List Int) (hb : byteL l) : ∃ n ps a, Ev (fun k => spec_DrawThreesAt.f k l) (n, ps, a) ∧ ps.length ≤ 1000 := by
  obtain ⟨n, ps, j, d, E, h1, h2, h3⟩ := spec_l1Cur_party.ok l hb
  obtain ⟨a, j1, d1, E1, h4, h5⟩ := spec_l1Cur_person.ok l hb j d n ps h2 (by omega)
  obtain ⟨b, j2, d2, E2, _⟩ := spec_l1Cur_person.ok l hb j1 d1 n ps h4 (by omega)
  refine ⟨n, ps, a, ?_, h1⟩
  unfold spec_DrawThreesAt.f spec_DrawFriendsOf.f spec_DrawAreFriends.f
  exact Ev.bind (Ev.bind (Ev.bind E (Ev.bind E1 (Ev.bind E2 (Ev.now _)))) (Ev.now _)) (Ev.now _)
theorem spec_l1Has.okI (l : List Int) (a : Int) (hl : l.length ≤ 1048576) : Ev (fun k => spec_l1Has.f k l a) (decide (a ∈ l)) := by
  unfold spec_l1Has.f
  refine up_loop (P := fun i => Ev (fun k => spec_l1Has.l0 k a l (l.length : Int) (i : Int)) (decide (a ∈ l.drop i))) (n := l.length) ?_ ?_ 0 (Nat.zero_le _)
  · refine Ev.step (f := fun _ => some false) (fun k => ?_) (by rw [List.drop_length]; exact Ev.now _)
    rw [spec_l1Has.l0, if_neg (by omega)]
  · intro i hi h
    have er : rd l (i : Int) = l[i] := by simp [rd, List.getD, hi]
    rw [List.drop_eq_getElem_cons hi]
    by_cases e : l[i] = a
    · rw [decide_eq_true (by rw [e]; exact List.mem_cons_self)]
      refine Ev.step (f := fun _ => some true) (fun k => ?_) (Ev.now _)
      rw [spec_l1Has.l0, if_pos (by omega), if_pos (by omega), if_pos (by omega), er, if_pos e]
    · have e2 : decide (a ∈ l[i] :: l.drop (i + 1)) = decide (a ∈ l.drop (i + 1)) := by
        have : ¬ a = l[i] := fun h => e h.symm
        simp only [List.mem_cons, this, false_or]
      rw [e2]
      refine Ev.step (fun k => ?_) h
      rw [spec_l1Has.l0, if_pos (by omega), if_pos (by omega), if_pos (by omega), er, if_neg e, nat_succ i (by omega)]
theorem spec_ThreesAt.ok (n : Int) (l : List S43) (hl : l.length ≤ 1048576) (a : Int) : Ev (fun k => spec_ThreesAt.f k n l a) (atC n l a) := by
  unfold spec_ThreesAt.f atC
  refine Ev.bind (ev_of 70 fun k hk => spec_paGood.ok n l k hk) ?_
  by_cases hg : goodB n l = true
  · obtain ⟨N, rfl, hN, hp, _⟩ := good_N hg
    refine Ev.ite_pos hg ?_
    simp only [spec_paHas.f, spec_l1In.ok, Option.bind_some]
    rw [wrap_id (x := (N : Int) - 1) (by omega) (by omega)]
    refine Ev_succ ?_
    simp only [spec_ThreesAt.j0]
    by_cases ha : 0 ≤ a ∧ a < (N : Int)
    · obtain ⟨A, rfl⟩ := Int.eq_ofNat_of_zero_le ha.1
      rw [if_pos ⟨hg, ha⟩, Int.toNat_natCast, Int.toNat_natCast, decide_eq_true (show 0 ≤ (A : Int) ∧ (A : Int) ≤ (N : Int) - 1 by omega)]
      have h3 := spec_trGroups.three N hN _ (adj_symm l)
      refine Ev.ite_neg (by decide) (Ev.bind (spec_paTable.ok N hN l hl hp) (Ev.bind h3.1 ?_))
      have hlen := h3.2
      have hel : ∀ t ∈ t0 (adj l) 0 N, t.length = 3 := by
        intro t ht
        simp only [t0, t1, t2, List.mem_flatMap, List.mem_map] at ht
        obtain ⟨_, _, _, _, _, _, rfl⟩ := ht
        rfl
      rw [← wv_len]
      generalize t0 (adj l) 0 N = L at hlen hel ⊢
      have loop := up_loop (P := fun i => ∀ m : Nat, m ≤ i → Ev (fun k => spec_ThreesAt.l0 k (A : Int) (m : Int) L (L.length : Int) (i : Int)) (((m + ((L.drop i).filter (fun t => decide ((A : Int) ∈ t))).length : Nat) : Int), true)) (n := L.length) (by
          intro m _
          refine Ev_succ ?_
          simp only [spec_ThreesAt.l0]
          refine Ev.ite_neg (by omega) ?_
          rw [List.drop_length]
          exact Ev.now _) (by
          intro i hi h m hm
          have hr : rd_L2 L (i : Int) = L[i] := by simp [rd_L2, List.getD, hi]
          have h9 := hel L[i] (List.getElem_mem hi)
          refine Ev_succ ?_
          simp only [spec_ThreesAt.l0, hr, nat_succ i (by omega), nat_succ m (by omega)]
          refine Ev.ite_pos (by omega) (Ev.ite_pos (by omega) (Ev.ite_pos (by omega) (Ev.bind (spec_l1Has.okI L[i] (A : Int) (by omega)) ?_)))
          rw [List.drop_eq_getElem_cons hi, List.filter_cons]
          by_cases hc : decide ((A : Int) ∈ L[i]) = true
          · rw [if_pos hc]
            refine Ev.ite_pos hc ?_
            have := h (m + 1) (by omega)
            rw [List.length_cons, show m + (((L.drop (i + 1)).filter (fun t => decide ((A : Int) ∈ t))).length + 1) = m + 1 + ((L.drop (i + 1)).filter (fun t => decide ((A : Int) ∈ t))).length by omega]
            exact this
          · rw [if_neg hc]
            exact Ev.ite_neg hc (h m (by omega)))
      have := loop 0 (Nat.zero_le _) 0 (Nat.le_refl _)
      rw [List.drop_zero, Nat.zero_add] at this
      exact this
    · rw [if_neg (fun h => ha h.2), decide_eq_false (show ¬ (0 ≤ a ∧ a ≤ (N : Int) - 1) by omega)]
      exact Ev.ite_pos (by decide) (Ev.now _)
  · rw [if_neg (fun h => hg h.1)]
    refine Ev.ite_neg hg (Ev_succ ?_)
    simp only [spec_ThreesAt.j0]
    exact Ev.ite_pos trivial (Ev.now _)
theorem spec_DrawLeastOneKind.ok (l : List Int) (hb : byteL l) : ∃ n, spec_DrawLeastOneKind.f l = some n := by
  obtain ⟨v, j, d, e, _⟩ := spec_l1Cur_among.ok l hb 0 0 [0, 1, 2, 3, 4, 5, 6, 7, 8, 9, 11, 12, 13, (-1)] (by simp) (by omega) (by omega)
  unfold spec_DrawLeastOneKind.f
  rw [e]
  exact ⟨v, rfl⟩
theorem spec_LeastOneKind.ok (n : Int) : Ev (fun k => spec_LeastOneKind.f k n) (leastC n) := by
  by_cases hc : crowd n = true
  · refine Ev.of (fun k => spec_LeastOneKind.mono _ k) (k := 20) ?_
    obtain ⟨N, rfl, hN⟩ := crowd_N hc
    clear hc
    obtain rfl | rfl | rfl | rfl | rfl | rfl | rfl | rfl | rfl | rfl | rfl | rfl | rfl : N = 0 ∨ N = 1 ∨ N = 2 ∨ N = 3 ∨ N = 4 ∨ N = 5 ∨ N = 6 ∨ N = 7 ∨ N = 8 ∨ N = 9 ∨ N = 10 ∨ N = 11 ∨ N = 12 := by omega
    all_goals decide +kernel
  · unfold spec_LeastOneKind.f leastC
    simp only [spec_paPeople.ok, Option.bind_some, if_neg hc]
    exact Ev.now _
theorem laws_FnThreesCounted.ok (l0 l1 : List Int) (hb0 : byteL l0) (hb1 : byteL l1) : Ev (fun k => laws_FnThreesCounted.f k l0 l1) true := by
  unfold laws_FnThreesCounted.f
  have hB : ∃ b, laws_big.f l0 l1 = some b := by unfold laws_big.f; split <;> exact ⟨_, rfl⟩
  obtain ⟨b, hB⟩ := hB
  refine Ev.bind' hB ?_
  cases b with
  | true => exact Ev.ite_pos rfl (Ev.now _)
  | false =>
  obtain ⟨n, ps, E, hps⟩ := spec_DrawCountThrees.ok l0 hb0
  obtain ⟨n3, ps3, a3, E3, hp3⟩ := spec_DrawThreesAt.ok l1 hb1
  obtain ⟨m, E4⟩ := spec_DrawLeastOneKind.ok l1 hb1
  have fin : Ev (fun _ => if (leastC m).2 = true then some (decide ((leastC m).1 ≥ 0)) else some true) true := by
    unfold leastC
    by_cases hc : crowd m = true
    · obtain ⟨M, rfl, hM⟩ := crowd_N hc
      rw [if_pos hc, Int.toNat_natCast]
      refine Ev.ite_pos rfl ?_
      rw [decide_eq_true (leastV_some M hM).2]
      exact Ev.now _
    · rw [if_neg hc]
      exact Ev.ite_neg (by decide) (Ev.now _)
  have hfl : (friendC n ps).1.length ≤ 1048576 ∧ ∀ t ∈ (friendC n ps).1, t.length ≤ 1048576 := by
    unfold friendC
    by_cases hg : goodB n ps = true
    · rw [if_pos hg]
      obtain ⟨N, rfl, hN, _⟩ := good_N hg
      rw [Int.toNat_natCast]
      refine ⟨by have := (spec_trGroups.three N hN _ (adj_symm ps)).2; simp only; omega, fun t ht => ?_⟩
      obtain ⟨a, b, c, rfl, _⟩ := t0_mem _ _ _ ht
      simp
    · rw [if_neg hg]
      simp
  refine Ev.ite_neg (by decide) (Ev.bind E (Ev.bind (impl_CountThrees.ok n ps (by omega)) (Ev.bind (spec_CountThrees.ok n ps (by omega)) (Ev.bind (impl_FriendThrees.ok n ps (by omega)) (Ev.bind (spec_FriendThrees.ok n ps (by omega)) (Ev.bind (impl_CountByNumbers.ok n ps (by omega)) (Ev.bind (spec_CountByNumbers.ok n ps) (Ev.bind (impl_CountForks.ok n ps (by omega)) (Ev.bind (spec_CountForks.ok n ps) ?_)))))))))
  refine Ev.ite_neg (by simp) (Ev.ite_pos rfl (Ev.ite_pos rfl (Ev.ite_pos rfl (Ev.ite_neg (by simp) (Ev.bind (laws_vLists.refl _ hfl.1 hfl.2) (Ev.ite_pos rfl (Ev.ite_neg (by simp) (Ev.ite_pos rfl (Ev.ite_neg (by simp) (Ev.ite_pos rfl (Ev.bind (ev_of (ps.length + 5) fun k hk => impl_IsParty.ok n ps (by omega) k (by omega)) ?_)))))))))))
  by_cases hg : goodB n ps = true
  · obtain ⟨N, rfl, hN, hp, _⟩ := good_N hg
    have et : threeC N ps = (cF N (adj ps), cS N (adj ps), cM N (adj ps), true) := by unfold threeC; rw [if_pos hg, Int.toNat_natCast]
    have ef : friendC N ps = (t0 (adj ps) 0 N, true) := by unfold friendC; rw [if_pos hg, Int.toNat_natCast]
    have ek : kindC N ps = (cF N (adj ps) + cS N (adj ps), true) := by unfold kindC; rw [if_pos hg, Int.toNat_natCast]
    have eo : forkC N ps = (fkS N (adj ps), true) := by unfold forkC; rw [if_pos hg, Int.toNat_natCast]
    have el : impl_LeastOneKind.f (N : Int) = some (leastV N, true) := by
      rw [impl_LeastOneKind.ok]
      unfold leastC
      rw [if_pos (by unfold crowd; simp; omega), Int.toNat_natCast]
    have eg := impl_CountGroups.three N ps (by omega) hg
    rw [Int.toNat_natCast] at eg
    rw [et, ef, ek, eo, hg]
    rw [ef] at hfl
    have c1 := cF_le N (adj ps)
    have c2 := c3_val N hN
    have c5 : cM N (adj ps) = c3 N - cF N (adj ps) - cS N (adj ps) := rfl
    have c6 := fkS_bounds hg N hN
    have c7 := mixed_le hg N hN
    have w : ∀ x : Int, -5000 ≤ x → x ≤ 5000 → wrap64 x = x := fun x h1 h2 => wrap_id (by omega) (by omega)
    have hN6 : wrap64 (Int.tdiv (wrap64 (wrap64 ((N : Int) * wrap64 ((N : Int) - 1)) * wrap64 ((N : Int) - 2))) 6) = c3 N := by
      have key : ∀ M : Nat, M ≤ 12 → wrap64 (Int.tdiv (wrap64 (wrap64 ((M : Int) * wrap64 ((M : Int) - 1)) * wrap64 ((M : Int) - 2))) 6) = c3 M := by decide +kernel
      exact key N hN
    refine Ev.ite_neg (by simp) (Ev.ite_neg (by simp) (Ev.ite_neg (by simp) (Ev.ite_neg (by simp) (Ev.ite_pos rfl (Ev.bind' el (Ev.bind eg ?_))))))
    simp only
    rw [hN6, w (cF N (adj ps) + cS N (adj ps)) (by omega) (by omega), w (cF N (adj ps) + cS N (adj ps) + cM N (adj ps)) (by omega) (by omega), w (3 * cF N (adj ps)) (by omega) (by omega), w (3 * cF N (adj ps) + cM N (adj ps)) (by omega) (by omega)]
    refine Ev.ite_pos (by omega) (Ev.ite_pos rfl (Ev.ite_pos (t0_len N (adj ps)) (Ev.ite_pos trivial (Ev.ite_neg (by omega) (Ev.ite_pos trivial (Ev.ite_pos trivial (Ev.ite_neg (by omega) (Ev.ite_neg (by omega) ?_))))))))
    have hlex := t0_lex (adj ps) N
    have hgr := fun t ht => impl_IsGroup.three N ps (by omega) hg t ht
    have hm3 := t0_mem (adj ps) N
    have hlen := hfl.1
    simp only at hlen
    generalize hL : t0 (adj ps) 0 N = L at hlex hgr hm3 hlen ⊢
    have F1 : Ev (fun k => laws_FnThreesCounted.l1 k l1 (cF N (adj ps)) (cS N (adj ps)) (cM N (adj ps)) L L (L.length : Int) 0 (N : Int) ps) true := by
      refine up_loop (P := fun i => Ev (fun k => laws_FnThreesCounted.l1 k l1 (cF N (adj ps)) (cS N (adj ps)) (cM N (adj ps)) L L (L.length : Int) (i : Int) (N : Int) ps) true) (n := L.length) ?_ ?_ 0 (Nat.zero_le _)
      · refine Ev_succ ?_
        simp only [laws_FnThreesCounted.l1]
        have h1 := impl_CountThrees.ok (N : Int) (outr N (oth (adj ps)) 0) (by have := outr_len N hN (oth (adj ps)); omega)
        rw [threeC_other N hN] at h1
        refine Ev.ite_neg (by omega) (Ev.bind (impl_OtherParty.good N ps (by omega) hg) (Ev.bind h1 (Ev.ite_pos rfl (Ev.ite_pos rfl (Ev.ite_pos rfl (Ev.ite_pos rfl (Ev.ite_pos rfl ?_)))))))
        exact Ev.bind E3 (Ev.bind (impl_ThreesAt.ok n3 ps3 (by omega) a3) (Ev.bind (spec_ThreesAt.ok n3 ps3 (by omega) a3) (Ev.bind' E4 (Ev.bind' (impl_LeastOneKind.ok m) (Ev.bind (spec_LeastOneKind.ok m) (Ev.ite_pos (by simp) (Ev.ite_pos rfl (Ev.ite_pos (by simp) (Ev.ite_pos rfl fin)))))))))
      · intro i hi h
        have hr : ∀ j : Nat, (h : j < L.length) → rd_L2 L (j : Int) = L[j] := fun j h => by simp [rd_L2, List.getD, h]
        have hmem := List.getElem_mem hi
        obtain ⟨a, b, c, e3, _⟩ := hm3 L[i] hmem
        have hg3 := hgr L[i] hmem
        refine Ev_succ ?_
        simp only [laws_FnThreesCounted.l1, hr i hi, nat_succ i (by omega)]
        refine Ev.ite_pos (by omega) (Ev.ite_pos (by omega) (Ev.ite_pos (by omega) (Ev.bind hg3 (Ev.ite_pos rfl (Ev.ite_pos rfl (Ev.ite_pos (by rw [e3]; rfl) ?_))))))
        by_cases h0 : i = 0
        · exact Ev.ite_neg (by omega) h
        · have hl2 := List.pairwise_iff_getElem.1 hlex (i - 1) i (by omega) hi (by omega)
          obtain ⟨x, y, z, e4, _⟩ := hm3 L[i - 1] (List.getElem_mem (by omega))
          have ev := laws_vLess.three x y z a b c (by rw [e3, e4] at hl2; exact hl2)
          rw [← e3, ← e4] at ev
          have ew : wrap64 ((i : Int) - 1) = ((i - 1 : Nat) : Int) := by rw [wrap_id (by omega) (by omega)]; omega
          rw [ew, hr (i - 1) (by omega)]
          exact Ev.ite_pos (by omega) (Ev.ite_pos (by omega) (Ev.ite_pos (by omega) (Ev.bind ev (Ev.ite_pos rfl h))))
    have hws := wv_sum N (adj ps)
    have hwl := wv_le N hN (adj ps)
    have hsb := fun i => sm_bound (f := wv N (adj ps)) 660 (by omega) i (fun a _ => by have := hwl a; omega)
    refine up_loop (P := fun i => Ev (fun k => laws_FnThreesCounted.l0 k l1 (cF N (adj ps)) (cS N (adj ps)) (cM N (adj ps)) L (N : Int) (sm i (wv N (adj ps))) (i : Int) (N : Int) ps) true) (n := N) ?_ ?_ 0 (Nat.zero_le _)
    · refine Ev_succ ?_
      simp only [laws_FnThreesCounted.l0]
      rw [hws, w (3 * cF N (adj ps)) (by omega) (by omega)]
      exact Ev.ite_neg (by omega) (Ev.ite_pos rfl F1)
    · intro i hi h
      have ha := impl_ThreesAt.ok (N : Int) ps (by omega) (i : Int)
      unfold atC at ha
      rw [if_pos ⟨hg, by omega, by omega⟩, Int.toNat_natCast, Int.toNat_natCast] at ha
      have h1 := hsb (i + 1)
      have e : wrap64 (sm i (wv N (adj ps)) + wv N (adj ps) i) = sm (i + 1) (wv N (adj ps)) := wrap_id (by show _ ≤ sm (i + 1) _; omega) (by show sm (i + 1) _ ≤ _; omega)
      refine Ev_succ ?_
      simp only [laws_FnThreesCounted.l0, nat_succ i (by omega)]
      refine Ev.ite_pos (by omega) (Ev.bind ha (Ev.ite_pos rfl ?_))
      rw [e]
      exact h
  · have et : threeC n ps = (0, 0, 0, false) := by unfold threeC; rw [if_neg hg]
    have ef : friendC n ps = ([], false) := by unfold friendC; rw [if_neg hg]
    have ek : kindC n ps = (0, false) := by unfold kindC; rw [if_neg hg]
    have eo : forkC n ps = (0, false) := by unfold forkC; rw [if_neg hg]
    simp only [Bool.not_eq_true] at hg
    rw [et, ef, ek, eo, hg]
    refine Ev.ite_neg (by decide) (Ev.ite_neg (by decide) (Ev.ite_neg (by decide) (Ev.ite_neg (by decide) (Ev.ite_neg (by decide) ?_))))
    exact Ev.bind E3 (Ev.bind (impl_ThreesAt.ok n3 ps3 (by omega) a3) (Ev.bind (spec_ThreesAt.ok n3 ps3 (by omega) a3) (Ev.bind' E4 (Ev.bind' (impl_LeastOneKind.ok m) (Ev.bind (spec_LeastOneKind.ok m) (Ev.ite_pos (by simp) (Ev.ite_pos rfl (Ev.ite_pos (by simp) (Ev.ite_pos rfl fin)))))))))
end Go.Proofs.YtbjmkkgejekpnaaDoor.PFnThreesCounted
namespace Go.Proofs.YtbjmkkgejekpnaaDoor
open Go.RowKit Go.Proofs.YtbjmkkgejekpnaaDoor.Base Go.Proofs.YtbjmkkgejekpnaaDoor.PFnThreesCounted Go.Proofs.YtbjmkkgejekpnaaDoorW.PrintWords Go.Proofs.YtbjmkkgejekpnaaDoorW.PrintLast Go.Proofs.YtbjmkkgejekpnaaDoorW.PrintMore
theorem fnThreesCounted_pure : fnThreesCounted.Pure := by
  intro l0 l1 h0 h1
  exact (laws_FnThreesCounted.ok l0 l1 (byteL_of h0.2) (byteL_of h1.2)).rounds
theorem fnThreesCounted_holds : Rows.FnThreesCountedCardSaid := fnThreesCounted.proved fnThreesCounted_pure
end Go.Proofs.YtbjmkkgejekpnaaDoor
