-- Of this session's own program wip/gen/gen.py (it drives the kit's print): contracts of the functions that the law reaches.
import Derived.Test.YtbjmkkgejekpnaaDoorPFnThreesCountedx0
import Derived.Test.YtbjmkkgejekpnaaDoorPFnThreesCountedx3
import Derived.Test.YtbjmkkgejekpnaaDoorPFnThreesCountedx5
import Derived.Test.YtbjmkkgejekpnaaDoorPFnThreesCountedx6
import Derived.Test.YtbjmkkgejekpnaaDoorPFnThreesCountedx7
namespace Go.Proofs.YtbjmkkgejekpnaaDoor.PFnThreesCounted
open Go.RowKit Go.Proofs.YtbjmkkgejekpnaaDoorW.PrintWords Go.Proofs.YtbjmkkgejekpnaaDoorW.PrintLast Go.Proofs.YtbjmkkgejekpnaaDoorW.PrintMore Go.Proofs.YtbjmkkgejekpnaaDoor.Base
attribute [local go_sem] max2_int min2_int max_two min_two max_three min_three max_four min_four   -- for this text's walks alone
set_option linter.unusedVariables false
set_option linter.unusedSimpArgs false
set_option maxHeartbeats 8000000
set_option maxRecDepth 100000

/-! ### spec_trChoose: function 108 -/
mutual
def spec_trChoose.j0 : Nat → Int → Int → Bool → Option (Int)
 | 0, _, _, _ => none
 | k + 1, x0, x1, x13 => if x13 = true then (some 0) else (spec_trChoose.l0 k x0 x1 1 1)
def spec_trChoose.l0 : Nat → Int → Int → Int → Int → Option (Int)
 | 0, _, _, _, _ => none
 | k + 1, x0, x1, x5, x6 => if x6 ≤ x1 then (if x6 = 0 then (none) else (spec_trChoose.l0 k x0 x1 (wrap64 (Int.tdiv (wrap64 (x5 * (wrap64 ((wrap64 (x0 - x1)) + x6)))) x6)) (wrap64 (x6 + 1)))) else (some x5)
end
def spec_trChoose.f (k : Nat) (a0 : Int) (a1 : Int) : Option (Int) := if a1 < 0 then (spec_trChoose.j0 k a0 a1 true) else (spec_trChoose.j0 k a0 a1 (decide (a1 > a0)))
theorem spec_trChoose.mono_l : ∀ k, (∀ y0 y1 y2, LeO (spec_trChoose.j0 k y0 y1 y2) (spec_trChoose.j0 (k + 1) y0 y1 y2)) ∧ (∀ y0 y1 y2 y3, LeO (spec_trChoose.l0 k y0 y1 y2 y3) (spec_trChoose.l0 (k + 1) y0 y1 y2 y3))
 | 0 => ⟨fun _ _ _ r h => by simp [spec_trChoose.j0] at h, fun _ _ _ _ r h => by simp [spec_trChoose.l0] at h⟩
 | k + 1 => by
  obtain ⟨ih0, ih1⟩ := spec_trChoose.mono_l k
  refine ⟨?_, ?_⟩ <;> intros <;> (first | unfold spec_trChoose.j0 | unfold spec_trChoose.l0)
  all_goals (repeat' first | (with_reducible first | exact ih0 .. | exact ih1 .. | exact LeO.refl _ | exact LeO.none _ | refine LeO.ite ?_ ?_ | refine LeO.bind ?_ (fun _ => ?_)) | exact ih0 .. | exact ih1 .. | exact LeO.none _ | refine LeO.ite ?_ ?_ | refine LeO.bind ?_ (fun _ => ?_))
theorem spec_trChoose.mono : ∀ a0 a1 k, LeO (spec_trChoose.f k a0 a1) (spec_trChoose.f (k + 1) a0 a1) := by
 intro a0 a1 k
 obtain ⟨ih0, ih1⟩ := spec_trChoose.mono_l k
 unfold spec_trChoose.f
 repeat' first | (with_reducible first | exact ih0 .. | exact ih1 .. | exact LeO.refl _ | exact LeO.none _ | refine LeO.ite ?_ ?_ | refine LeO.bind ?_ (fun _ => ?_)) | exact ih0 .. | exact ih1 .. | exact LeO.none _ | refine LeO.ite ?_ ?_ | refine LeO.bind ?_ (fun _ => ?_)
theorem spec_trChoose.calls (k : Nat) (a0 : Int) (a1 : Int) (r : Int) (w : World) (h : spec_trChoose.f k a0 a1 = some r) :
  Calls Tryd.prog 108 #[.int .i64 a0, .int .i64 a1] w fun e w' => e = .returned (.int .i64 r) ∧ Drawn0 w w' := by
 have H : (if a1 < 0 then (spec_trChoose.j0 k a0 a1 true) else (spec_trChoose.j0 k a0 a1 (decide (a1 > a0)))) = some r := h
 clear h
 have HC3 := Aside0.mk H
 clear H
 go_enter Tryd.func108, Tryd.ntmps108
 go_upto_region 1 with (fail)
 go_cut [13] (fun v13 wc => ∃ (kq : Nat) (x13_2 : Bool), v13 = .bool x13_2 ∧ Aside0 (spec_trChoose.j0 kq a0 a1 x13_2 = some r) ∧ Aside0 (kq ≤ k) ∧ Drawn0 w wc)
 case first =>
  have H := HC3.out
  clear HC3
  by_cases c4 : a1 < 0
  ·rw [if_pos c4] at H
   have c4b0 := decide_eq_true c4
   clear c4
   (first | rw [c4b0] | (simp only [i64_w, i32_w]; rw [c4b0]) | skip)
   have H' := Aside0.mk H
   clear H
   go_wp2
   go_meet
   case rel => exact ⟨_, (true), sR, H', ⟨by first | omega | exact Nat.le_refl _⟩, by repeat (first | exact Drawn0.refl _ | apply Drawn0.step)⟩
  ·rw [if_neg c4] at H
   have c4b0 := decide_eq_false c4
   clear c4
   (first | rw [c4b0] | (simp only [i64_w, i32_w]; rw [c4b0]) | skip)
   have H' := Aside0.mk H
   clear H
   go_wp2
   go_meet
   case rel => exact ⟨_, (decide (a1 > a0)), sR, H', ⟨by first | omega | exact Nat.le_refl _⟩, by repeat (first | exact Drawn0.refl _ | apply Drawn0.step)⟩
 case rest =>
  clear HC3
  (try clear c4); (try clear c4b0)
  obtain ⟨kq, x13_2, rfl, HA, HJ2, ⟨mc2, rfl⟩⟩ := hcut
  cases kq with
  | zero => exact absurd HA.out (by simp [spec_trChoose.j0])
  | succ kj2 =>
   have H := HA.out
   clear HA
   simp only [spec_trChoose.j0] at H
   by_cases c5 : x13_2 = true
   ·subst c5
    replace H : (some 0) = some r := by rw [if_pos rfl] at H; exact H
    obtain rfl := Option.some.inj H
    go_wp2
    go_ret
    exact ⟨by first | rfl | (simp; done) | (simp [*]; done), by repeat (first | exact Drawn0.refl _ | apply Drawn0.step)⟩
   ·replace c5 := Bool.eq_false_iff.mpr c5
    subst c5
    rw [if_neg (show ¬ (false = true) by decide)] at H
    have H' := Aside0.mk H
    clear H
    go_wp2
    go_loopg [5, 6] kj2 (fun kq v5 v6 w' => ∃ (x5_2 : Int) (x6_2 : Int), v5 = .int .i64 x5_2 ∧ v6 = .int .i64 x6_2 ∧ Aside0 (spec_trChoose.l0 kq a0 a1 x5_2 x6_2 = some r) ∧ Aside0 (kq ≤ kj2) ∧ Drawn0 w w')
    case atStart => exact ⟨(1), (1), sR, sR, H', ⟨Nat.le_refl _⟩, by repeat (first | exact Drawn0.refl _ | apply Drawn0.step)⟩
    case round =>
     clear H'
     (try clear c4); (try clear c4b0); (try clear c5)
     obtain ⟨x5_2, x6_2, rfl, rfl, HA, HK2, ⟨m2, rfl⟩⟩ := hrel
     cases gk with
     | zero => exact absurd HA.out (by simp [spec_trChoose.l0])
     | succ k2 =>
      have H := HA.out
      clear HA
      simp only [spec_trChoose.l0] at H
      by_cases c6 : x6_2 ≤ a1
      ·rw [if_pos c6] at H
       have c6b0 := decide_eq_true c6
       clear c6
       replace H := ifEN H; obtain ⟨⟨c7, c7b0, c7b1⟩, H⟩ := H
       have H' := Aside0.mk H
       clear H
       go_wp2
       go_roundg k2
       case measure => have := HJ2.out; have := HK2.out; omega
       case rel => exact ⟨(wrap64 (Int.tdiv (wrap64 (x5_2 * (wrap64 ((wrap64 (a0 - a1)) + x6_2)))) x6_2)), (wrap64 (x6_2 + 1)), sR, sR, H', ⟨by have := HJ2.out; have := HK2.out; omega⟩, by repeat (first | exact Drawn0.refl _ | apply Drawn0.step)⟩
      ·rw [if_neg c6] at H
       have c6b0 := decide_eq_false c6
       clear c6
       obtain rfl := Option.some.inj H
       go_wp2
       go_ret
       exact ⟨by first | rfl | (simp; done) | (simp [*]; done), by repeat (first | exact Drawn0.refl _ | apply Drawn0.step)⟩

/-! ### spec_CountByNumbers: function 40 -/
def spec_CountByNumbers.l0 : Nat → Int → List Int → Int → Int → Int → List (S43) → Option (Int × Bool)
 | 0, _, _, _, _, _, _ => none
 | k + 1, x4, x11, x12, x13, x410000, x410001 => if x13 < x12 then (if 0 ≤ x13 then (if x13 < (x11.length : Int) then (spec_CountByNumbers.l0 k (wrap64 (x4 + (wrap64 ((rd x11 x13) * (wrap64 ((wrap64 (x410000 - 1)) - (rd x11 x13))))))) x11 x12 (wrap64 (x13 + 1)) x410000 x410001) else (none)) else (none)) else ((spec_trChoose.f k x410000 3).bind fun t415 => (some (wrap64 (t415 - (wrap64 (Int.tdiv x4 2))), true)))
def spec_CountByNumbers.f (k : Nat) (a0_0 : Int) (l0_1 : List (S43)) : Option (Int × Bool) := (spec_paGood.f k a0_0 l0_1).bind fun t410 => (if t410 = true then ((spec_paNumbers.f k a0_0 l0_1).bind fun t411 => (spec_CountByNumbers.l0 k 0 t411 (t411.length : Int) 0 a0_0 l0_1)) else (some (0, false)))
theorem spec_CountByNumbers.mono_l : ∀ k, (∀ y0 y1 y2 y3 y4 y5, LeO (spec_CountByNumbers.l0 k y0 y1 y2 y3 y4 y5) (spec_CountByNumbers.l0 (k + 1) y0 y1 y2 y3 y4 y5))
 | 0 => fun _ _ _ _ _ _ r h => by simp [spec_CountByNumbers.l0] at h
 | k + 1 => by
  have ih0 := spec_CountByNumbers.mono_l k
  ·intro y0 y1 y2 y3 y4 y5
   unfold spec_CountByNumbers.l0
   repeat' first | (with_reducible first | exact ih0 .. | exact spec_paGood.mono .. | exact spec_paNumbers.mono .. | exact spec_trChoose.mono .. | exact LeO.refl _ | exact LeO.none _ | refine LeO.ite ?_ ?_ | refine LeO.bind ?_ (fun _ => ?_)) | exact ih0 .. | exact spec_paGood.mono .. | exact spec_paNumbers.mono .. | exact spec_trChoose.mono .. | exact LeO.none _ | refine LeO.ite ?_ ?_ | refine LeO.bind ?_ (fun _ => ?_)
theorem spec_CountByNumbers.mono : ∀ a0 a1 k, LeO (spec_CountByNumbers.f k a0 a1) (spec_CountByNumbers.f (k + 1) a0 a1) := by
 intro a0 a1 k
 have ih0 := spec_CountByNumbers.mono_l k
 unfold spec_CountByNumbers.f
 repeat' first | (with_reducible first | exact ih0 .. | exact spec_paGood.mono .. | exact spec_paNumbers.mono .. | exact spec_trChoose.mono .. | exact LeO.refl _ | exact LeO.none _ | refine LeO.ite ?_ ?_ | refine LeO.bind ?_ (fun _ => ?_)) | exact ih0 .. | exact spec_paGood.mono .. | exact spec_paNumbers.mono .. | exact spec_trChoose.mono .. | exact LeO.none _ | refine LeO.ite ?_ ?_ | refine LeO.bind ?_ (fun _ => ?_)
theorem spec_CountByNumbers.calls (k : Nat) (a0_0 : Int) (A0_1 : Option Addr) (c0_1 : Nat) (l0_1 : List (S43)) (r1 : Int) (r2 : Bool) (w : World) (hr0_1 : Kd.C k43 w A0_1 l0_1.length l0_1) (hc0_1 : l0_1.length ≤ c0_1) (h : spec_CountByNumbers.f k a0_0 l0_1 = some (r1, r2)) :
  Calls Tryd.prog 40 #[.agg #[.int .i64 a0_0, .slice A0_1 l0_1.length c0_1]] w fun e w' => e = .returned (.tuple #[.int .i64 r1, .bool r2]) ∧ Below w.heap.size w w' := by
 have hu52 := Tryd.underlying52
 have HR0_1 := Aside0.mk hr0_1
 have HC0_1 := Aside0.mk hc0_1
 clear hr0_1 hc0_1
 have HB := Aside0.mk (Below.refl w.heap.size w)
 have H : ((spec_paGood.f k a0_0 l0_1).bind fun t410 => (if t410 = true then ((spec_paNumbers.f k a0_0 l0_1).bind fun t411 => (spec_CountByNumbers.l0 k 0 t411 (t411.length : Int) 0 a0_0 l0_1)) else (some (0, false)))) = some (r1, r2) := h
 clear h
 replace H := oB H; obtain ⟨t410, A2, H⟩ := H
 by_cases c3 : t410 = true
 ·subst c3
  rw [if_pos rfl] at H
  replace H := oB H; obtain ⟨t411, A4, H⟩ := H
  have H' := Aside0.mk H
  clear H
  go_enter Tryd.func40, Tryd.ntmps40
  go_wp2_with (first | ((with_reducible refine gate_dst (N := 1) rfl ?_); refine bxE 1 #[.int .i64 a0_0, .slice A0_1 l0_1.length c0_1] 52 rfl ?_; intro gb409 hg w5 hbox hb; have BK409 := Aside0.mk (hbox); have GW409 := gS HB hg; have GE409 := gS HB hg; replace HB := hS HB hb; clear hb hbox hg; obtain ⟨hcz6_0, hcz6_1, hfz6_0, hfz6_1⟩ := cf2 BK409) | ((with_reducible refine gate_callee (f := 102) rfl ?_); refine goC (N := some 8) Tryd.func102 #[.agg #[.int .i64 a0_0, .slice A0_1 l0_1.length c0_1]] rfl ?_; (with_reducible refine (spec_paGood.calls k a0_0 _ _ l0_1 true _ ?side1 ?side2 A2.out).mono ?_); (case side1 => exact cS (Kd.C_below HR0_1.out HB.out)); (case side2 => exact HC0_1.out); rintro e w7 ⟨rfl, hb⟩; refine ⟨_, rfl, ?_⟩; replace BK409 := bS BK409 hb; replace HB := hS HB hb; (try clear hb); obtain ⟨hcz8_0, hcz8_1, hfz8_0, hfz8_1⟩ := cf2 BK409) | ((with_reducible refine gate_callee (f := 107) rfl ?_); refine goC (N := some 11) Tryd.func107 #[.agg #[.int .i64 a0_0, .slice A0_1 l0_1.length c0_1]] rfl ?_; (with_reducible refine (spec_paNumbers.calls k a0_0 _ _ l0_1 t411 _ ?side1 ?side2 A4.out).mono ?_); (case side1 => exact cS (Kd.C_below HR0_1.out HB.out)); (case side2 => exact HC0_1.out); rintro e w9 ⟨v412, rfl, ho0, hb⟩; refine ⟨_, rfl, ?_⟩; have HO413 := Aside0.mk (Kd.R_lower ho0 (below_size hB)); replace BK409 := bS BK409 hb; replace HB := hS HB hb; (try clear hb ho0); obtain ⟨Ao10, co10, eo10⟩ := Kd.R_slice HO413.out; subst eo10))
  go_loopg [4, 13] k (fun kq v4 v13 w' => ∃ (x4_1 : Int) (x13_1 : Int), v4 = .int .i64 x4_1 ∧ v13 = .int .i64 x13_1 ∧ Aside0 (spec_CountByNumbers.l0 kq x4_1 t411 (t411.length : Int) x13_1 a0_0 l0_1 = some (r1, r2)) ∧ Aside0 (kq ≤ k) ∧ Aside0 (Kd.R (Kd.int .i64) 3 w' w.heap.size (fun _ => True) (.slice Ao10 t411.length co10) t411) ∧ Aside0 (w'.heap[gb409]? = some (.cells #[.int .i64 a0_0, (.slice A0_1 l0_1.length c0_1)] 52 (0, 0))) ∧ Aside0 (Below w.heap.size w w'))
  case atStart => exact ⟨(0), (0), sR, sR, H', ⟨Nat.le_refl _⟩, ⟨rU HO413⟩, ⟨bK⟩, ⟨hB⟩⟩
  case round =>
   clear H'
   (try clear c3); (try clear hcz6_0 hcz6_1 hfz6_0 hfz6_1); (try clear hcz8_0 hcz8_1 hfz8_0 hfz8_1)
   obtain ⟨x4_1, x13_1, rfl, rfl, HA, HK1, HO_11, BK409, HB⟩ := hrel
   cases gk with
   | zero => exact absurd HA.out (by simp [spec_CountByNumbers.l0])
   | succ k1 =>
    have H := HA.out
    clear HA
    simp only [spec_CountByNumbers.l0] at H
    by_cases c11 : x13_1 < (t411.length : Int)
    ·rw [if_pos c11] at H
     have c11b0 := decide_eq_true c11
     clear c11
     replace H := ifD H; obtain ⟨c12b0, H⟩ := H
     replace H := ifD H; obtain ⟨c13b0, H⟩ := H
     have H' := Aside0.mk H
     clear H
     have p414 : 0 ≤ (x13_1 : Int) := of_decide_eq_true (by first | (with_reducible assumption) | assumption)
     have q414 : x13_1 < (t411.length : Int) := of_decide_eq_true (by first | (with_reducible assumption) | assumption)
     obtain ⟨ad414, e414, hx414_0⟩ := Kd.at_int (Kd.R_reads' HO_11.out).2.2 x13_1 p414 q414
     cases e414
     replace p414 := eq_true p414
     replace q414 := eq_true q414
     obtain ⟨hcz14_0, hcz14_1, hfz14_0, hfz14_1⟩ := cf2 BK409
     go_wp2
     go_roundg k1
     case measure => have := HK1.out; omega
     case rel => exact ⟨(wrap64 (x4_1 + (wrap64 ((rd t411 x13_1) * (wrap64 ((wrap64 (a0_0 - 1)) - (rd t411 x13_1))))))), (wrap64 (x13_1 + 1)), sR, sR, H', ⟨by have := HK1.out; omega⟩, ⟨rU HO_11⟩, ⟨bK⟩, ⟨hB⟩⟩
    ·rw [if_neg c11] at H
     have c11b0 := decide_eq_false c11
     clear c11
     replace H := oB H; obtain ⟨t415, A15, H⟩ := H
     simp only [Option.some.injEq, Prod.mk.injEq] at H
     obtain ⟨rfl, rfl⟩ := H
     obtain ⟨hcz16_0, hcz16_1, hfz16_0, hfz16_1⟩ := cf2 BK409
     go_wp2_with (first | ((with_reducible refine gate_callee (f := 108) rfl ?_); refine goC (N := some 29) Tryd.func108 #[.int .i64 a0_0, .int .i64 3] rfl ?_; (with_reducible refine (spec_trChoose.calls k1 a0_0 3 t415 _ A15.out).mono ?_); rintro e w' ⟨rfl, ⟨nd, rfl⟩⟩; refine ⟨_, rfl, ?_⟩))
     go_ret2
     exact ⟨eW, hB⟩
 ·replace c3 := Bool.eq_false_iff.mpr c3
  subst c3
  replace H : (some (0, false)) = some (r1, r2) := by rw [if_neg (show ¬ (false = true) by decide)] at H; exact H
  simp only [Option.some.injEq, Prod.mk.injEq] at H
  obtain ⟨rfl, rfl⟩ := H
  go_enter Tryd.func40, Tryd.ntmps40
  go_wp2_with (first | ((with_reducible refine gate_dst (N := 1) rfl ?_); refine bxE 1 #[.int .i64 a0_0, .slice A0_1 l0_1.length c0_1] 52 rfl ?_; intro gb409 hg w17 hbox hb; have BK409 := Aside0.mk (hbox); have GW409 := gS HB hg; have GE409 := gS HB hg; replace HB := hS HB hb; clear hb hbox hg; obtain ⟨hcz18_0, hcz18_1, hfz18_0, hfz18_1⟩ := cf2 BK409) | ((with_reducible refine gate_callee (f := 102) rfl ?_); refine goC (N := some 8) Tryd.func102 #[.agg #[.int .i64 a0_0, .slice A0_1 l0_1.length c0_1]] rfl ?_; (with_reducible refine (spec_paGood.calls k a0_0 _ _ l0_1 false _ ?side1 ?side2 A2.out).mono ?_); (case side1 => exact cS (Kd.C_below HR0_1.out HB.out)); (case side2 => exact HC0_1.out); rintro e w19 ⟨rfl, hb⟩; refine ⟨_, rfl, ?_⟩; replace BK409 := bS BK409 hb; replace HB := hS HB hb; (try clear hb)))
  go_ret2
  exact ⟨eW, hB⟩

/-! ### impl_CountForks: function 41 -/
def impl_CountForks.l0 : Nat → Bool → Int → List Int → Int → Int → Option (Int × Bool)
 | 0, _, _, _, _, _ => none
 | k + 1, x5, x6, x14, x15, x16 => if x16 < x15 then (if 0 ≤ x16 then (if x16 < (x14.length : Int) then ((impl_choose.f k (rd x14 x16) 2).bind fun t422 => (impl_CountForks.l0 k x5 (wrap64 (x6 + t422)) x14 x15 (wrap64 (x16 + 1)))) else (none)) else (none)) else (some (x6, x5))
def impl_CountForks.f (k : Nat) (a0_0 : Int) (l0_1 : List (S43)) : Option (Int × Bool) := (impl_NumbersOfFriends.f k a0_0 l0_1).bind fun bt417 => (impl_CountForks.l0 k bt417.2 0 bt417.1 (bt417.1.length : Int) 0)
theorem impl_CountForks.mono_l : ∀ k, (∀ y0 y1 y2 y3 y4, LeO (impl_CountForks.l0 k y0 y1 y2 y3 y4) (impl_CountForks.l0 (k + 1) y0 y1 y2 y3 y4))
 | 0 => fun _ _ _ _ _ r h => by simp [impl_CountForks.l0] at h
 | k + 1 => by
  have ih0 := impl_CountForks.mono_l k
  ·intro y0 y1 y2 y3 y4
   unfold impl_CountForks.l0
   repeat' first | (with_reducible first | exact ih0 .. | exact impl_NumbersOfFriends.mono .. | exact impl_choose.mono .. | exact LeO.refl _ | exact LeO.none _ | refine LeO.ite ?_ ?_ | refine LeO.bind ?_ (fun _ => ?_)) | exact ih0 .. | exact impl_NumbersOfFriends.mono .. | exact impl_choose.mono .. | exact LeO.none _ | refine LeO.ite ?_ ?_ | refine LeO.bind ?_ (fun _ => ?_)
theorem impl_CountForks.mono : ∀ a0 a1 k, LeO (impl_CountForks.f k a0 a1) (impl_CountForks.f (k + 1) a0 a1) := by
 intro a0 a1 k
 have ih0 := impl_CountForks.mono_l k
 unfold impl_CountForks.f
 repeat' first | (with_reducible first | exact ih0 .. | exact impl_NumbersOfFriends.mono .. | exact impl_choose.mono .. | exact LeO.refl _ | exact LeO.none _ | refine LeO.ite ?_ ?_ | refine LeO.bind ?_ (fun _ => ?_)) | exact ih0 .. | exact impl_NumbersOfFriends.mono .. | exact impl_choose.mono .. | exact LeO.none _ | refine LeO.ite ?_ ?_ | refine LeO.bind ?_ (fun _ => ?_)
theorem impl_CountForks.calls (k : Nat) (a0_0 : Int) (A0_1 : Option Addr) (c0_1 : Nat) (l0_1 : List (S43)) (r1 : Int) (r2 : Bool) (w : World) (hr0_1 : Kd.C k43 w A0_1 l0_1.length l0_1) (hc0_1 : l0_1.length ≤ c0_1) (h : impl_CountForks.f k a0_0 l0_1 = some (r1, r2)) :
  Calls Tryd.prog 41 #[.agg #[.int .i64 a0_0, .slice A0_1 l0_1.length c0_1]] w fun e w' => e = .returned (.tuple #[.int .i64 r1, .bool r2]) ∧ Below w.heap.size w w' := by
 have hu52 := Tryd.underlying52
 have HR0_1 := Aside0.mk hr0_1
 have HC0_1 := Aside0.mk hc0_1
 clear hr0_1 hc0_1
 have HB := Aside0.mk (Below.refl w.heap.size w)
 have H : ((impl_NumbersOfFriends.f k a0_0 l0_1).bind fun bt417 => (impl_CountForks.l0 k bt417.2 0 bt417.1 (bt417.1.length : Int) 0)) = some (r1, r2) := h
 clear h
 replace H := oB H; obtain ⟨⟨t417, t420⟩, A2, H⟩ := H
 try dsimp only at H
 have H' := Aside0.mk H
 clear H
 go_enter Tryd.func41, Tryd.ntmps41
 go_wp2_with (first | ((with_reducible refine gate_dst (N := 1) rfl ?_); refine bxE 1 #[.int .i64 a0_0, .slice A0_1 l0_1.length c0_1] 52 rfl ?_; intro gb416 hg w3 hbox hb; have BK416 := Aside0.mk (hbox); have GW416 := gS HB hg; have GE416 := gS HB hg; replace HB := hS HB hb; clear hb hbox hg; obtain ⟨hcz4_0, hcz4_1, hfz4_0, hfz4_1⟩ := cf2 BK416) | ((with_reducible refine gate_callee (f := 106) rfl ?_); refine goC (N := some 11) Tryd.func106 #[.agg #[.int .i64 a0_0, .slice A0_1 l0_1.length c0_1]] rfl ?_; (with_reducible refine (impl_NumbersOfFriends.calls k a0_0 _ _ l0_1 t417 t420 _ ?side1 ?side2 A2.out).mono ?_); (case side1 => exact cS (Kd.C_below HR0_1.out HB.out)); (case side2 => exact HC0_1.out); rintro e w5 ⟨v418, rfl, ho0, hb⟩; refine ⟨_, rfl, ?_⟩; have HO419 := Aside0.mk (Kd.R_lower ho0 (below_size hB)); replace BK416 := bS BK416 hb; replace HB := hS HB hb; (try clear hb ho0); obtain ⟨Ao6, co6, eo6⟩ := Kd.R_slice HO419.out; subst eo6))
 go_loopg [6, 16] k (fun kq v6 v16 w' => ∃ (x6_1 : Int) (x16_1 : Int), v6 = .int .i64 x6_1 ∧ v16 = .int .i64 x16_1 ∧ Aside0 (impl_CountForks.l0 kq t420 x6_1 t417 (t417.length : Int) x16_1 = some (r1, r2)) ∧ Aside0 (kq ≤ k) ∧ Aside0 (Kd.R (Kd.int .i64) 3 w' w.heap.size (fun _ => True) (.slice Ao6 t417.length co6) t417) ∧ Aside0 (w'.heap[gb416]? = some (.cells #[.int .i64 a0_0, (.slice A0_1 l0_1.length c0_1)] 52 (0, 0))) ∧ Aside0 (Below w.heap.size w w'))
 case atStart => exact ⟨(0), (0), sR, sR, H', ⟨Nat.le_refl _⟩, ⟨rU HO419⟩, ⟨bK⟩, ⟨hB⟩⟩
 case round =>
  clear H'
  (try clear hcz4_0 hcz4_1 hfz4_0 hfz4_1)
  obtain ⟨x6_1, x16_1, rfl, rfl, HA, HK1, HO_14, BK416, HB⟩ := hrel
  cases gk with
  | zero => exact absurd HA.out (by simp [impl_CountForks.l0])
  | succ k1 =>
   have H := HA.out
   clear HA
   simp only [impl_CountForks.l0] at H
   by_cases c7 : x16_1 < (t417.length : Int)
   ·rw [if_pos c7] at H
    have c7b0 := decide_eq_true c7
    clear c7
    replace H := ifD H; obtain ⟨c8b0, H⟩ := H
    replace H := ifD H; obtain ⟨c9b0, H⟩ := H
    replace H := oB H; obtain ⟨t422, A10, H⟩ := H
    have H' := Aside0.mk H
    clear H
    have p421 : 0 ≤ (x16_1 : Int) := of_decide_eq_true (by first | (with_reducible assumption) | assumption)
    have q421 : x16_1 < (t417.length : Int) := of_decide_eq_true (by first | (with_reducible assumption) | assumption)
    obtain ⟨ad421, e421, hx421_0⟩ := Kd.at_int (Kd.R_reads' HO_14.out).2.2 x16_1 p421 q421
    cases e421
    replace p421 := eq_true p421
    replace q421 := eq_true q421
    go_wp2_with (first | ((with_reducible refine gate_callee (f := 101) rfl ?_); refine goC (N := some 22) Tryd.func101 #[.int .i64 (rd t417 x16_1), .int .i64 2] rfl ?_; (with_reducible refine (impl_choose.calls k1 (rd t417 x16_1) 2 t422 _ A10.out).mono ?_); rintro e w' ⟨rfl, ⟨nd, rfl⟩⟩; refine ⟨_, rfl, ?_⟩))
    go_roundg k1
    case measure => have := HK1.out; omega
    case rel => exact ⟨(wrap64 (x6_1 + t422)), (wrap64 (x16_1 + 1)), sR, sR, H', ⟨by have := HK1.out; omega⟩, ⟨rU HO_14⟩, ⟨bK⟩, ⟨hB⟩⟩
   ·rw [if_neg c7] at H
    have c7b0 := decide_eq_false c7
    clear c7
    simp only [Option.some.injEq, Prod.mk.injEq] at H
    obtain ⟨rfl, rfl⟩ := H
    go_wp2
    go_ret2
    exact ⟨eW, hB⟩

/-! ### spec_CountForks: function 42 -/
def spec_CountForks.l0 : Nat → Int → List Int → Int → Int → Option (Int × Bool)
 | 0, _, _, _, _ => none
 | k + 1, x4, x11, x12, x13 => if x13 < x12 then (if 0 ≤ x13 then (if x13 < (x11.length : Int) then ((spec_trChoose.f k (rd x11 x13) 2).bind fun t429 => (spec_CountForks.l0 k (wrap64 (x4 + t429)) x11 x12 (wrap64 (x13 + 1)))) else (none)) else (none)) else (some (x4, true))
def spec_CountForks.f (k : Nat) (a0_0 : Int) (l0_1 : List (S43)) : Option (Int × Bool) := (spec_paGood.f k a0_0 l0_1).bind fun t424 => (if t424 = true then ((spec_paNumbers.f k a0_0 l0_1).bind fun t425 => (spec_CountForks.l0 k 0 t425 (t425.length : Int) 0)) else (some (0, false)))
theorem spec_CountForks.mono_l : ∀ k, (∀ y0 y1 y2 y3, LeO (spec_CountForks.l0 k y0 y1 y2 y3) (spec_CountForks.l0 (k + 1) y0 y1 y2 y3))
 | 0 => fun _ _ _ _ r h => by simp [spec_CountForks.l0] at h
 | k + 1 => by
  have ih0 := spec_CountForks.mono_l k
  ·intro y0 y1 y2 y3
   unfold spec_CountForks.l0
   repeat' first | (with_reducible first | exact ih0 .. | exact spec_paGood.mono .. | exact spec_paNumbers.mono .. | exact spec_trChoose.mono .. | exact LeO.refl _ | exact LeO.none _ | refine LeO.ite ?_ ?_ | refine LeO.bind ?_ (fun _ => ?_)) | exact ih0 .. | exact spec_paGood.mono .. | exact spec_paNumbers.mono .. | exact spec_trChoose.mono .. | exact LeO.none _ | refine LeO.ite ?_ ?_ | refine LeO.bind ?_ (fun _ => ?_)
theorem spec_CountForks.mono : ∀ a0 a1 k, LeO (spec_CountForks.f k a0 a1) (spec_CountForks.f (k + 1) a0 a1) := by
 intro a0 a1 k
 have ih0 := spec_CountForks.mono_l k
 unfold spec_CountForks.f
 repeat' first | (with_reducible first | exact ih0 .. | exact spec_paGood.mono .. | exact spec_paNumbers.mono .. | exact spec_trChoose.mono .. | exact LeO.refl _ | exact LeO.none _ | refine LeO.ite ?_ ?_ | refine LeO.bind ?_ (fun _ => ?_)) | exact ih0 .. | exact spec_paGood.mono .. | exact spec_paNumbers.mono .. | exact spec_trChoose.mono .. | exact LeO.none _ | refine LeO.ite ?_ ?_ | refine LeO.bind ?_ (fun _ => ?_)
theorem spec_CountForks.calls (k : Nat) (a0_0 : Int) (A0_1 : Option Addr) (c0_1 : Nat) (l0_1 : List (S43)) (r1 : Int) (r2 : Bool) (w : World) (hr0_1 : Kd.C k43 w A0_1 l0_1.length l0_1) (hc0_1 : l0_1.length ≤ c0_1) (h : spec_CountForks.f k a0_0 l0_1 = some (r1, r2)) :
  Calls Tryd.prog 42 #[.agg #[.int .i64 a0_0, .slice A0_1 l0_1.length c0_1]] w fun e w' => e = .returned (.tuple #[.int .i64 r1, .bool r2]) ∧ Below w.heap.size w w' := by
 have hu52 := Tryd.underlying52
 have HR0_1 := Aside0.mk hr0_1
 have HC0_1 := Aside0.mk hc0_1
 clear hr0_1 hc0_1
 have HB := Aside0.mk (Below.refl w.heap.size w)
 have H : ((spec_paGood.f k a0_0 l0_1).bind fun t424 => (if t424 = true then ((spec_paNumbers.f k a0_0 l0_1).bind fun t425 => (spec_CountForks.l0 k 0 t425 (t425.length : Int) 0)) else (some (0, false)))) = some (r1, r2) := h
 clear h
 replace H := oB H; obtain ⟨t424, A2, H⟩ := H
 by_cases c3 : t424 = true
 ·subst c3
  rw [if_pos rfl] at H
  replace H := oB H; obtain ⟨t425, A4, H⟩ := H
  have H' := Aside0.mk H
  clear H
  go_enter Tryd.func42, Tryd.ntmps42
  go_wp2_with (first | ((with_reducible refine gate_dst (N := 1) rfl ?_); refine bxE 1 #[.int .i64 a0_0, .slice A0_1 l0_1.length c0_1] 52 rfl ?_; intro gb423 hg w5 hbox hb; have BK423 := Aside0.mk (hbox); have GW423 := gS HB hg; have GE423 := gS HB hg; replace HB := hS HB hb; clear hb hbox hg; obtain ⟨hcz6_0, hcz6_1, hfz6_0, hfz6_1⟩ := cf2 BK423) | ((with_reducible refine gate_callee (f := 102) rfl ?_); refine goC (N := some 8) Tryd.func102 #[.agg #[.int .i64 a0_0, .slice A0_1 l0_1.length c0_1]] rfl ?_; (with_reducible refine (spec_paGood.calls k a0_0 _ _ l0_1 true _ ?side1 ?side2 A2.out).mono ?_); (case side1 => exact cS (Kd.C_below HR0_1.out HB.out)); (case side2 => exact HC0_1.out); rintro e w7 ⟨rfl, hb⟩; refine ⟨_, rfl, ?_⟩; replace BK423 := bS BK423 hb; replace HB := hS HB hb; (try clear hb); obtain ⟨hcz8_0, hcz8_1, hfz8_0, hfz8_1⟩ := cf2 BK423) | ((with_reducible refine gate_callee (f := 107) rfl ?_); refine goC (N := some 11) Tryd.func107 #[.agg #[.int .i64 a0_0, .slice A0_1 l0_1.length c0_1]] rfl ?_; (with_reducible refine (spec_paNumbers.calls k a0_0 _ _ l0_1 t425 _ ?side1 ?side2 A4.out).mono ?_); (case side1 => exact cS (Kd.C_below HR0_1.out HB.out)); (case side2 => exact HC0_1.out); rintro e w9 ⟨v426, rfl, ho0, hb⟩; refine ⟨_, rfl, ?_⟩; have HO427 := Aside0.mk (Kd.R_lower ho0 (below_size hB)); replace BK423 := bS BK423 hb; replace HB := hS HB hb; (try clear hb ho0); obtain ⟨Ao10, co10, eo10⟩ := Kd.R_slice HO427.out; subst eo10))
  go_loopg [4, 13] k (fun kq v4 v13 w' => ∃ (x4_1 : Int) (x13_1 : Int), v4 = .int .i64 x4_1 ∧ v13 = .int .i64 x13_1 ∧ Aside0 (spec_CountForks.l0 kq x4_1 t425 (t425.length : Int) x13_1 = some (r1, r2)) ∧ Aside0 (kq ≤ k) ∧ Aside0 (Kd.R (Kd.int .i64) 3 w' w.heap.size (fun _ => True) (.slice Ao10 t425.length co10) t425) ∧ Aside0 (w'.heap[gb423]? = some (.cells #[.int .i64 a0_0, (.slice A0_1 l0_1.length c0_1)] 52 (0, 0))) ∧ Aside0 (Below w.heap.size w w'))
  case atStart => exact ⟨(0), (0), sR, sR, H', ⟨Nat.le_refl _⟩, ⟨rU HO427⟩, ⟨bK⟩, ⟨hB⟩⟩
  case round =>
   clear H'
   (try clear c3); (try clear hcz6_0 hcz6_1 hfz6_0 hfz6_1); (try clear hcz8_0 hcz8_1 hfz8_0 hfz8_1)
   obtain ⟨x4_1, x13_1, rfl, rfl, HA, HK1, HO_11, BK423, HB⟩ := hrel
   cases gk with
   | zero => exact absurd HA.out (by simp [spec_CountForks.l0])
   | succ k1 =>
    have H := HA.out
    clear HA
    simp only [spec_CountForks.l0] at H
    by_cases c11 : x13_1 < (t425.length : Int)
    ·rw [if_pos c11] at H
     have c11b0 := decide_eq_true c11
     clear c11
     replace H := ifD H; obtain ⟨c12b0, H⟩ := H
     replace H := ifD H; obtain ⟨c13b0, H⟩ := H
     replace H := oB H; obtain ⟨t429, A14, H⟩ := H
     have H' := Aside0.mk H
     clear H
     have p428 : 0 ≤ (x13_1 : Int) := of_decide_eq_true (by first | (with_reducible assumption) | assumption)
     have q428 : x13_1 < (t425.length : Int) := of_decide_eq_true (by first | (with_reducible assumption) | assumption)
     obtain ⟨ad428, e428, hx428_0⟩ := Kd.at_int (Kd.R_reads' HO_11.out).2.2 x13_1 p428 q428
     cases e428
     replace p428 := eq_true p428
     replace q428 := eq_true q428
     go_wp2_with (first | ((with_reducible refine gate_callee (f := 108) rfl ?_); refine goC (N := some 19) Tryd.func108 #[.int .i64 (rd t425 x13_1), .int .i64 2] rfl ?_; (with_reducible refine (spec_trChoose.calls k1 (rd t425 x13_1) 2 t429 _ A14.out).mono ?_); rintro e w' ⟨rfl, ⟨nd, rfl⟩⟩; refine ⟨_, rfl, ?_⟩))
     go_roundg k1
     case measure => have := HK1.out; omega
     case rel => exact ⟨(wrap64 (x4_1 + t429)), (wrap64 (x13_1 + 1)), sR, sR, H', ⟨by have := HK1.out; omega⟩, ⟨rU HO_11⟩, ⟨bK⟩, ⟨hB⟩⟩
    ·rw [if_neg c11] at H
     have c11b0 := decide_eq_false c11
     clear c11
     simp only [Option.some.injEq, Prod.mk.injEq] at H
     obtain ⟨rfl, rfl⟩ := H
     go_wp2
     go_ret2
     exact ⟨eW, hB⟩
 ·replace c3 := Bool.eq_false_iff.mpr c3
  subst c3
  replace H : (some (0, false)) = some (r1, r2) := by rw [if_neg (show ¬ (false = true) by decide)] at H; exact H
  simp only [Option.some.injEq, Prod.mk.injEq] at H
  obtain ⟨rfl, rfl⟩ := H
  go_enter Tryd.func42, Tryd.ntmps42
  go_wp2_with (first | ((with_reducible refine gate_dst (N := 1) rfl ?_); refine bxE 1 #[.int .i64 a0_0, .slice A0_1 l0_1.length c0_1] 52 rfl ?_; intro gb423 hg w15 hbox hb; have BK423 := Aside0.mk (hbox); have GW423 := gS HB hg; have GE423 := gS HB hg; replace HB := hS HB hb; clear hb hbox hg; obtain ⟨hcz16_0, hcz16_1, hfz16_0, hfz16_1⟩ := cf2 BK423) | ((with_reducible refine gate_callee (f := 102) rfl ?_); refine goC (N := some 8) Tryd.func102 #[.agg #[.int .i64 a0_0, .slice A0_1 l0_1.length c0_1]] rfl ?_; (with_reducible refine (spec_paGood.calls k a0_0 _ _ l0_1 false _ ?side1 ?side2 A2.out).mono ?_); (case side1 => exact cS (Kd.C_below HR0_1.out HB.out)); (case side2 => exact HC0_1.out); rintro e w17 ⟨rfl, hb⟩; refine ⟨_, rfl, ?_⟩; replace BK423 := bS BK423 hb; replace HB := hS HB hb; (try clear hb)))
  go_ret2
  exact ⟨eW, hB⟩

/-! ### impl_leastOneKind: function 111 -/
def impl_leastOneKind.f (a0 : Int) : Option (Int) := if (Int.tmod a0 2) = 0 then (some (wrap64 (Int.tdiv (wrap64 ((wrap64 ((wrap64 (Int.tdiv a0 2)) * (wrap64 ((wrap64 (Int.tdiv a0 2)) - 1)))) * (wrap64 ((wrap64 (Int.tdiv a0 2)) - 2)))) 3))) else (if (Int.tmod a0 4) = 1 then (some (wrap64 (Int.tdiv (wrap64 ((wrap64 ((wrap64 (2 * (wrap64 (Int.tdiv a0 4)))) * (wrap64 ((wrap64 (Int.tdiv a0 4)) - 1)))) * (wrap64 ((wrap64 (4 * (wrap64 (Int.tdiv a0 4)))) + 1)))) 3))) else (some (wrap64 (Int.tdiv (wrap64 ((wrap64 ((wrap64 (2 * (wrap64 (Int.tdiv a0 4)))) * (wrap64 ((wrap64 (Int.tdiv a0 4)) + 1)))) * (wrap64 ((wrap64 (4 * (wrap64 (Int.tdiv a0 4)))) - 1)))) 3))))
theorem impl_leastOneKind.calls (a0 : Int) (r : Int) (w : World) (h : impl_leastOneKind.f a0 = some r) :
  Calls Tryd.prog 111 #[.int .i64 a0] w fun e w' => e = .returned (.int .i64 r) ∧ Drawn0 w w' := by
 have H : (if (Int.tmod a0 2) = 0 then (some (wrap64 (Int.tdiv (wrap64 ((wrap64 ((wrap64 (Int.tdiv a0 2)) * (wrap64 ((wrap64 (Int.tdiv a0 2)) - 1)))) * (wrap64 ((wrap64 (Int.tdiv a0 2)) - 2)))) 3))) else (if (Int.tmod a0 4) = 1 then (some (wrap64 (Int.tdiv (wrap64 ((wrap64 ((wrap64 (2 * (wrap64 (Int.tdiv a0 4)))) * (wrap64 ((wrap64 (Int.tdiv a0 4)) - 1)))) * (wrap64 ((wrap64 (4 * (wrap64 (Int.tdiv a0 4)))) + 1)))) 3))) else (some (wrap64 (Int.tdiv (wrap64 ((wrap64 ((wrap64 (2 * (wrap64 (Int.tdiv a0 4)))) * (wrap64 ((wrap64 (Int.tdiv a0 4)) + 1)))) * (wrap64 ((wrap64 (4 * (wrap64 (Int.tdiv a0 4)))) - 1)))) 3))))) = some r := h
 clear h
 by_cases c2 : (Int.tmod a0 2) = 0
 ·rw [if_pos c2] at H
  have c2b0 : ((Int.tmod a0 2) == 0) = true := beq_iff_eq.mpr c2
  have c2b1 : ((Int.tmod a0 2) != 0) = false := bne_eq_false_iff_eq.mpr c2
  clear c2
  obtain rfl := Option.some.inj H
  go_enter Tryd.func111, Tryd.ntmps111
  go_wp2
  go_ret
  exact ⟨by first | rfl | (simp; done) | (simp [*]; done), by repeat (first | exact Drawn0.refl _ | apply Drawn0.step)⟩
 ·rw [if_neg c2] at H
  have c2b0 : ((Int.tmod a0 2) == 0) = false := beq_eq_false_iff_ne.mpr c2
  have c2b1 : ((Int.tmod a0 2) != 0) = true := bne_iff_ne.mpr c2
  by_cases c3 : (Int.tmod a0 4) = 1
  ·rw [if_pos c3] at H
   have c3b0 : ((Int.tmod a0 4) == 1) = true := beq_iff_eq.mpr c3
   have c3b1 : ((Int.tmod a0 4) != 1) = false := bne_eq_false_iff_eq.mpr c3
   clear c3
   obtain rfl := Option.some.inj H
   go_enter Tryd.func111, Tryd.ntmps111
   go_wp2
   go_ret
   exact ⟨by first | rfl | (simp; done) | (simp [*]; done), by repeat (first | exact Drawn0.refl _ | apply Drawn0.step)⟩
  ·rw [if_neg c3] at H
   have c3b0 : ((Int.tmod a0 4) == 1) = false := beq_eq_false_iff_ne.mpr c3
   have c3b1 : ((Int.tmod a0 4) != 1) = true := bne_iff_ne.mpr c3
   obtain rfl := Option.some.inj H
   go_enter Tryd.func111, Tryd.ntmps111
   go_wp2
   go_ret
   exact ⟨by first | rfl | (simp; done) | (simp [*]; done), by repeat (first | exact Drawn0.refl _ | apply Drawn0.step)⟩

/-! ### impl_LeastOneKind: function 44 -/
def impl_LeastOneKind.f (a0 : Int) : Option (Int × Bool) := (impl_areCrowd.f a0).bind fun t430 => (if t430 = true then ((impl_leastOneKind.f a0).bind fun t431 => (some (t431, true))) else (some (0, false)))
theorem impl_LeastOneKind.calls (a0 : Int) (r1 : Int) (r2 : Bool) (w : World) (h : impl_LeastOneKind.f a0 = some (r1, r2)) :
  Calls Tryd.prog 44 #[.int .i64 a0] w fun e w' => e = .returned (.tuple #[.int .i64 r1, .bool r2]) ∧ Drawn0 w w' := by
 have H : ((impl_areCrowd.f a0).bind fun t430 => (if t430 = true then ((impl_leastOneKind.f a0).bind fun t431 => (some (t431, true))) else (some (0, false)))) = some (r1, r2) := h
 clear h
 replace H := oB H; obtain ⟨t430, A2, H⟩ := H
 by_cases c3 : t430 = true
 ·subst c3
  rw [if_pos rfl] at H
  replace H := Option.bind_eq_some_iff.mp H
  obtain ⟨t431, A40, H⟩ := H
  replace H : (some (t431, true)) = some (r1, r2) := H
  have A4 := Aside0.mk A40
  clear A40
  simp only [Option.some.injEq, Prod.mk.injEq] at H
  obtain ⟨rfl, rfl⟩ := H
  go_enter Tryd.func44, Tryd.ntmps44
  go_wp2_with (first | ((with_reducible refine gate_callee (f := 110) rfl ?_); refine goC (N := some 5) Tryd.func110 #[.int .i64 a0] rfl ?_; (with_reducible refine (impl_areCrowd.calls a0 true _ A2.out).mono ?_); rintro e w' ⟨rfl, ⟨nd, rfl⟩⟩; refine ⟨_, rfl, ?_⟩) | ((with_reducible refine gate_callee (f := 111) rfl ?_); refine goC (N := some 8) Tryd.func111 #[.int .i64 a0] rfl ?_; (with_reducible refine (impl_leastOneKind.calls a0 t431 _ A4.out).mono ?_); rintro e w' ⟨rfl, ⟨nd, rfl⟩⟩; refine ⟨_, rfl, ?_⟩))
  go_ret2
  exact ⟨by first | rfl | (simp; done) | (simp [*]; done), by repeat (first | exact Drawn0.refl _ | apply Drawn0.step)⟩
 ·replace c3 := Bool.eq_false_iff.mpr c3
  subst c3
  replace H : (some (0, false)) = some (r1, r2) := by rw [if_neg (show ¬ (false = true) by decide)] at H; exact H
  simp only [Option.some.injEq, Prod.mk.injEq] at H
  obtain ⟨rfl, rfl⟩ := H
  go_enter Tryd.func44, Tryd.ntmps44
  go_wp2_with (first | ((with_reducible refine gate_callee (f := 110) rfl ?_); refine goC (N := some 5) Tryd.func110 #[.int .i64 a0] rfl ?_; (with_reducible refine (impl_areCrowd.calls a0 false _ A2.out).mono ?_); rintro e w' ⟨rfl, ⟨nd, rfl⟩⟩; refine ⟨_, rfl, ?_⟩))
  go_ret2
  exact ⟨by first | rfl | (simp; done) | (simp [*]; done), by repeat (first | exact Drawn0.refl _ | apply Drawn0.step)⟩

/-! ### impl_bit: function 89 -/
def impl_bit.f (a0 : Bool) : Option (Int) := if a0 = true then (some 1) else (some 0)
theorem impl_bit.calls (a0 : Bool) (r : Int) (w : World) (h : impl_bit.f a0 = some r) :
  Calls Tryd.prog 89 #[.bool a0] w fun e w' => e = .returned (.int .i64 r) ∧ Drawn0 w w' := by
 have H : (if a0 = true then (some 1) else (some 0)) = some r := h
 clear h
 by_cases c2 : a0 = true
 ·subst c2
  replace H : (some 1) = some r := by rw [if_pos rfl] at H; exact H
  obtain rfl := Option.some.inj H
  go_enter Tryd.func89, Tryd.ntmps89
  go_wp2
  go_ret
  exact ⟨by first | rfl | (simp; done) | (simp [*]; done), by repeat (first | exact Drawn0.refl _ | apply Drawn0.step)⟩
 ·replace c2 := Bool.eq_false_iff.mpr c2
  subst c2
  replace H : (some 0) = some r := by rw [if_neg (show ¬ (false = true) by decide)] at H; exact H
  obtain rfl := Option.some.inj H
  go_enter Tryd.func89, Tryd.ntmps89
  go_wp2
  go_ret
  exact ⟨by first | rfl | (simp; done) | (simp [*]; done), by repeat (first | exact Drawn0.refl _ | apply Drawn0.step)⟩

/-! ### impl_CountGroups_1: function 113 (a text of this session's own) -/

def impl_CountGroups_1.f (z : Int) (l : List Int) (n : Int) : Option Int := some (wrap64 (n + if ((l.length : Int) == z) = true then 1 else 0))
/-- What a call leaves: the counter in its place, and all else that lay there. -/
structure impl_CountGroups_1.St (w : World) (base b : Nat) (w' : World) (n : Int) : Prop where
  box : w'.heap[b]? = some (.cells #[.int .i64 n] 3 (0, 0))
  below : Below base w w'
  keep : ∀ k, k ≠ b → k < w.heap.size → w'.heap[k]? = w.heap[k]?
section
variable {w w' w'' : World} {base b : Nat} {n m : Int}
theorem impl_CountGroups_1.St.foot {α : Type} {d : Kd α} {A : Option Addr} {len : Nat} {xs : List α} (s : impl_CountGroups_1.St w base b w' n) (h : Kd.F d w (fun k => k ≠ b) A len xs) : Kd.F d w' (fun k => k ≠ b) A len xs :=
  Kd.F_mono (Kd.F_step (Kd.F_bound h) (fun k hk hlt => s.keep k hk.1 hlt)) (fun _ hk => hk.1)
theorem impl_CountGroups_1.St.later (s : impl_CountGroups_1.St w base b w' n) (hbase : base ≤ w'.heap.size) (hb : Below w'.heap.size w' w'') : impl_CountGroups_1.St w base b w'' n := by
  have hlt : b < w'.heap.size := (Array.getElem?_eq_some_iff.1 s.box).1
  exact ⟨(hb.block b hlt).trans s.box, below_then s.below hbase hb, fun k hk hl => (hb.block k (Nat.lt_of_lt_of_le hl s.below.size)).trans (s.keep k hk hl)⟩
theorem impl_CountGroups_1.St.self (s : impl_CountGroups_1.St w base b w' n) : impl_CountGroups_1.St w' base b w' n := ⟨s.box, Below.refl _ _, fun _ _ _ => rfl⟩
theorem impl_CountGroups_1.St.trans (s : impl_CountGroups_1.St w base b w' n) (u : impl_CountGroups_1.St w' base b w'' m) : impl_CountGroups_1.St w base b w'' m :=
  ⟨u.box, s.below.trans u.below, fun k hk hl => by rw [u.keep k hk (Nat.lt_of_lt_of_le hl s.below.size), s.keep k hk hl]⟩
theorem impl_CountGroups_1.St.drewN (s : impl_CountGroups_1.St w base b w' n) (hbase : base ≤ w'.heap.size) (m : Nat) : impl_CountGroups_1.St w base b (w'.drewN m) n := s.later hbase (pw_below_drewN (Below.refl _ _) m)
end
def impl_CountGroups_1.T0 : Bool × List (List Nat × List Nat) := (true, [([], []), ([], []), ([1], [1]), ([], []), ([2, 3], [2, 3]), ([4], [4]), ([0, 5], [0, 5]), ([6, 5, 0, 1, 2, 3, 4, 5, 6], [6])])
def impl_CountGroups_1.B0 : List Nat := [0, 0, 2, 0, 14, 30, 63, 127]
theorem impl_CountGroups_1.tab0 : rtab .any (opsOf Tryd.f113 0) = impl_CountGroups_1.T0 := by kernel_rfl
theorem impl_CountGroups_1.bits0 : waitsOk impl_CountGroups_1.T0.2 impl_CountGroups_1.B0 = true := by kernel_rfl
set_option maxHeartbeats 4000000 in
set_option maxRecDepth 100000 in
theorem impl_CountGroups_1.walk (z : Int) (b2 b : Nat) (A1 : Option Addr) (c1 : Nat) (l1 : List Int) (n m : Int) (c : Bool) (w : World) (base : Nat) (hc : ((l1.length : Int) == z) = c) (hm : impl_bit.f c = some m) (hz : w.cell? ⟨b2, 0, none⟩ = some (.int .i64 z)) (hS : impl_CountGroups_1.St w base b w n) (hbase : base ≤ w.heap.size) (hbb : base ≤ b) :
    Calls Tryd.prog 113 #[.slice A1 l1.length c1, .pointer (some ⟨b, 0, none⟩), .pointer (some ⟨b2, 0, none⟩)] w fun e w' => e = .returned (.tuple #[]) ∧ impl_CountGroups_1.St w base b w' (wrap64 (n + m)) := by
  have BK := Aside0.mk hS.box
  have HM := Aside0.mk hm
  have HBB := Aside0.mk hbb
  have HBASE := Aside0.mk hbase
  have hc2 : decide ((l1.length : Int) = z) = c := by rw [← hc]; exact (Bool.beq_eq_decide_eq _ _).symm
  have SW := Aside0.mk (fun (W : World) (hb : Below w.heap.size w W) => (⟨pw_cell_below hb ((blk_cell BK.out 0).trans rfl), pw_cell_below hb hz⟩ : (fun w' : World => w'.cell? ⟨b, 0, none⟩ = some (.int .i64 n) ∧ w'.cell? ⟨b2, 0, none⟩ = some (.int .i64 z)) W))
  clear hS hm hbb hz hbase
  go_enter Tryd.func113, Tryd.ntmps113
  try go_wp2
  refine start_ (n := 8) (S := fun w' => w'.cell? ⟨b, 0, none⟩ = some (.int .i64 n) ∧ w'.cell? ⟨b2, 0, none⟩ = some (.int .i64 z)) (ds := [7]) (bz 8 0) (by kernel_rfl) rfl rfl (SW.out _ (by repeat (first | exact Below.refl _ _ | apply below_drew1 | apply pw_below_drewN))) (fun hHeld => ?_)
  refine with_tabW impl_CountGroups_1.tab0 impl_CountGroups_1.bits0 (fun HT_ HW_ => ?_)
  have HBd := Aside0.mk (show Below w.heap.size w w.drew from (by repeat (first | exact Below.refl _ _ | apply below_drew1 | apply pw_below_drewN)))
  generalize w.drew = w1 at HBd hHeld ⊢
  refine run_ [(1, 0, 1, some 4), (0, 1, 3, some 5), (0, 2, 7, some 6), (1, 3, 15, some 7), (0, 4, 31, some 8)] ?_
  repeat (first | (apply tag0; refine run_p (v := ?_) (a' := ?_) rfl rfl (any_of HT_.out (by kernel_rfl)) (fun _ _ _ h => h) (by rfl) ?_ ?_ ?_; rotate_left 2; (intro w'; go_simp; with_reducible rfl); (first | (simp only [Act.put, List.setIfInBounds_toArray, List.set_cons_zero, List.set_cons_succ, i64_w, i32_w]; rfl) | rfl)) | (apply tag1; refine run_t (v := ?_) (a' := ?_) rfl rfl (take_ofW HT_.out HW_.out (by kernel_rfl)) (fun _ _ _ h => h) (by rfl) ?_ hHeld ?_ ?_; rotate_left 2; (rintro w' ⟨s0, s1⟩; go_simp; with_reducible rfl); (first | (simp only [Act.put, List.setIfInBounds_toArray, List.set_cons_zero, List.set_cons_succ, i64_w, i32_w]; rfl) | rfl)))
  refine run_nil ?_
  refine one_ (i := 5) (N := some 9) (bz 8 63) rfl rfl (one_of HT_.out (by kernel_rfl)) (by decide) (fun K hK => ?_)
  refine goes_ Tryd.func89 (by kernel_rfl) rfl #[.bool c] (by rfl) rfl rfl mapT ?_
  refine (impl_bit.calls c m _ HM.out).mono ?_
  rintro e w2 ⟨rfl, ⟨m0, rfl⟩⟩
  refine ⟨_, rfl, ?_⟩
  have HB2 := Aside0.mk (pw_below_drewN HBd.out m0)
  refine hK.out _ _ (SW.out _ HB2.out) (fun hHeld2 => ?_)
  clear hK K
  generalize w1.drewN m0 = w2 at HB2 hHeld2 ⊢
  refine norm_ (a' := ?_) ?_ ?_
  rotate_left
  · show Act.put _ (some 9) _ = _
    simp only [Act.put, List.setIfInBounds_toArray, List.set_cons_zero, List.set_cons_succ, i64_w, i32_w]
    rfl
  refine run_ [(0, 6, 127, some 10)] ?_
  repeat (apply tag0; refine run_p (v := ?_) (a' := ?_) rfl rfl (any_of HT_.out (by kernel_rfl)) (fun _ _ _ h => h) (by rfl) ?_ ?_ ?_; rotate_left 2; (intro w'; go_simp; with_reducible rfl); (first | (simp only [Act.put, List.setIfInBounds_toArray, List.set_cons_zero, List.set_cons_succ, i64_w, i32_w]; rfl) | rfl))
  refine run_nil ?_
  have BK2 := Aside0.mk (blk_below BK.out HB2.out)
  have hs9 : w2.cell? ⟨b, 0, none⟩ = some (.int .i64 n) := (blk_cell BK2.out 0).trans rfl
  have hf9 := blk_frozen BK2.out 0
  refine last_ (i := 7) (N := none) (bz 8 255) rfl rfl (one_of HT_.out (by kernel_rfl)) (by decide) (fun K hK => ?_)
  refine skip_ (w1 := ?_) (by rfl) rfl ?_ ?_
  rotate_left
  · go_simp
    rfl
  refine hK.out _ _ ?_
  clear hK K
  refine done_ (done_of HT_.out (by kernel_rfl)) ?_
  try go_wp2
  first | go_end0 | ((try simp only [Exit.inBlock, Exit.then]); refine bodyPost_ret (results_none rfl _ _ _) rfl ?_)
  have HB3 := HB2.out
  exact ⟨rfl, blk_put (cs := #[.int .i64 n]) BK2.out 0 _ rfl, (HB3.mono HBASE.out).setCell HBB.out _, fun k hk hl => (Below.heap_setCell _ _ _ k hk).trans (HB3.block k hl)⟩
theorem impl_CountGroups_1.calls (z : Int) (b2 b : Nat) (A1 : Option Addr) (c1 : Nat) (l1 : List Int) (n r : Int) (w : World) (base : Nat) (hz : w.cell? ⟨b2, 0, none⟩ = some (.int .i64 z)) (h1 : Kd.C (Kd.int .i64) w A1 l1.length l1) (hc1 : l1.length ≤ c1) (hS : impl_CountGroups_1.St w base b w n) (hbase : base ≤ w.heap.size) (hbb : base ≤ b) (h : impl_CountGroups_1.f z l1 n = some r) :
    Calls Tryd.prog 113 #[.slice A1 l1.length c1, .pointer (some ⟨b, 0, none⟩), .pointer (some ⟨b2, 0, none⟩)] w fun e w' => e = .returned (.tuple #[]) ∧ impl_CountGroups_1.St w base b w' r := by
  obtain rfl := Option.some.inj h
  cases hc : ((l1.length : Int) == z) with
  | true => exact impl_CountGroups_1.walk z b2 b A1 c1 l1 n 1 true w base hc rfl hz hS hbase hbb
  | false => exact impl_CountGroups_1.walk z b2 b A1 c1 l1 n 0 false w base hc rfl hz hS hbase hbb

/-! ### bits_TrailingZeros16: function 138 (a text of this session's own) -/
def bits_TrailingZeros16.f (a0 : Int) : Option Int := if 0 ≤ a0 ∧ a0 < 65536 then some (ctz16 a0) else none
theorem bits_TrailingZeros16.calls (a0 : Int) (r : Int) (w : World) (h : bits_TrailingZeros16.f a0 = some r) (hG : GTab 0 w := by first | exact Aside0.out ‹Aside0 (GTab _ _)› | exact GTab.up (Aside0.out ‹Aside0 (GTab _ _)›) (by repeat (first | (with_reducible first | exact Below.refl _ _ | exact Aside0.out ‹Aside0 (Below _ _ _)› | apply below_alloc | apply pw_below_drewN | apply below_drew1 | refine below_set ?_ (Aside0.out (by assumption))) | exact Aside0.out ‹Aside0 (Below _ _ _)›))) :
    Calls Tryd.prog 138 #[.int .u16 a0] w fun e w' => e = .returned (.int .i64 r) ∧ Drawn0 w w' := by
  unfold bits_TrailingZeros16.f at h
  by_cases hx : 0 ≤ a0 ∧ a0 < 65536
  · rw [if_pos hx] at h
    obtain rfl := Option.some.inj h
    clear h
    obtain ⟨x, rfl⟩ := Int.eq_ofNat_of_zero_le hx.1
    by_cases h0 : x = 0
    · subst h0
      clear hG hx
      go_enter Tryd.func138, Tryd.ntmps138
      go_wp2
      go_ret
      exact ⟨rfl, ⟨0, rfl⟩⟩
    · obtain ⟨idx, key, hi, htab, hk⟩ := tz16_key x (by omega) h0
      have hk1 : ((Go.Lib.ctz 16 x : Nat) : Int) ≤ 15 := by omega
      have hk2 : (0 : Int) ≤ ((Go.Lib.ctz 16 x : Nat) : Int) := by omega
      clear hk
      have hcell := hG idx hi
      rw [htab] at hcell
      have hx0 : ((x : Int) == 0) = false := by simp; omega
      have h1 : (0 : Int) ≤ (idx : Int) := by omega
      have h2 : (idx : Int) < 32 := by omega
      have HC : Aside0 (ctz16 (x : Int) = ((Go.Lib.ctz 16 x : Nat) : Int)) := ⟨by simp [ctz16]⟩
      clear hG htab h0 hx
      go_enter Tryd.func138, Tryd.ntmps138
      go_wp2
      go_ret
      exact ⟨by rw [HC.out]; rfl, ⟨0, rfl⟩⟩
  · rw [if_neg hx] at h; cases h

/-! ### impl_listed: function 75 -/
def impl_listed.l0 : Nat → Int → List Int → Option (List Int)
 | 0, _, _ => none
 | k + 1, x0, x3 => if x0 > 0 then ((bits_TrailingZeros16.f x0).bind fun t435 => (if x3.length < 17592186044416 then (impl_listed.l0 k (Go.bits .and .u16 x0 (IntKind.u16.wrap (x0 - 1))) (x3 ++ [t435])) else (none))) else (some x3)
def impl_listed.f (k : Nat) (a0 : Int) : Option (List Int) := impl_listed.l0 k a0 (([] : List Int))
theorem impl_listed.mono_l : ∀ k, (∀ y0 y1, LeO (impl_listed.l0 k y0 y1) (impl_listed.l0 (k + 1) y0 y1))
 | 0 => fun _ _ r h => by simp [impl_listed.l0] at h
 | k + 1 => by
  have ih0 := impl_listed.mono_l k
  ·intro y0 y1
   unfold impl_listed.l0
   repeat' first | (with_reducible first | exact ih0 .. | exact LeO.refl _ | exact LeO.none _ | refine LeO.ite ?_ ?_ | refine LeO.bind ?_ (fun _ => ?_)) | exact ih0 .. | exact LeO.none _ | refine LeO.ite ?_ ?_ | refine LeO.bind ?_ (fun _ => ?_)
theorem impl_listed.mono : ∀ a0 k, LeO (impl_listed.f k a0) (impl_listed.f (k + 1) a0) := by
 intro a0 k
 have ih0 := impl_listed.mono_l k
 unfold impl_listed.f
 repeat' first | (with_reducible first | exact ih0 .. | exact LeO.refl _ | exact LeO.none _ | refine LeO.ite ?_ ?_ | refine LeO.bind ?_ (fun _ => ?_)) | exact ih0 .. | exact LeO.none _ | refine LeO.ite ?_ ?_ | refine LeO.bind ?_ (fun _ => ?_)
theorem impl_listed.calls (k : Nat) (a0 : Int) (r : List Int) (w : World) (h : impl_listed.f k a0 = some r) (hG : GTab 0 w := by first | exact Aside0.out ‹Aside0 (GTab _ _)› | exact GTab.up (Aside0.out ‹Aside0 (GTab _ _)›) (by repeat (first | (with_reducible first | exact Below.refl _ _ | exact Aside0.out ‹Aside0 (Below _ _ _)› | apply below_alloc | apply pw_below_drewN | apply below_drew1 | refine below_set ?_ (Aside0.out (by assumption))) | exact Aside0.out ‹Aside0 (Below _ _ _)›))) :
  Calls Tryd.prog 75 #[.int .u16 a0] w fun e w' => ∃ v0_ : Value, e = .returned (v0_) ∧ Kd.R (Kd.int .i64) 3 w' w.heap.size (fun _ => True) v0_ r ∧ Below w.heap.size w w' := by
 have HG := Aside0.mk (p := GTab _ _) hG
 clear hG
 have HB := Aside0.mk (Below.refl w.heap.size w)
 have H : (impl_listed.l0 k a0 (([] : List Int))) = some r := h
 clear h
 obtain ⟨y432, hy432⟩ : ∃ y_ : List Int, y_ = (([] : List Int)) := ⟨_, rfl⟩
 replace H : (impl_listed.l0 k a0 y432) = some r := by first | (rw [hy432]; with_reducible exact H) | (have H2_ := (Option.bind_some _ _).symm.trans H; rw [hy432]; with_reducible exact H2_) | (have H2_ := (Option.bind_some _ _).symm.trans H; with_reducible exact H2_) | with_reducible exact H | (rw [hy432]; exact H) | exact H
 have Ny432 := Aside0.mk hy432
 clear hy432
 have H' := Aside0.mk H
 clear H
 go_enter Tryd.func75, Tryd.ntmps75
 go_wp2_with (first | ((with_reducible refine gate_dst (N := 4) rfl ?_); refine Kd.R_lit (Kd.int .i64) _ 3 ?hg (N := 4) ?hd (xs := ([] : List Int)) (inner := []) (ok := fun _ => True) (okp := fun _ => True) ?hr ?hp (fun _ hk => hk) trivial (Below.refl _ _) (Nat.le_refl _) (by simp) ?_; (case hd => rfl); (case hg => rfl); (case hr => first | (go_simp; done) | (go_simp; rfl)); (case hp => exact (Reps.none _ _)); intro v433 w2 ho3 hb hg_ hnew_; clear hg_ hnew_; (first | rw [← Ny432.out] at ho3 | (simp only [Int.reduceToNat] at ho3; rw [← Ny432.out] at ho3)); have HO434 := Aside0.mk (Kd.R_lower ho3 (below_size hB)); replace HB := hS HB hb; clear hb ho3))
 go_loopg [0, 3] k (fun kq v0 v3 w' => ∃ (x0_1 : Int) (x3_1 : List Int), v0 = .int .u16 x0_1 ∧ Aside0 (impl_listed.l0 kq x0_1 x3_1 = some r) ∧ Aside0 (kq ≤ k) ∧ Aside0 (Kd.R (Kd.int .i64) 3 w' w.heap.size (fun _ => True) v3 x3_1) ∧ Aside0 (Below w.heap.size w w'))
 case atStart => exact ⟨(a0), (y432), sR, H', ⟨Nat.le_refl _⟩, ⟨rU HO434⟩, ⟨hB⟩⟩
 case round =>
  clear H'
  obtain ⟨x0_1, x3_1, rfl, HA, HK1, HO_3, HB⟩ := hrel
  cases gk with
  | zero => exact absurd HA.out (by simp [impl_listed.l0])
  | succ k1 =>
   have H := HA.out
   clear HA
   simp only [impl_listed.l0] at H
   by_cases c4 : x0_1 > 0
   ·rw [if_pos c4] at H
    have c4b0 : decide (0 < x0_1) = true := decide_eq_true c4
    clear c4
    replace H := oB H; obtain ⟨t435, A5, H⟩ := H
    replace H := ifP H; obtain ⟨c6, H⟩ := H
    have LMc6 := Aside0.mk c6
    clear c6
    obtain ⟨y436, hy436⟩ : ∃ y_ : List Int, y_ = (x3_1 ++ [t435]) := ⟨_, rfl⟩
    replace H : (impl_listed.l0 k1 (Go.bits .and .u16 x0_1 (IntKind.u16.wrap (x0_1 - 1))) y436) = some r := by first | (rw [hy436]; with_reducible exact H) | (have H2_ := (Option.bind_some _ _).symm.trans H; rw [hy436]; with_reducible exact H2_) | (have H2_ := (Option.bind_some _ _).symm.trans H; with_reducible exact H2_) | with_reducible exact H | (rw [hy436]; exact H) | exact H
    have Ny436 := Aside0.mk hy436
    clear hy436
    have H' := Aside0.mk H
    clear H
    go_wp2_with (first | ((with_reducible refine gate_callee (f := 138) rfl ?_); refine goC (N := some 13) Tryd.func138 #[.int .u16 x0_1] rfl ?_; (with_reducible refine (bits_TrailingZeros16.calls x0_1 t435 _ A5.out).mono ?_); rintro e w' ⟨rfl, ⟨nd, rfl⟩⟩; refine ⟨_, rfl, ?_⟩) | ((with_reducible refine gate_builtin (b := .append) (xs := #[.tmp 11, .tmp 14]) rfl ?_); at_builtin; refine Kd.R_append (Kd.int .i64) (w0 := w) w.heap.size rfl (.tmp 11) (.tmp 14) 32 3 (.int .i64 0) 8 rfl Tryd.underlying32 info3 rfl (by decide) (by omega) u3 x3_1 t435 [.int .i64 t435] (fun _ => True) (fun _ => False) rfl rfl ?aP (fun _ hk => hk.elim) ?aF ?aO ?aB ?aS ?aL ?_; (case aP => exact rfl); (case aB => exact hB); (case aF => exact (fun _ _ => trivial)); (case aO => exact (rU HO_3)); (case aS => exact (below_size hB)); (case aL => have := LMc6.out; omega); intro v437 w7 ho hb hg hat; rw [← Ny436.out] at ho; have HO438 := Aside0.mk (ho); replace HB := Aside0.mk (hb); clear HO_3; clear ho hb hg hat))
    go_roundg k1
    case measure => have := HK1.out; omega
    case rel => exact ⟨(Go.bits .and .u16 x0_1 (IntKind.u16.wrap (x0_1 - 1))), (y436), sR, H', ⟨by have := HK1.out; omega⟩, ⟨rU HO438⟩, ⟨hB⟩⟩
   ·rw [if_neg c4] at H
    have c4b0 : decide (0 < x0_1) = false := decide_eq_false c4
    clear c4
    obtain rfl := Option.some.inj H
    go_wp2
    go_ret
    exact ⟨_, eW, rU HO_3, hB⟩

/-! ### slices_Clone_int_int: function 156 (a text of this session's own) -/

def slices_Clone_int_int.f (l0 : List (Int)) : Option (List (Int)) := if l0.length < 17592186044416 then some l0 else none
set_option maxHeartbeats 8000000 in
set_option maxRecDepth 100000 in
theorem slices_Clone_int_int.calls (A0 : Option Addr) (c0 : Nat) (l0 : List (Int)) (r : List (Int)) (w : World) (hr0 : Kd.C (Kd.int .i64) w A0 l0.length l0) (hc0 : l0.length ≤ c0) (h : slices_Clone_int_int.f l0 = some r) :
    Calls Tryd.prog 156 #[.slice A0 l0.length c0] w fun e w' => ∃ v0_ : Value, e = .returned (v0_) ∧ Kd.R (Kd.int .i64) 3 w' w.heap.size (fun _ => True) v0_ r ∧ Below w.heap.size w w' := by
  unfold slices_Clone_int_int.f at h
  by_cases c2 : l0.length < 17592186044416
  · rw [if_pos c2] at h
    obtain rfl := Option.some.inj h
    have heq := fun (w : World) (n : Nat) => Go.Lib.run_eql_slice_nil (P := Tryd.prog) w 32 3 A0 n c0 0 0 Tryd.underlying32
    cases A0 with
    | none =>
      obtain rfl : l0 = [] := by
        rcases l0 with _ | ⟨x, l⟩
        · rfl
        · obtain ⟨_, h, _⟩ := hr0.2.2 (by simp); cases h
      clear hr0 h c2
      go_enter Tryd.func156, Tryd.ntmps156
      go_wp2
      go_ret
      exact ⟨_, rfl, Kd.R_nil _ _ _ _ _, Below.refl _ _⟩
    | some ad =>
      have HR0 := Aside0.mk hr0
      have LM := Aside0.mk c2
      have HB := Aside0.mk (Below.refl w.heap.size w)
      have NL := Aside0.mk (List.nil_append l0)
      clear hr0 hc0 h c2
      go_enter Tryd.func156, Tryd.ntmps156
      go_wp2_with (first | ((with_reducible refine gate_dst (N := 5) rfl ?_); refine Kd.R_lit (Kd.int .i64) _ 3 ?hg (N := 5) ?hd (xs := ([] : List (Int))) (inner := []) (ok := fun _ => True) (okp := fun _ => True) ?hr ?hp (fun _ hk => hk) trivial (Below.refl _ _) (Nat.le_refl _) (by simp) ?_; (case hd => rfl); (case hg => rfl); (case hr => first | (go_simp; done) | (go_simp; rfl)); (case hp => exact (Reps.none _ _)); intro v132 w3 ho4 hb hg_ hnew_; clear hg_ hnew_; have n0_ := Aside0.mk (Kd.R_lower ho4 (below_size (by repeat (first | (with_reducible first | exact HB.out | apply below_alloc | apply pw_below_drewN | apply below_drew1) | exact HB.out)))); have n1_ := Aside0.mk (below_step (by repeat (first | (with_reducible first | exact HB.out | apply below_alloc | apply pw_below_drewN | apply below_drew1) | exact HB.out)) hb); clear HB; have HO133 := n0_; have HB := n1_; clear n0_ n1_; clear hb ho4) | ((with_reducible refine gate_builtin (b := .append) (xs := #[.tmp 5, .tmp 6]) rfl ?_); at_builtin; refine Kd.R_append_rows (Kd.int .i64) (Rr := (Kd.int .i64).K w3) (w0 := w) w.heap.size rfl (.tmp 5) (.tmp 6) 32 3 (.int .i64 0) 8 rfl Tryd.underlying32 info3 rfl (by decide) (by omega) v132 [] l0 _ _ _ (fun _ => True) (fun _ => False) rfl rfl ?aO ?aR ?aK (fun _ h => h.elim) ?aF ?aB ?aS ?aL ?_; (case aR => repeat (first | exact (Kd.C_below HR0.out HB.out) | (with_reducible refine Kd.C_alloc ?_ _) | (with_reducible refine Kd.C_drewN ?_ _) | (with_reducible refine Kd.C_drew ?_))); (case aK => exact (fun _ _ h => h)); (case aB => exact (by repeat (first | (with_reducible first | exact HB.out | apply below_alloc | apply pw_below_drewN | apply below_drew1) | exact HB.out))); (case aF => exact (fun _ _ => trivial)); (case aO => exact (by (with_reducible repeat (first | apply Kd.R_alloc | apply Kd.R_drewN | apply Kd.R_drew)); exact HO133.out)); (case aS => exact (below_size (by repeat (first | (with_reducible first | exact HB.out | apply below_alloc | apply pw_below_drewN | apply below_drew1) | exact HB.out)))); (case aL => have := LM.out; simp only [List.length_nil]; omega); intro v135 w5 ho hb hg hat; rw [NL.out] at ho; have n0_ := Aside0.mk (hb); have n1_ := Aside0.mk (ho); clear HB; clear HO133; have HB := n0_; have HO136 := n1_; clear n0_ n1_; clear ho hb hg hat))
      go_ret
      exact ⟨_, rfl, by (with_reducible repeat (first | apply Kd.R_alloc | apply Kd.R_drewN | apply Kd.R_drew)); exact HO136.out, by repeat (first | (with_reducible first | exact HB.out | apply below_alloc | apply pw_below_drewN | apply below_drew1) | exact HB.out)⟩
  · rw [if_neg c2] at h; cases h

/-! ### impl_table_groups_1: function 155 (a text of this session's own) -/

def impl_CountGroups_1.gs.T4 : Bool × List (List Nat × List Nat) := (true, [([], []), ([], []), ([1], [1]), ([], []), ([3], [3]), ([2, 4, 2], [2, 4]), ([], []), ([], []), ([], []), ([7, 8], [7, 8]), ([9], [9]), ([6, 10], [6, 10]), ([], []), ([12], [12]), ([13], [13]), ([11, 14], [11, 14]), ([0, 5, 15, 5], [0, 5, 15])])
def impl_CountGroups_1.gs.B4 : List Nat := [0, 0, 2, 0, 8, 30, 0, 0, 0, 384, 896, 1984, 0, 4096, 12288, 32704, 65535]
theorem impl_CountGroups_1.gs.tab4 : rtab .any (opsOf Tryd.f155 4) = impl_CountGroups_1.gs.T4 := by kernel_rfl
theorem impl_CountGroups_1.gs.bits4 : waitsOk impl_CountGroups_1.gs.T4.2 impl_CountGroups_1.gs.B4 = true := by kernel_rfl
mutual
def impl_CountGroups_1.gs.l0 (z : Int) : Nat → List Int → List Int → Int → List Int → Int → Int → Option Int
 | 0, _, _, _, _, _, _ => none
 | k + 1, t, l, s, q, i, xs => if i < (q.length : Int) then (if 0 ≤ i then (if 0 ≤ rd q i then (if rd q i < (t.length : Int) then ((slices_Clone_int_int.f l).bind fun z_ => if z_.length < 17592186044416 then ((impl_CountGroups_1.gs.f z k t (z_ ++ [rd q i]) (Go.bits .andNot .u16 (Go.bits .and .u16 s (rd t (rd q i))) (IntKind.u16.wrap (shl .u16 1 (rd q i) - 1))) xs).bind fun ys => impl_CountGroups_1.gs.l0 z k t l s q (wrap64 (i + 1)) ys) else none) else none) else none) else none) else some xs
def impl_CountGroups_1.gs.f (z : Int) : Nat → List Int → List Int → Int → Int → Option Int
 | 0, _, _, _, _ => none
 | k + 1, t, l, s, xs => (impl_CountGroups_1.f z l xs).bind fun ys => (impl_listed.f k s).bind fun q => impl_CountGroups_1.gs.l0 z k t l s q 0 ys
end
theorem impl_CountGroups_1.gs.mono_l (z : Int) : ∀ k, (∀ y0 y1 y2 y3 y4 y5, LeO (impl_CountGroups_1.gs.l0 z k y0 y1 y2 y3 y4 y5) (impl_CountGroups_1.gs.l0 z (k + 1) y0 y1 y2 y3 y4 y5)) ∧ (∀ y0 y1 y2 y3, LeO (impl_CountGroups_1.gs.f z k y0 y1 y2 y3) (impl_CountGroups_1.gs.f z (k + 1) y0 y1 y2 y3))
 | 0 => ⟨fun _ _ _ _ _ _ r h => by simp [impl_CountGroups_1.gs.l0] at h, fun _ _ _ _ r h => by simp [impl_CountGroups_1.gs.f] at h⟩
 | k + 1 => by
  obtain ⟨ih0, ih1⟩ := impl_CountGroups_1.gs.mono_l z k
  refine ⟨?_, ?_⟩
  · intro y0 y1 y2 y3 y4 y5
    unfold impl_CountGroups_1.gs.l0
    repeat' first
      | (with_reducible exact ih0 _ _ _ _ _ _)
      | (with_reducible exact ih1 _ _ _ _)
      | (with_reducible exact LeO.refl _)
      | (with_reducible exact LeO.none _)
      | (with_reducible refine LeO.ite ?_ ?_)
      | (with_reducible refine LeO.bind ?_ (fun _ => ?_))
  · intro y0 y1 y2 y3
    unfold impl_CountGroups_1.gs.f
    repeat' first
      | (with_reducible exact ih0 _ _ _ _ _ _)
      | (with_reducible exact impl_listed.mono _ _)
      | (with_reducible exact LeO.refl _)
      | (with_reducible exact LeO.none _)
      | (with_reducible refine LeO.bind ?_ (fun _ => ?_))
/-- The boxes of what the call goes on with: what is called for each group, itself, the table (twice). -/
structure impl_CountGroups_1.gs.Bx (w : World) (base b : Nat) (z : Int) (b2 : Nat) (t : List Int) (At : Option Addr) (ct be ba bt : Nat) : Prop where
  e_ : w.heap[be]? = some (.cells #[(.func (.func 113) #[] #[.pointer (some ⟨b, 0, none⟩), .pointer (some ⟨b2, 0, none⟩)])] 104 (0, 0))
  a_ : w.heap[ba]? = some (.cells #[(.func (.func 155) #[] #[.pointer (some ⟨be, 0, none⟩), .pointer (some ⟨ba, 0, none⟩), .pointer (some ⟨bt, 0, none⟩)])] 134 (0, 0))
  t_ : w.heap[bt]? = some (.cells #[.slice At t.length ct] 94 (0, 0))
  c_ : w.cell? ⟨b2, 0, none⟩ = some (.int .i64 z)
  ts_ : Kd.F (Kd.int .u16) w (fun k => k ≠ b) At t.length t
  tc_ : t.length ≤ ct
  g_ : GTab 0 w
  lt : b2 < base ∧ 0 < base ∧ be ≠ b ∧ ba ≠ b ∧ bt ≠ b ∧ base ≤ b
section
variable {w w' w'' : World} {base b b2 : Nat} {xs ys zs z : Int} {t : List Int} {At : Option Addr} {ct be ba bt : Nat}
theorem impl_CountGroups_1.gs.Bx.later (x : impl_CountGroups_1.gs.Bx w base b z b2 t At ct be ba bt) (hb : Below w.heap.size w w') : impl_CountGroups_1.gs.Bx w' base b z b2 t At ct be ba bt :=
  ⟨blk_below x.e_ hb, blk_below x.a_ hb, blk_below x.t_ hb, pw_cell_below hb x.c_, Kd.F_below x.ts_ hb, x.tc_, GTab.up x.g_ hb, x.lt⟩
theorem impl_CountGroups_1.gs.Bx.step (x : impl_CountGroups_1.gs.Bx w base b z b2 t At ct be ba bt) (s : impl_CountGroups_1.St w base b w' ys) : impl_CountGroups_1.gs.Bx w' base b z b2 t At ct be ba bt :=
  ⟨(s.keep be x.lt.2.2.1 (blk_lt x.e_)).trans x.e_, (s.keep ba x.lt.2.2.2.1 (blk_lt x.a_)).trans x.a_, (s.keep bt x.lt.2.2.2.2.1 (blk_lt x.t_)).trans x.t_, (s.below.cell (p := ⟨b2, 0, none⟩) x.lt.1).trans x.c_, s.foot x.ts_, x.tc_, fun j hj => (s.below.cell (p := ⟨0, j, none⟩) x.lt.2.1).trans (x.g_ j hj), x.lt⟩
end
set_option maxHeartbeats 16000000 in
set_option maxRecDepth 100000 in
theorem impl_CountGroups_1.gs.calls : ∀ (k : Nat) (t : List Int) (At : Option Addr) (ct be ba bt : Nat) (A1 : Option Addr) (c1 : Nat) (l1 : List Int) (s : Int) (b : Nat) (z : Int) (b2 : Nat) (xs r : Int) (w : World) (base : Nat)
    (_hx : impl_CountGroups_1.gs.Bx w base b z b2 t At ct be ba bt) (_h1 : Kd.R (Kd.int .i64) 3 w base (fun k => k ≠ b ∧ base ≤ k) (.slice A1 l1.length c1) l1)
    (_hS : impl_CountGroups_1.St w base b w xs) (_hbase : base ≤ w.heap.size) (_h : impl_CountGroups_1.gs.f z k t l1 s xs = some r),
    Calls Tryd.prog 155 #[.slice A1 l1.length c1, .int .u16 s, .pointer (some ⟨be, 0, none⟩), .pointer (some ⟨ba, 0, none⟩), .pointer (some ⟨bt, 0, none⟩)] w fun e w' => e = .returned (.tuple #[]) ∧ impl_CountGroups_1.St w base b w' r := by
  intro k
  induction k using Nat.strongRecOn with
  | ind k ih =>
    intro t At ct be ba bt A1 c1 l1 s b z b2 xs r w base hx h1 hS hbase h
    cases k with
    | zero => simp [impl_CountGroups_1.gs.f] at h
    | succ k =>
      simp only [impl_CountGroups_1.gs.f] at h
      replace h := Option.bind_eq_some_iff.mp h
      obtain ⟨ys, hys, h⟩ := h
      replace h := Option.bind_eq_some_iff.mp h
      obtain ⟨q, hq, h⟩ := h
      have HX := Aside0.mk hx
      have HS := Aside0.mk hS
      have H1 := Aside0.mk h1
      have HC1 := Aside0.mk (Kd.R_reads' h1).2.1
      have H1F := Aside0.mk (Kd.F_mono (Kd.R_F h1) (fun k_ hk => hk.1))
      have HYS := Aside0.mk hys
      have HQ := Aside0.mk hq
      have HL := Aside0.mk h
      have hse : w.cell? ⟨be, 0, none⟩ = some (.func (.func 113) #[] #[.pointer (some ⟨b, 0, none⟩), .pointer (some ⟨b2, 0, none⟩)]) := (blk_cell hx.e_ 0).trans rfl
      clear hx h1 hS hys hq h
      go_enter Tryd.func155, Tryd.ntmps155
      go_wp2_with (first
        | (go_at_call 113; refine (impl_CountGroups_1.calls z b2 b A1 c1 l1 xs ys w base HX.out.c_ (Kd.F_now H1F.out) HC1.out HS.out hbase HX.out.lt.2.2.2.2.2 HYS.out).mono ?_; rintro e w2 ⟨rfl, s2⟩; have S2 := Aside0.mk s2; have X2 := Aside0.mk (HX.out.step s2); have L2 := Aside0.mk (s2.foot H1F.out); have B2 := Aside0.mk (Nat.le_trans hbase s2.below.size); clear s2 hse)
        | (go_at_call 75; refine (impl_listed.calls k s q _ HQ.out (X2.out.later (by first | exact Below.refl _ _ | exact pw_below_drewN (Below.refl _ _) _)).g_).mono ?_; rintro e w3 ⟨v3, rfl, ho, hb⟩; have HOq := Aside0.mk ho; have H23 := Aside0.mk (below_step (by first | exact Below.refl _ _ | exact pw_below_drewN (Below.refl _ _) _) hb); clear ho hb; obtain ⟨Aq, cq, rfl⟩ := Kd.R_slice HOq.out))
      have S3 := Aside0.mk (S2.out.later B2.out H23.out)
      have X3 := Aside0.mk (X2.out.later H23.out)
      have L3 := Aside0.mk (Kd.F_below L2.out H23.out)
      have B3 := Aside0.mk (Nat.le_trans B2.out H23.out.size)
      have HQF := Aside0.mk (Kd.F_mono (Kd.R_F (Kd.R_bound HOq.out)) (fun k_ hk => (by have hl_ := blk_lt S2.out.box; have := hk.2.1; omega : k_ ≠ b)))
      clear S2 X2 L2
      go_loopg [15] k (fun kq v15 W => ∃ (i : Int) (zs : Int), v15 = .int .i64 i ∧ Aside0 (impl_CountGroups_1.gs.l0 z kq t l1 s q i zs = some r) ∧ Aside0 (kq ≤ k) ∧ Aside0 (impl_CountGroups_1.St w3 base b W zs))
      case atStart => exact ⟨0, ys, rfl, HL, ⟨Nat.le_refl _⟩, ⟨by first | exact S3.out.self | exact S3.out.self.drewN B3.out _⟩⟩
      case round =>
        obtain ⟨i, zs, rfl, HA, HK1, HS4⟩ := hrel
        cases gk with
        | zero => exact absurd HA.out (by simp [impl_CountGroups_1.gs.l0])
        | succ k1 =>
          have H := HA.out
          clear HA HL
          simp only [impl_CountGroups_1.gs.l0] at H
          have hbr : base ≤ wr.heap.size := Nat.le_trans B3.out HS4.out.below.size
          have hbl : b < wr.heap.size := blk_lt HS4.out.box
          by_cases c1_ : i < (q.length : Int)
          · rw [if_pos c1_] at H
            by_cases c2_ : 0 ≤ i
            · rw [if_pos c2_] at H
              obtain ⟨a, ha⟩ : ∃ a_, a_ = rd q i := ⟨_, rfl⟩
              rw [← ha] at H
              by_cases c3_ : 0 ≤ a
              · rw [if_pos c3_] at H
                by_cases c4_ : a < (t.length : Int)
                · rw [if_pos c4_] at H
                  have XR := Aside0.mk (X3.out.step HS4.out)
                  replace H := Option.bind_eq_some_iff.mp H
                  obtain ⟨z_, hz, H⟩ := H
                  by_cases c5_ : z_.length < 17592186044416
                  · rw [if_pos c5_] at H
                    replace H := Option.bind_eq_some_iff.mp H
                    obtain ⟨ys2, hy, H⟩ := H
                    obtain ⟨y2, hy2⟩ : ∃ y_ : List Int, y_ = z_ ++ [a] := ⟨_, rfl⟩
                    rw [← hy2] at hy
                    have NY := Aside0.mk hy2
                    have HZ := Aside0.mk hz
                    have HN := Aside0.mk H
                    have LZ := Aside0.mk c5_
                    obtain ⟨adq, eq_, hxq⟩ := Kd.at_int (Kd.F_now (HS4.out.foot HQF.out)) i c2_ c1_
                    subst eq_
                    rw [← ha] at hxq
                    obtain ⟨adt, et, hxt⟩ := Kd.at_int (Kd.F_now XR.out.ts_) a c3_ c4_
                    subst et
                    have HREC := Aside0.mk (fun (A9 : Option Addr) (c9 : Nat) (w9 : World) (hb : Below wr.heap.size wr w9) (ho : Kd.R (Kd.int .i64) 3 w9 wr.heap.size (fun k_ => wr.heap.size ≤ k_) (.slice A9 y2.length c9) y2) =>
                      ih k1 (by have := HK1.out; omega) t (some adt) ct be ba bt A9 c9 y2 (Go.bits .andNot .u16 (Go.bits .and .u16 s (rd t a)) (IntKind.u16.wrap (shl .u16 1 a - 1))) b z b2 zs ys2 w9 base (XR.out.later hb) (Kd.R_lower (Kd.R_mono ho (fun k_ hk => (⟨by omega, by omega⟩ : k_ ≠ b ∧ base ≤ k_))) hbr) (HS4.out.later hbr hb).self (Nat.le_trans hbr hb.size) hy)
                    obtain ⟨ja, hja⟩ : ∃ j_ : Int, shl .u16 1 a = j_ := ⟨_, rfl⟩
                    have hja_ : IntKind.u16.wrap (1 * 2 ^ min (a).toNat 16) = ja := hja
                    have hjaz : a ≤ 16 → IntKind.u16.wrap (1 * 2 ^ (a).toNat) = ja := shl_small hja
                    have hjau : IntKind.u16.wrap (2 ^ min (a).toNat 16) = ja := by have h_ := hja_; rw [Int.one_mul] at h_; exact h_
                    have hjav : a ≤ 16 → IntKind.u16.wrap (2 ^ (a).toNat) = ja := fun hle_ => by have h_ := hjaz hle_; rw [Int.one_mul] at h_; exact h_
                    rw [hja] at HREC
                    have LF := Aside0.mk (HS4.out.foot L3.out)
                    have c1b : decide (i < (q.length : Int)) = true := decide_eq_true c1_
                    have c3b : decide (0 ≤ a) = true := decide_eq_true c3_
                    have SW := Aside0.mk (fun (W : World) (hb : Below wr.heap.size wr W) => (⟨pw_cell_below hb ((blk_cell XR.out.a_ 0).trans rfl), pw_cell_below hb ((blk_cell XR.out.t_ 0).trans rfl), pw_cell_below hb hxt⟩ : (fun w' : World => w'.cell? ⟨ba, 0, none⟩ = some (.func (.func 155) #[] #[.pointer (some ⟨be, 0, none⟩), .pointer (some ⟨ba, 0, none⟩), .pointer (some ⟨bt, 0, none⟩)]) ∧ w'.cell? ⟨bt, 0, none⟩ = some (.slice (some adt) t.length ct) ∧ w'.cell? (adt.add a.toNat) = some (.int .u16 (rd t a))) W))
                    replace c1_ := eq_true c1_
                    replace c2_ := eq_true c2_
                    replace c3_ := eq_true c3_
                    replace c4_ := eq_true c4_
                    clear hz hy H hy2 ha c5_ hja
                    go_wp2
                    refine start_ (n := 17) (S := fun w' => w'.cell? ⟨ba, 0, none⟩ = some (.func (.func 155) #[] #[.pointer (some ⟨be, 0, none⟩), .pointer (some ⟨ba, 0, none⟩), .pointer (some ⟨bt, 0, none⟩)]) ∧ w'.cell? ⟨bt, 0, none⟩ = some (.slice (some adt) t.length ct) ∧ w'.cell? (adt.add a.toNat) = some (.int .u16 (rd t a))) (ds := [16]) (bz 17 0) (by kernel_rfl) rfl rfl (SW.out _ (by repeat (first | exact Below.refl _ _ | apply below_drew1 | apply pw_below_drewN))) (fun hHeld => ?_)
                    refine with_tabW impl_CountGroups_1.gs.tab4 impl_CountGroups_1.gs.bits4 (fun HT_ HW_ => ?_)
                    have HBd := Aside0.mk (show Below wr.heap.size wr wr.drew from (by repeat (first | exact Below.refl _ _ | apply below_drew1 | apply pw_below_drewN)))
                    clear hxq hxt
                    generalize wr.drew = w1 at HBd hHeld ⊢
                    refine run_ [(1, 0, 1, some 19), (0, 1, 3, some 20), (0, 3, 11, some 22), (0, 6, 75, some 25), (1, 7, 203, some 26), (0, 8, 459, some 27), (0, 9, 971, some 28), (1, 10, 1995, some 29), (0, 11, 4043, some 30), (0, 12, 8139, some 31), (0, 13, 16331, some 32), (0, 14, 32715, some 33), (0, 15, 65483, some 34)] ?_
                    repeat (first | (apply tag0; refine run_p (v := ?_) (a' := ?_) rfl rfl (any_of HT_.out (by kernel_rfl)) (fun _ _ _ h => h) (by rfl) ?_ ?_ ?_; rotate_left 2; (intro w'; go_simp; with_reducible rfl); (first | (simp only [Act.put, List.setIfInBounds_toArray, List.set_cons_zero, List.set_cons_succ, i64_w, i32_w]; rfl) | rfl)) | (apply tag1; refine run_t (v := ?_) (a' := ?_) rfl rfl (take_ofW HT_.out HW_.out (by kernel_rfl)) (fun _ _ _ h => h) (by rfl) ?_ hHeld ?_ ?_; rotate_left 2; (rintro w' ⟨s0, s1, s2⟩; go_simp; with_reducible rfl); (first | (simp only [Act.put, List.setIfInBounds_toArray, List.set_cons_zero, List.set_cons_succ, i64_w, i32_w]; rfl) | rfl)))
                    refine run_nil ?_
                    refine join_ (σ := Value × Value) 2 (bz 17 65503) (fun s_ => [(21, s_.1), (23, s_.2)]) (fun s_ w' => (w'.cell? ⟨ba, 0, none⟩ = some (.func (.func 155) #[] #[.pointer (some ⟨be, 0, none⟩), .pointer (some ⟨ba, 0, none⟩), .pointer (some ⟨bt, 0, none⟩)]) ∧ w'.cell? ⟨bt, 0, none⟩ = some (.slice (some adt) t.length ct) ∧ w'.cell? (adt.add a.toNat) = some (.int .u16 (rd t a))) ∧ (Kd.R (Kd.int .i64) 3 w' wr.heap.size (fun k_ => wr.heap.size ≤ k_ ∧ some k_ ≠ (s_.2 : Value).ownBlock) s_.1 z_) ∧ (Kd.R (Kd.int .i64) 3 w' wr.heap.size (fun k_ => some k_ ≠ (s_.1 : Value).ownBlock) s_.2 [a]) ∧ (Below wr.heap.size wr w')) ?_ ?_
                    rotate_left
                    · intro hCont
                      refine two_ (i := 2) (j := 4) (Ni := some 21) (Nj := some 23) (bz 17 65487) (bz 17 65499) rfl rfl rfl rfl (two_of HT_.out (by kernel_rfl)) (by decide) (by decide) (fun K hK => ?_) (fun K hK => ?_)
                      · refine goes_ Tryd.func156 (by kernel_rfl) rfl #[.slice A1 l1.length c1] (by rfl) rfl rfl mapT ?_
                        refine (slices_Clone_int_int.calls A1 c1 l1 z_ _ (Kd.F_now (Kd.F_below LF.out HBd.out)) HC1.out HZ.out).mono ?_
                        rintro e w2' ⟨v1, rfl, ho, hb⟩
                        refine ⟨_, rfl, ?_⟩
                        have HB2 := Aside0.mk (below_step HBd.out hb)
                        have HO2 := Aside0.mk (Kd.R_lower ho (below_size HBd.out))
                        clear ho hb
                        refine hK.out _ _ (SW.out _ HB2.out) (fun hHeld2 => ?_)
                        clear hK K
                        refine one_ (i := 4) (N := some 23) (bz 17 65503) rfl rfl (one_of HT_.out (by kernel_rfl)) (by decide) (fun K hK => ?_)
                        refine Kd.R_lit_step (Kd.int .i64) (w0 := wr) wr.heap.size 3 (by rfl) (N := 23) rfl (xs := [a]) (inner := [.int .i64 a]) (ok := fun k_ => some k_ ≠ v1.ownBlock) (okp := fun _ => False) ?hr ?hp (fun _ h => h.elim) ?hf HB2.out (below_size HB2.out) (by simp) ?_
                        case hr => first | (go_simp; done) | (go_simp; rfl)
                        case hp => exact Reps.one rfl (Reps.none _ _)
                        case hf => exact fun he => by have := Kd.R_lt HO2.out _ he.symm; omega
                        intro v2' w3' ho2 hb2 hg2 hnew2
                        refine hK.out _ _ (SW.out _ hb2) (fun hHeld3 => ?_)
                        refine norm_ ?_ (hCont (v1, v2') w3' ⟨SW.out _ hb2, Kd.R_mono (Kd.R_grown (Kd.R_bound HO2.out) hg2 (fun k_ _ => by simp)) (fun k_ hk => ⟨hk.2.1, fun he => by obtain ⟨g, e, hg⟩ := hnew2; rw [e] at he; injection he with he; have := hk.2.2.1; omega⟩), ho2, hb2⟩)
                        first | rfl | (simp only [putAll, Act.put, List.setIfInBounds_toArray, List.set_cons_zero, List.set_cons_succ, i64_w, i32_w]; rfl)
                      · refine Kd.R_lit_step (Kd.int .i64) (w0 := wr) wr.heap.size 3 (by rfl) (N := 23) rfl (xs := [a]) (inner := [.int .i64 a]) (ok := fun _ => True) (okp := fun _ => False) ?hr ?hp (fun _ h => h.elim) trivial HBd.out (below_size HBd.out) (by simp) ?_
                        case hr => first | (go_simp; done) | (go_simp; rfl)
                        case hp => exact Reps.one rfl (Reps.none _ _)
                        intro v2' w2' ho2 hb2 hg2 hnew2
                        have HB2 := Aside0.mk hb2
                        have HO2 := Aside0.mk ho2
                        clear hb2 ho2 hg2
                        refine hK.out _ _ (SW.out _ HB2.out) (fun hHeld2 => ?_)
                        clear hK K
                        refine one_ (i := 2) (N := some 21) (bz 17 65503) rfl rfl (one_of HT_.out (by kernel_rfl)) (by decide) (fun K hK => ?_)
                        refine goes_ Tryd.func156 (by kernel_rfl) rfl #[.slice A1 l1.length c1] (by rfl) rfl rfl mapT ?_
                        refine (slices_Clone_int_int.calls A1 c1 l1 z_ _ (Kd.F_now (Kd.F_below LF.out HB2.out)) HC1.out HZ.out).mono ?_
                        rintro e w3' ⟨v1, rfl, ho, hb⟩
                        refine ⟨_, rfl, ?_⟩
                        refine hK.out _ _ (SW.out _ (below_step HB2.out hb)) (fun hHeld3 => ?_)
                        refine norm_ ?_ (hCont (v1, v2') w3' ⟨SW.out _ (below_step HB2.out hb), Kd.R_mono (Kd.R_lower (Kd.R_bound ho) (below_size HB2.out)) (fun k_ hk => ⟨Nat.le_trans (below_size HB2.out) hk.2.1, fun he => by have := Kd.R_lt HO2.out _ he.symm; have := hk.2.1; omega⟩), Kd.R_mono (Kd.R_below (Kd.R_bound HO2.out) hb) (fun k_ hk he => by have := Kd.R_base ho _ he.symm; have := hk.2.2.1; omega), below_step HB2.out hb⟩)
                        first | rfl | (simp only [putAll, Act.put, List.setIfInBounds_toArray, List.set_cons_zero, List.set_cons_succ, i64_w, i32_w]; rfl)
                    · rintro ⟨v1, v2'⟩ w3' ⟨hHeld3, R1, R2, HB3⟩
                      simp only at R1 R2
                      refine norm_ (a' := ?_) ?_ ?_
                      rotate_left
                      · simp only [putAll, Act.put, List.setIfInBounds_toArray, List.set_cons_zero, List.set_cons_succ, i64_w, i32_w]
                        rfl
                      obtain ⟨A2, c2, rfl⟩ := Kd.R_slice R2
                      have HR1 := Aside0.mk R1
                      have HR2 := Aside0.mk R2
                      have HB4 := Aside0.mk HB3
                      clear R1 R2 HB3
                      refine one_ (i := 5) (N := some 24) (bz 17 65535) rfl rfl (one_of HT_.out (by kernel_rfl)) (by decide) (fun K hK => ?_)
                      refine Kd.R_append_rows_step (Kd.int .i64) (w0 := wr) wr.heap.size (by rfl) (.tmp 21) (.tmp 23) 32 3 (.int .i64 0) 8 rfl Tryd.underlying32 info3 rfl (by decide) (by omega) v1 z_ [a] A2 1 c2 (fun k_ => wr.heap.size ≤ k_) (fun _ => False) rfl rfl (Kd.R_mono HR1.out (fun _ hk => hk.1)) (Kd.R_reads' HR2.out).2.2 (fun _ _ h => h) (fun _ h => h.elim) (fun k_ hk => Nat.le_trans (below_size HB4.out) hk) HB4.out (below_size HB4.out) (by have := LZ.out; omega) ?_
                      intro v4 w4 ho hb hg hat
                      rw [← NY.out] at ho
                      obtain ⟨A9, c9, rfl⟩ := Kd.R_slice ho
                      refine hK.out _ _ (SW.out _ hb) (fun hHeld4 => ?_)
                      clear hK K
                      refine norm_ (a' := ?_) ?_ ?_
                      rotate_left
                      · show Act.put _ (some 24) _ = _
                        simp only [Act.put, List.setIfInBounds_toArray, List.set_cons_zero, List.set_cons_succ, i64_w, i32_w]
                        rfl
                      have HB5 := Aside0.mk hb
                      have HO5 := Aside0.mk ho
                      clear hb ho hg hat
                      refine last_ (i := 16) (N := some 35) (bz 17 131071) rfl rfl (one_of HT_.out (by kernel_rfl)) (by decide) (fun K hK => ?_)
                      refine call_ 155 #[.slice A9 y2.length c9, .int .u16 (Go.bits .andNot .u16 (Go.bits .and .u16 s (rd t a)) (IntKind.u16.wrap (ja - 1))), .pointer (some ⟨be, 0, none⟩), .pointer (some ⟨ba, 0, none⟩), .pointer (some ⟨bt, 0, none⟩)] (by rfl) rfl ?_ ?_
                      · have he := fun W_ => enters_ Tryd.func155 (by kernel_rfl) rfl #[.slice A9 y2.length c9, .int .u16 (Go.bits .andNot .u16 (Go.bits .and .u16 s (rd t a)) (IntKind.u16.wrap (ja - 1))), .pointer (some ⟨be, 0, none⟩), .pointer (some ⟨ba, 0, none⟩), .pointer (some ⟨bt, 0, none⟩)] W_
                        unfold execOp
                        simp [resolve, Deferred.ofValue, invoke, Act.eval, he]
                      refine (HREC.out A9 c9 w4 HB5.out HO5.out).mono ?_
                      rintro e w7' ⟨rfl, s7⟩
                      refine ⟨_, rfl, ?_⟩
                      have HS7 := Aside0.mk ((HS4.out.later hbr HB5.out).trans s7)
                      refine hK.out _ _ ?_
                      clear hK K s7
                      refine done_ (done_of HT_.out (by kernel_rfl)) ?_
                      go_wp2
                      go_roundg k1
                      case measure => have := HK1.out; omega
                      case rel => exact ⟨wrap64 (i + 1), ys2, by first | rfl | (simp; done), HN, ⟨by have := HK1.out; omega⟩, HS7⟩
                  · rw [if_neg c5_] at H; cases H
                · rw [if_neg c4_] at H; cases H
              · rw [if_neg c3_] at H; cases H
            · rw [if_neg c2_] at H; cases H
          · rw [if_neg c1_] at H
            have c1b : decide (i < (q.length : Int)) = false := decide_eq_false c1_
            clear c1_
            obtain rfl := Option.some.inj H
            go_wp2
            first | go_end0 | ((try simp only [Exit.inBlock, Exit.then]); refine bodyPost_ret (results_none rfl _ _ _) rfl ?_)
            exact ⟨rfl, by first | exact S3.out.trans HS4.out | exact (S3.out.trans HS4.out).drewN hbr _⟩

end Go.Proofs.YtbjmkkgejekpnaaDoor.PFnThreesCounted
