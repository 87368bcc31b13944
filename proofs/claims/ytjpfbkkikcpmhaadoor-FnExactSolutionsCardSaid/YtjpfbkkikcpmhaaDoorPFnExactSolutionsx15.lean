-- Of this session's own program wip/gen/gen.py (it drives the kit's print): contracts of the functions that the law reaches.
import Derived.Test.YtjpfbkkikcpmhaaDoorPFnExactSolutionsx0
import Derived.Test.YtjpfbkkikcpmhaaDoorPFnExactSolutionsx2
import Derived.Test.YtjpfbkkikcpmhaaDoorPFnExactSolutionsx9
import Derived.Test.YtjpfbkkikcpmhaaDoorPFnExactSolutionsx13
import Derived.Test.YtjpfbkkikcpmhaaDoorPFnExactSolutionsx14
namespace Go.Proofs.YtjpfbkkikcpmhaaDoor.PFnExactSolutions
open Go.RowKit Go.Proofs.YtjpfbkkikcpmhaaDoorW.PrintWords Go.Proofs.YtjpfbkkikcpmhaaDoorW.PrintLast Go.Proofs.YtjpfbkkikcpmhaaDoorW.PrintMore Go.Proofs.YtjpfbkkikcpmhaaDoor.Base
attribute [local go_sem] max2_int min2_int max_two min_two max_three min_three max_four min_four   -- for this text's walks alone
set_option linter.unusedVariables false
set_option linter.unusedSimpArgs false

/-! ### laws_heldPairS: function 36 -/
def laws_heldPairS.l0 : Nat → List (S105) → Int → Int → Option (Int)
 | 0, _, _, _ => none
 | k + 1, x0, x1, x5 => if x5 < (x0.length : Int) then (if 0 ≤ x5 then (if ((rd_T105 x0 x5).f0) = x1 then (if ((rd_T105 x0 x5).f1) = (wrap64 (x1 + 1)) then (laws_heldPairS.l0 k x0 (wrap64 ((wrap64 (x1 + 1)) + 1)) (wrap64 (x5 + 1))) else (some (-1))) else (some (-1))) else (none)) else (some x1)
def laws_heldPairS.f (k : Nat) (l0 : List (S105)) (a1 : Int) : Option (Int) := laws_heldPairS.l0 k l0 a1 0
theorem laws_heldPairS.mono_l : ∀ k, (∀ y0 y1 y2, LeO (laws_heldPairS.l0 k y0 y1 y2) (laws_heldPairS.l0 (k + 1) y0 y1 y2))
 | 0 => fun _ _ _ r h => by simp [laws_heldPairS.l0] at h
 | k + 1 => by
  have ih0 := laws_heldPairS.mono_l k
  ·intro y0 y1 y2
   unfold laws_heldPairS.l0
   repeat' first
   | (with_reducible exact ih0 _ _ _)
   | (with_reducible exact LeO.refl _)
   | (with_reducible exact LeO.none _)
   | (with_reducible refine LeO.ite ?_ ?_)
   | (with_reducible refine LeO.bind ?_ (fun _ => ?_))
   | exact ih0 _ _ _
   | exact LeO.none _
   | refine LeO.ite ?_ ?_
   | refine LeO.bind ?_ (fun _ => ?_)
theorem laws_heldPairS.mono : ∀ a0 a1 k, LeO (laws_heldPairS.f k a0 a1) (laws_heldPairS.f (k + 1) a0 a1) := by
 intro a0 a1 k
 have ih0 := laws_heldPairS.mono_l k
 unfold laws_heldPairS.f
 repeat' first
   | (with_reducible exact ih0 _ _ _)
   | (with_reducible exact LeO.refl _)
   | (with_reducible exact LeO.none _)
   | (with_reducible refine LeO.ite ?_ ?_)
   | (with_reducible refine LeO.bind ?_ (fun _ => ?_))
   | exact ih0 _ _ _
   | exact LeO.none _
   | refine LeO.ite ?_ ?_
   | refine LeO.bind ?_ (fun _ => ?_)
set_option maxHeartbeats 8000000 in
set_option maxRecDepth 100000 in
theorem laws_heldPairS.calls (k : Nat) (A0 : Option Addr) (c0 : Nat) (l0 : List (S105)) (a1 : Int) (r : Int) (w : World) (hr0 : Kd.C k105 w A0 l0.length l0) (hc0 : l0.length ≤ c0) (h : laws_heldPairS.f k l0 a1 = some r) :
  Calls Tryd.prog 36 #[.slice A0 l0.length c0, .int .i64 a1] w fun e w' => e = .returned (.int .i64 r) ∧ Drawn0 w w' := by
 have HR0 := Aside0.mk hr0
 have HC0 := Aside0.mk hc0
 clear hr0 hc0
 have H : (laws_heldPairS.l0 k l0 a1 0) = some r := h
 clear h
 have H' := Aside0.mk H
 clear H
 go_enter Tryd.func36, Tryd.ntmps36
 go_wp2
 go_loopg [1, 5] k (fun kq v1 v5 w' => ∃ (x1_1 : Int) (x5_1 : Int), v1 = .int .i64 x1_1 ∧ v5 = .int .i64 x5_1 ∧ Aside0 (laws_heldPairS.l0 kq l0 x1_1 x5_1 = some r) ∧ Aside0 (kq ≤ k) ∧ Drawn0 w w')
 case atStart => exact ⟨(a1), (0), (by first | rfl | (simp; done) | (simp [*]; done)), (by first | rfl | (simp; done) | (simp [*]; done)), H', ⟨Nat.le_refl _⟩, by repeat (first | exact Drawn0.refl _ | apply Drawn0.step)⟩
 case round =>
  clear H'
  try clear p2
  obtain ⟨x1_1, x5_1, rfl, rfl, HA, HK1, ⟨m1, rfl⟩⟩ := hrel
  cases gk with
  | zero => exact absurd HA.out (by simp [laws_heldPairS.l0])
  | succ k1 =>
   have H := HA.out
   clear HA
   simp only [laws_heldPairS.l0] at H
   by_cases c3 : x5_1 < (l0.length : Int)
   ·rw [if_pos c3] at H
    have c3b0 : decide (x5_1 < (l0.length : Int)) = true := decide_eq_true c3
    clear c3
    by_cases c4 : 0 ≤ x5_1
    ·rw [if_pos c4] at H
     have c4b0 : decide (0 ≤ x5_1) = true := decide_eq_true c4
     clear c4
     by_cases c5 : ((rd_T105 l0 x5_1).f0) = x1_1
     ·rw [if_pos c5] at H
      have c5b0 : (((rd_T105 l0 x5_1).f0) == x1_1) = true := beq_iff_eq.mpr c5
      have c5b1 : (((rd_T105 l0 x5_1).f0) != x1_1) = false := bne_eq_false_iff_eq.mpr c5
      clear c5
      by_cases c6 : ((rd_T105 l0 x5_1).f1) = (wrap64 (x1_1 + 1))
      ·rw [if_pos c6] at H
       have c6b0 : (((rd_T105 l0 x5_1).f1) == (wrap64 (x1_1 + 1))) = true := beq_iff_eq.mpr c6
       have c6b1 : (((rd_T105 l0 x5_1).f1) != (wrap64 (x1_1 + 1))) = false := bne_eq_false_iff_eq.mpr c6
       clear c6
       have H' := Aside0.mk H
       clear H
       have p462 : 0 ≤ (x5_1 : Int) := of_decide_eq_true (by first | (with_reducible assumption) | assumption)
       have q462 : x5_1 < (l0.length : Int) := of_decide_eq_true (by first | (with_reducible assumption) | assumption)
       obtain ⟨ad462, e462, hx462_0, hx462_1⟩ := at_T105 HR0.out x5_1 p462 q462
       cases e462
       replace p462 := eq_true p462
       replace q462 := eq_true q462
       have p463 : 0 ≤ (x5_1 : Int) := of_decide_eq_true (by first | (with_reducible assumption) | assumption)
       have q463 : x5_1 < (l0.length : Int) := of_decide_eq_true (by first | (with_reducible assumption) | assumption)
       obtain ⟨ad463, e463, hx463_0, hx463_1⟩ := at_T105 HR0.out x5_1 p463 q463
       obtain rfl : ad462 = ad463 := (by injection e463)
       replace p463 := eq_true p463
       replace q463 := eq_true q463
       go_wp2
       go_roundg k1
       case measure => have := HK1.out; omega
       case rel => exact ⟨(wrap64 ((wrap64 (x1_1 + 1)) + 1)), (wrap64 (x5_1 + 1)), (by first | rfl | (simp; done) | (simp [*]; done)), (by first | rfl | (simp; done) | (simp [*]; done)), H', ⟨by have := HK1.out; omega⟩, by repeat (first | exact Drawn0.refl _ | apply Drawn0.step)⟩
      ·rw [if_neg c6] at H
       have c6b0 : (((rd_T105 l0 x5_1).f1) == (wrap64 (x1_1 + 1))) = false := beq_eq_false_iff_ne.mpr c6
       have c6b1 : (((rd_T105 l0 x5_1).f1) != (wrap64 (x1_1 + 1))) = true := bne_iff_ne.mpr c6
       obtain rfl := Option.some.inj H
       have p462 : 0 ≤ (x5_1 : Int) := of_decide_eq_true (by first | (with_reducible assumption) | assumption)
       have q462 : x5_1 < (l0.length : Int) := of_decide_eq_true (by first | (with_reducible assumption) | assumption)
       obtain ⟨ad462, e462, hx462_0, hx462_1⟩ := at_T105 HR0.out x5_1 p462 q462
       cases e462
       replace p462 := eq_true p462
       replace q462 := eq_true q462
       have p463 : 0 ≤ (x5_1 : Int) := of_decide_eq_true (by first | (with_reducible assumption) | assumption)
       have q463 : x5_1 < (l0.length : Int) := of_decide_eq_true (by first | (with_reducible assumption) | assumption)
       obtain ⟨ad463, e463, hx463_0, hx463_1⟩ := at_T105 HR0.out x5_1 p463 q463
       obtain rfl : ad462 = ad463 := (by injection e463)
       replace p463 := eq_true p463
       replace q463 := eq_true q463
       go_wp2
       go_ret
       exact ⟨by first | rfl | (simp; done) | (simp [*]; done), by repeat (first | exact Drawn0.refl _ | apply Drawn0.step)⟩
     ·rw [if_neg c5] at H
      have c5b0 : (((rd_T105 l0 x5_1).f0) == x1_1) = false := beq_eq_false_iff_ne.mpr c5
      have c5b1 : (((rd_T105 l0 x5_1).f0) != x1_1) = true := bne_iff_ne.mpr c5
      obtain rfl := Option.some.inj H
      have p462 : 0 ≤ (x5_1 : Int) := of_decide_eq_true (by first | (with_reducible assumption) | assumption)
      have q462 : x5_1 < (l0.length : Int) := of_decide_eq_true (by first | (with_reducible assumption) | assumption)
      obtain ⟨ad462, e462, hx462_0, hx462_1⟩ := at_T105 HR0.out x5_1 p462 q462
      cases e462
      replace p462 := eq_true p462
      replace q462 := eq_true q462
      go_wp2
      go_ret
      exact ⟨by first | rfl | (simp; done) | (simp [*]; done), by repeat (first | exact Drawn0.refl _ | apply Drawn0.step)⟩
    ·rw [if_neg c4] at H
     exact absurd H (by simp)
   ·rw [if_neg c3] at H
    have c3b0 : decide (x5_1 < (l0.length : Int)) = false := decide_eq_false c3
    clear c3
    obtain rfl := Option.some.inj H
    go_wp2
    go_ret
    exact ⟨by first | rfl | (simp; done) | (simp [*]; done), by repeat (first | exact Drawn0.refl _ | apply Drawn0.step)⟩

/-! ### laws_heldPartyS: function 27 -/
def laws_heldPartyS.l0 : Nat → List (S33) → Int → Int → Option (Int)
 | 0, _, _, _ => none
 | k + 1, x0, x1, x5 => if x5 < (x0.length : Int) then (if 0 ≤ x5 then (if ((rd_T33 x0 x5).f0) = x1 then ((laws_heldPairS.f k ((rd_T33 x0 x5).f1) (wrap64 (x1 + 1))).bind fun t466 => (if t466 < 0 then (some (-1)) else (laws_heldPartyS.l0 k x0 t466 (wrap64 (x5 + 1))))) else (some (-1))) else (none)) else (some x1)
def laws_heldPartyS.f (k : Nat) (l0 : List (S33)) (a1 : Int) : Option (Int) := laws_heldPartyS.l0 k l0 a1 0
theorem laws_heldPartyS.mono_l : ∀ k, (∀ y0 y1 y2, LeO (laws_heldPartyS.l0 k y0 y1 y2) (laws_heldPartyS.l0 (k + 1) y0 y1 y2))
 | 0 => fun _ _ _ r h => by simp [laws_heldPartyS.l0] at h
 | k + 1 => by
  have ih0 := laws_heldPartyS.mono_l k
  ·intro y0 y1 y2
   unfold laws_heldPartyS.l0
   repeat' first
   | (with_reducible exact ih0 _ _ _)
   | (with_reducible exact laws_heldPairS.mono _ _ _)
   | (with_reducible exact LeO.refl _)
   | (with_reducible exact LeO.none _)
   | (with_reducible refine LeO.ite ?_ ?_)
   | (with_reducible refine LeO.bind ?_ (fun _ => ?_))
   | exact ih0 _ _ _
   | exact laws_heldPairS.mono _ _ _
   | exact LeO.none _
   | refine LeO.ite ?_ ?_
   | refine LeO.bind ?_ (fun _ => ?_)
theorem laws_heldPartyS.mono : ∀ a0 a1 k, LeO (laws_heldPartyS.f k a0 a1) (laws_heldPartyS.f (k + 1) a0 a1) := by
 intro a0 a1 k
 have ih0 := laws_heldPartyS.mono_l k
 unfold laws_heldPartyS.f
 repeat' first
   | (with_reducible exact ih0 _ _ _)
   | (with_reducible exact laws_heldPairS.mono _ _ _)
   | (with_reducible exact LeO.refl _)
   | (with_reducible exact LeO.none _)
   | (with_reducible refine LeO.ite ?_ ?_)
   | (with_reducible refine LeO.bind ?_ (fun _ => ?_))
   | exact ih0 _ _ _
   | exact laws_heldPairS.mono _ _ _
   | exact LeO.none _
   | refine LeO.ite ?_ ?_
   | refine LeO.bind ?_ (fun _ => ?_)
set_option maxHeartbeats 8000000 in
set_option maxRecDepth 100000 in
theorem laws_heldPartyS.calls (k : Nat) (A0 : Option Addr) (c0 : Nat) (l0 : List (S33)) (a1 : Int) (r : Int) (w : World) (hr0 : Kd.C k33 w A0 l0.length l0) (hc0 : l0.length ≤ c0) (h : laws_heldPartyS.f k l0 a1 = some r) :
  Calls Tryd.prog 27 #[.slice A0 l0.length c0, .int .i64 a1] w fun e w' => e = .returned (.int .i64 r) ∧ Drawn0 w w' := by
 have HR0 := Aside0.mk hr0
 have HC0 := Aside0.mk hc0
 clear hr0 hc0
 have H : (laws_heldPartyS.l0 k l0 a1 0) = some r := h
 clear h
 have H' := Aside0.mk H
 clear H
 go_enter Tryd.func27, Tryd.ntmps27
 go_wp2
 go_loopg [1, 5] k (fun kq v1 v5 w' => ∃ (x1_1 : Int) (x5_1 : Int), v1 = .int .i64 x1_1 ∧ v5 = .int .i64 x5_1 ∧ Aside0 (laws_heldPartyS.l0 kq l0 x1_1 x5_1 = some r) ∧ Aside0 (kq ≤ k) ∧ Drawn0 w w')
 case atStart => exact ⟨(a1), (0), (by first | rfl | (simp; done) | (simp [*]; done)), (by first | rfl | (simp; done) | (simp [*]; done)), H', ⟨Nat.le_refl _⟩, by repeat (first | exact Drawn0.refl _ | apply Drawn0.step)⟩
 case round =>
  clear H'
  try clear c2
  try clear p2
  obtain ⟨x1_1, x5_1, rfl, rfl, HA, HK1, ⟨m1, rfl⟩⟩ := hrel
  cases gk with
  | zero => exact absurd HA.out (by simp [laws_heldPartyS.l0])
  | succ k1 =>
   have H := HA.out
   clear HA
   simp only [laws_heldPartyS.l0] at H
   by_cases c3 : x5_1 < (l0.length : Int)
   ·rw [if_pos c3] at H
    have c3b0 : decide (x5_1 < (l0.length : Int)) = true := decide_eq_true c3
    clear c3
    by_cases c4 : 0 ≤ x5_1
    ·rw [if_pos c4] at H
     have c4b0 : decide (0 ≤ x5_1) = true := decide_eq_true c4
     clear c4
     by_cases c5 : ((rd_T33 l0 x5_1).f0) = x1_1
     ·rw [if_pos c5] at H
      have c5b0 : (((rd_T33 l0 x5_1).f0) == x1_1) = true := beq_iff_eq.mpr c5
      have c5b1 : (((rd_T33 l0 x5_1).f0) != x1_1) = false := bne_eq_false_iff_eq.mpr c5
      clear c5
      replace H := Option.bind_eq_some_iff.mp H
      obtain ⟨t466, A60, H⟩ := H
      try dsimp only at H
      have A6 := Aside0.mk A60
      clear A60
      by_cases c7 : t466 < 0
      ·rw [if_pos c7] at H
       have c7b0 : decide (t466 < 0) = true := decide_eq_true c7
       clear c7
       obtain rfl := Option.some.inj H
       have p464 : 0 ≤ (x5_1 : Int) := of_decide_eq_true (by first | (with_reducible assumption) | assumption)
       have q464 : x5_1 < (l0.length : Int) := of_decide_eq_true (by first | (with_reducible assumption) | assumption)
       obtain ⟨ad464, A464_1, c464_1, e464, hx464_0, hx464_1, hl464_1, hi464_1⟩ := at_T33 HR0.out x5_1 p464 q464
       cases e464
       have HR464_1 := Aside0.mk hi464_1
       have HC464_1 := Aside0.mk hl464_1
       clear hi464_1 hl464_1
       replace p464 := eq_true p464
       replace q464 := eq_true q464
       have p465 : 0 ≤ (x5_1 : Int) := of_decide_eq_true (by first | (with_reducible assumption) | assumption)
       have q465 : x5_1 < (l0.length : Int) := of_decide_eq_true (by first | (with_reducible assumption) | assumption)
       obtain ⟨ad465, A465_1, c465_1, e465, hx465_0, hx465_1, hl465_1, hi465_1⟩ := at_T33 HR0.out x5_1 p465 q465
       obtain rfl : ad464 = ad465 := (by injection e465)
       have HR465_1 := Aside0.mk hi465_1
       have HC465_1 := Aside0.mk hl465_1
       clear hi465_1 hl465_1
       replace p465 := eq_true p465
       replace q465 := eq_true q465
       have ea_ := Option.some.inj (hx464_1.symm.trans hx465_1)
       injection ea_ with ea_ en_ ec_
       subst ea_
       subst ec_
       clear en_
       go_wp2_with (first | ((with_reducible refine gate_callee (f := 36) rfl ?_); refine goC (N := some 27) Tryd.func36 #[.slice A464_1 ((rd_T33 l0 x5_1).f1).length c464_1, .int .i64 (wrap64 (x1_1 + 1))] rfl ?_; (with_reducible refine (laws_heldPairS.calls k1 _ _ ((rd_T33 l0 x5_1).f1) (wrap64 (x1_1 + 1)) t466 _ ?side1 ?side2 A6.out).mono ?_); (case side1 => exact cS HR465_1.out); (case side2 => exact HC465_1.out); rintro e w' ⟨rfl, ⟨nd, rfl⟩⟩; refine ⟨_, rfl, ?_⟩))
       go_ret
       exact ⟨by first | rfl | (simp; done) | (simp [*]; done), by repeat (first | exact Drawn0.refl _ | apply Drawn0.step)⟩
      ·rw [if_neg c7] at H
       have c7b0 : decide (t466 < 0) = false := decide_eq_false c7
       clear c7
       have H' := Aside0.mk H
       clear H
       have p464 : 0 ≤ (x5_1 : Int) := of_decide_eq_true (by first | (with_reducible assumption) | assumption)
       have q464 : x5_1 < (l0.length : Int) := of_decide_eq_true (by first | (with_reducible assumption) | assumption)
       obtain ⟨ad464, A464_1, c464_1, e464, hx464_0, hx464_1, hl464_1, hi464_1⟩ := at_T33 HR0.out x5_1 p464 q464
       cases e464
       have HR464_1 := Aside0.mk hi464_1
       have HC464_1 := Aside0.mk hl464_1
       clear hi464_1 hl464_1
       replace p464 := eq_true p464
       replace q464 := eq_true q464
       have p465 : 0 ≤ (x5_1 : Int) := of_decide_eq_true (by first | (with_reducible assumption) | assumption)
       have q465 : x5_1 < (l0.length : Int) := of_decide_eq_true (by first | (with_reducible assumption) | assumption)
       obtain ⟨ad465, A465_1, c465_1, e465, hx465_0, hx465_1, hl465_1, hi465_1⟩ := at_T33 HR0.out x5_1 p465 q465
       obtain rfl : ad464 = ad465 := (by injection e465)
       have HR465_1 := Aside0.mk hi465_1
       have HC465_1 := Aside0.mk hl465_1
       clear hi465_1 hl465_1
       replace p465 := eq_true p465
       replace q465 := eq_true q465
       have ea_ := Option.some.inj (hx464_1.symm.trans hx465_1)
       injection ea_ with ea_ en_ ec_
       subst ea_
       subst ec_
       clear en_
       go_wp2_with (first | ((with_reducible refine gate_callee (f := 36) rfl ?_); refine goC (N := some 27) Tryd.func36 #[.slice A464_1 ((rd_T33 l0 x5_1).f1).length c464_1, .int .i64 (wrap64 (x1_1 + 1))] rfl ?_; (with_reducible refine (laws_heldPairS.calls k1 _ _ ((rd_T33 l0 x5_1).f1) (wrap64 (x1_1 + 1)) t466 _ ?side1 ?side2 A6.out).mono ?_); (case side1 => exact cS HR465_1.out); (case side2 => exact HC465_1.out); rintro e w' ⟨rfl, ⟨nd, rfl⟩⟩; refine ⟨_, rfl, ?_⟩))
       go_roundg k1
       case measure => have := HK1.out; omega
       case rel => exact ⟨(t466), (wrap64 (x5_1 + 1)), (by first | rfl | (simp; done) | (simp [*]; done)), (by first | rfl | (simp; done) | (simp [*]; done)), H', ⟨by have := HK1.out; omega⟩, by repeat (first | exact Drawn0.refl _ | apply Drawn0.step)⟩
     ·rw [if_neg c5] at H
      have c5b0 : (((rd_T33 l0 x5_1).f0) == x1_1) = false := beq_eq_false_iff_ne.mpr c5
      have c5b1 : (((rd_T33 l0 x5_1).f0) != x1_1) = true := bne_iff_ne.mpr c5
      obtain rfl := Option.some.inj H
      have p464 : 0 ≤ (x5_1 : Int) := of_decide_eq_true (by first | (with_reducible assumption) | assumption)
      have q464 : x5_1 < (l0.length : Int) := of_decide_eq_true (by first | (with_reducible assumption) | assumption)
      obtain ⟨ad464, A464_1, c464_1, e464, hx464_0, hx464_1, hl464_1, hi464_1⟩ := at_T33 HR0.out x5_1 p464 q464
      cases e464
      have HR464_1 := Aside0.mk hi464_1
      have HC464_1 := Aside0.mk hl464_1
      clear hi464_1 hl464_1
      replace p464 := eq_true p464
      replace q464 := eq_true q464
      go_wp2
      go_ret
      exact ⟨by first | rfl | (simp; done) | (simp [*]; done), by repeat (first | exact Drawn0.refl _ | apply Drawn0.step)⟩
    ·rw [if_neg c4] at H
     exact absurd H (by simp)
   ·rw [if_neg c3] at H
    have c3b0 : decide (x5_1 < (l0.length : Int)) = false := decide_eq_false c3
    clear c3
    obtain rfl := Option.some.inj H
    go_wp2
    go_ret
    exact ⟨by first | rfl | (simp; done) | (simp [*]; done), by repeat (first | exact Drawn0.refl _ | apply Drawn0.step)⟩

/-! ### laws_FnExactSolutions: function 4 (a text of this session's own) -/

def laws_FnExactSolutions.T10 : Bool × List (List Nat × List Nat) := (true, [([], []), ([], []), ([1], [1]), ([0, 2, 2], [0, 2]), ([3], [3])])
def laws_FnExactSolutions.B10 : List Nat := [0, 0, 2, 7, 15]
theorem laws_FnExactSolutions.tab10 : rtab .any (opsOf Tryd.f4 10) = laws_FnExactSolutions.T10 := by kernel_rfl
theorem laws_FnExactSolutions.bits10 : waitsOk laws_FnExactSolutions.T10.2 laws_FnExactSolutions.B10 = true := by kernel_rfl
def laws_FnExactSolutions.f (k : Nat) (a0 : Int) (l0 : List S126) : Option Bool := (laws_szPuzzle.f a0 l0 1048576).bind fun t => if t < 0 then some true else ((laws_toPuzzle.f k a0 l0).bind fun p => (spec_Solutions.f k p.1 p.2).bind fun sw => (impl_Solutions.f k p.1 p.2).bind fun sg => (laws_eqPartyS.f k sg.1 sw.1).bind fun e1 => if e1 = true then (if sg.2 = sw.2 then ((laws_eqPuzzle.f k p.1 p.2 p.1 p.2).bind fun e2 => if e2 = true then ((laws_markPuzzle.f k p.1 p.2 1).bind fun m1 => if m1.1 < 0 then none else ((laws_markPartyS.f k sg.1 1).bind fun mp => (laws_heldPartyS.f k mp.2 1).bind fun hh => if hh < 0 then none else (if hh = mp.1 then some true else none))) else none) else none) else none)
set_option maxHeartbeats 8000000 in
set_option maxRecDepth 100000 in
theorem laws_FnExactSolutions.calls (k : Nat) (a0 : Int) (A0 : Option Addr) (c0 : Nat) (l0 : List S126) (r : Bool) (w : World) (hr : Kd.C k126 w A0 l0.length l0) (hc : l0.length ≤ c0) (h : laws_FnExactSolutions.f k a0 l0 = some r) (hG : GTab 0 w := by first | exact Aside0.out ‹Aside0 (GTab _ _)› | exact GTab.up (Aside0.out ‹Aside0 (GTab _ _)›) (by repeat (first | (with_reducible first | exact Below.refl _ _ | exact Aside0.out ‹Aside0 (Below _ _ _)› | apply below_alloc | apply pw_below_drewN | apply below_drew1 | refine below_set ?_ (Aside0.out (by assumption))) | exact Aside0.out ‹Aside0 (Below _ _ _)›))) :
    Calls Tryd.prog 4 #[.agg #[.int .i64 a0, .slice A0 l0.length c0]] w fun e w' => e = .returned (.bool r) ∧ Below w.heap.size w w' := by
  have hu42 := Tryd.underlying42
  have hu28 := Tryd.underlying28
  have hu33 := Tryd.underlying33
  have HR := Aside0.mk hr
  have HC := Aside0.mk hc
  have HG := Aside0.mk hG
  clear hr hc hG
  unfold laws_FnExactSolutions.f at h
  replace h := Option.bind_eq_some_iff.mp h
  obtain ⟨t, ht, h⟩ := h
  have HT := Aside0.mk ht
  clear ht
  by_cases c5 : t < 0
  · rw [if_pos c5] at h
    obtain rfl := Option.some.inj h
    have c5b : decide (t < 0) = true := decide_eq_true c5
    clear c5 h
    go_enter Tryd.func4, Tryd.ntmps4
    go_wp2_with (first
      | ((with_reducible refine gate_dst (N := 1) rfl ?_); refine bxE 1 #[.int .i64 a0, .slice A0 l0.length c0] 42 rfl ?_; intro g1 hg w1 hbox hb; have BK1 := Aside0.mk hbox; have HB1 := Aside0.mk hb; have hp0 := cz BK1 0; have hp1 := cz BK1 1; clear hg hbox hb)
      | ((with_reducible refine gate_dst (N := 16) rfl ?_); refine goC (N := some 16) Tryd.func21 #[.agg #[.int .i64 a0, .slice A0 l0.length c0], .int .i64 1048576] rfl ?_; refine (laws_szPuzzle.calls a0 A0 c0 l0 1048576 t _ (Kd.C_below HR.out HB1.out) HC.out HT.out).mono ?_; rintro e w2 ⟨rfl, hb⟩; refine ⟨_, rfl, ?_⟩; replace BK1 := bS BK1 hb; have HB2 := Aside0.mk (below_step HB1.out hb); clear hb; clear hp0 hp1; have hp0 := cz BK1 0; have hp1 := cz BK1 1))
    go_ret
    exact ⟨rfl, by first | exact HB2.out | exact pw_below_drewN HB2.out _⟩
  · rw [if_neg c5] at h
    have c5b : decide (t < 0) = false := decide_eq_false c5
    clear c5
    replace h := Option.bind_eq_some_iff.mp h
    obtain ⟨⟨p1, p2⟩, hp, h⟩ := h
    replace h := Option.bind_eq_some_iff.mp h
    obtain ⟨⟨sw, bw⟩, hsw, h⟩ := h
    replace h := Option.bind_eq_some_iff.mp h
    obtain ⟨⟨sg, b⟩, hsg, h⟩ := h
    replace h := Option.bind_eq_some_iff.mp h
    obtain ⟨e1, he1, h⟩ := h
    cases e1 with
    | false => simp at h
    | true =>
      rw [if_pos rfl] at h
      dsimp only at h
      by_cases cb : b = bw
      · rw [if_pos cb] at h
        subst cb
        replace h := Option.bind_eq_some_iff.mp h
        obtain ⟨e2, he2, h⟩ := h
        cases e2 with
        | false => simp at h
        | true =>
          rw [if_pos rfl] at h
          replace h := Option.bind_eq_some_iff.mp h
          obtain ⟨⟨m1, m2⟩, hm, h⟩ := h
          by_cases cm : m1 < 0
          · rw [if_pos cm] at h; cases h
          · rw [if_neg cm] at h
            replace h := Option.bind_eq_some_iff.mp h
            obtain ⟨⟨q1, q2⟩, hq, h⟩ := h
            replace h := Option.bind_eq_some_iff.mp h
            obtain ⟨hh, hhh, h⟩ := h
            by_cases ch : hh < 0
            · rw [if_pos ch] at h; cases h
            · rw [if_neg ch] at h
              by_cases cq : hh = q1
              · rw [if_pos cq] at h
                obtain rfl := Option.some.inj h
                subst cq
                have HP := Aside0.mk hp
                have HSW := Aside0.mk hsw
                have HSG := Aside0.mk hsg
                have HE1 := Aside0.mk he1
                have HE2 := Aside0.mk he2
                have HM := Aside0.mk hm
                have HQ := Aside0.mk hq
                have HH := Aside0.mk hhh
                have cmb : decide (m1 < 0) = false := decide_eq_false cm
                have chb : decide (hh < 0) = false := decide_eq_false ch
                have cqb : (hh != hh) = false := bne_self_eq_false hh
                have cbb : (b != b) = false := bne_self_eq_false b
                clear hp hsw hsg he1 he2 hm hq hhh cm ch h
                go_enter Tryd.func4, Tryd.ntmps4
                go_wp2_with (first
                  | ((with_reducible refine gate_dst (N := 1) rfl ?_); refine bxE 1 #[.int .i64 a0, .slice A0 l0.length c0] 42 rfl ?_; intro g1 hg w1 hbox hb; have BK1 := Aside0.mk hbox; have HB1 := Aside0.mk hb; have hp0 := cz BK1 0; have hp1 := cz BK1 1; clear hg hbox hb)
                  | ((with_reducible refine gate_dst (N := 16) rfl ?_); refine goC (N := some 16) Tryd.func21 #[.agg #[.int .i64 a0, .slice A0 l0.length c0], .int .i64 1048576] rfl ?_; refine (laws_szPuzzle.calls a0 A0 c0 l0 1048576 t _ (Kd.C_below HR.out HB1.out) HC.out HT.out).mono ?_; rintro e w2 ⟨rfl, hb⟩; refine ⟨_, rfl, ?_⟩; replace BK1 := bS BK1 hb; have HB2 := Aside0.mk (below_step HB1.out hb); clear hb; clear hp0 hp1; have hp0 := cz BK1 0; have hp1 := cz BK1 1)
                  | ((with_reducible refine gate_dst (N := 21) rfl ?_); refine goC (N := some 21) Tryd.func23 #[.agg #[.int .i64 a0, .slice A0 l0.length c0]] rfl ?_; refine (laws_toPuzzle.calls k a0 A0 c0 l0 p1 p2 _ (Kd.C_below HR.out HB2.out) HC.out HP.out).mono ?_; rintro e w3 ⟨v21, rfl, ho, hb⟩; refine ⟨_, rfl, ?_⟩; replace BK1 := bS BK1 hb; have HB3 := Aside0.mk (below_step HB2.out hb); have HO21 := Aside0.mk ho; clear ho hb; clear hp0 hp1; have hp0 := cz BK1 0; have hp1 := cz BK1 1; obtain ⟨A21, c21, rfl⟩ := Kd.R_slice HO21.out)
                  | ((with_reducible refine gate_dst (N := 22) rfl ?_); refine goC (N := some 22) Tryd.func22 #[.agg #[.int .i64 p1, .slice A21 p2.length c21]] rfl ?_; refine (spec_Solutions.calls k p1 A21 c21 p2 sw b _ (Kd.R_reads' HO21.out).2.2 (Kd.R_reads' HO21.out).2.1 HSW.out).mono ?_; rintro e w4 ⟨v22, rfl, ho, hb⟩; refine ⟨_, rfl, ?_⟩; replace BK1 := bS BK1 hb; have HB4 := Aside0.mk (below_step HB3.out hb); have HO22 := Aside0.mk ho; have L14 := Aside0.mk (blk_lt BK1.out); have BK14 := BK1; clear ho hb; clear hp0 hp1; have hp0 := cz BK1 0; have hp1 := cz BK1 1; obtain ⟨A22, c22, rfl⟩ := Kd.N_slice HO22.out; have HC22 := Aside0.mk (Kd.N_reads' HO22.out))
                  | ((with_reducible refine gate_dst (N := 26) rfl ?_); refine goC (N := some 26) Tryd.func23 #[.agg #[.int .i64 a0, .slice A0 l0.length c0]] rfl ?_; refine (laws_toPuzzle.calls k a0 A0 c0 l0 p1 p2 _ (Kd.C_below HR.out HB4.out) HC.out HP.out).mono ?_; rintro e w5 ⟨v26, rfl, ho, hb⟩; refine ⟨_, rfl, ?_⟩; replace BK1 := bS BK1 hb; have HB5 := Aside0.mk (below_step HB4.out hb); have H45 := Aside0.mk hb; have HO26 := Aside0.mk (Kd.R_mono (ok' := fun k_ => w4.heap.size ≤ k_ ∧ k_ < w5.heap.size) (Kd.R_bound ho) (fun k_ hk => ⟨hk.2.1, hk.2.2.1⟩)); clear ho hb; clear hp0 hp1; have hp0 := cz BK1 0; have hp1 := cz BK1 1; obtain ⟨A26, c26, rfl⟩ := Kd.R_slice HO26.out)
                  | ((with_reducible refine gate_dst (N := 6) rfl ?_); refine bxE 6 #[.int .i64 0, .slice none 0 0] 28 rfl ?_; intro g6 hg w6 hbox hb; have BK6 := Aside0.mk hbox; have G6 := Aside0.mk (show g6 = w5.heap.size from hg); have H56 := Aside0.mk hb; have NB := Aside0.mk (show g1 ≠ g6 by have := blk_lt BK1.out; omega); have hz0 := cz BK6 0; have hz1 := cz BK6 1; have hz2 := fz BK6 0; have hz3 := fz BK6 1; clear hg hbox hb)
                  | ((with_reducible refine gate_dst (N := 29) rfl ?_); refine goC (N := some 29) Tryd.func24 #[.agg #[.int .i64 p1, .slice A26 p2.length c26]] rfl ?_; refine (impl_Solutions.calls k p1 A26 c26 p2 sg b _ (Kd.C_below (Kd.R_reads' HO26.out).2.2 (below_set (below_set H56.out (Nat.le_of_eq G6.out.symm)) (Nat.le_of_eq G6.out.symm))) (Kd.R_reads' HO26.out).2.1 HSG.out (GTab.up HG.out (below_step HB5.out (below_set (below_set H56.out (Nat.le_of_eq G6.out.symm)) (Nat.le_of_eq G6.out.symm))))).mono ?_; rintro e w7 ⟨v29, rfl, ho, hb⟩; refine ⟨_, rfl, ?_⟩; have BKa := Aside0.mk (show ((w6.setCell ⟨g6, 0, none⟩ (.int .i64 p1)).setCell ⟨g6, 1, none⟩ (.slice A26 p2.length c26)).heap[g6]? = some (.cells #[.int .i64 p1, .slice A26 p2.length c26] 28 (0, 0)) from blk_set (blk_set BK6.out 0 _) 1 _); have BKb := Aside0.mk (show ((w6.setCell ⟨g6, 0, none⟩ (.int .i64 p1)).setCell ⟨g6, 1, none⟩ (.slice A26 p2.length c26)).heap[g1]? = some (.cells #[.int .i64 a0, .slice A0 l0.length c0] 42 (0, 0)) from blk_far (blk_far (blk_below BK1.out H56.out) NB.out _) NB.out _); have H5w := Aside0.mk (show Below w5.heap.size w5 ((w6.setCell ⟨g6, 0, none⟩ (.int .i64 p1)).setCell ⟨g6, 1, none⟩ (.slice A26 p2.length c26)) from below_set (below_set H56.out (Nat.le_of_eq G6.out.symm)) (Nat.le_of_eq G6.out.symm)); have HO29 := Aside0.mk (Kd.S_mono (ok' := fun k_ => w5.heap.size ≤ k_) (Kd.S_bound ho) (fun k_ hk => Nat.le_trans H5w.out.size hk.2.1)); have H57 := Aside0.mk (below_step H5w.out hb); have BK7 := Aside0.mk (blk_below BKa.out hb); have BKc := Aside0.mk (blk_below BKb.out hb); have HBs := Aside0.mk (Kd.S_lower HO29.out (Nat.le_trans H45.out.size H5w.out.size)); clear ho hb hp0 hp1 hz0 hz1 hz2 hz3 BK1 BK6 BKa BKb; have BK1 := BKc; have BK6 := BK7; clear BKc BK7; obtain ⟨A29, c29, rfl⟩ := Kd.S_slice HO29.out)
                  | ((with_reducible refine gate_dst (N := 34) rfl ?_); refine goC (N := some 34) Tryd.func25 #[.slice A29 sg.length c29, .slice A22 sw.length c22] rfl ?_; refine (laws_eqPartyS.calls k A29 c29 sg A22 c22 sw true _ (Kd.S_reads' HO29.out).2.2 (Kd.S_reads' HO29.out).2.1 (Kd.C_below HC22.out.2.2 (H45.out.trans (H57.out.mono H45.out.size))) HC22.out.2.1 HE1.out).mono ?_; rintro e w8 ⟨rfl, hb⟩; refine ⟨_, rfl, ?_⟩; have HO8 := Aside0.mk (Kd.S_below HBs.out hb); have H58 := Aside0.mk (below_step H57.out hb); replace BK1 := bS BK1 hb; replace BK6 := bS BK6 hb; clear hb))
                have SW := Aside0.mk (fun (W' : World) (hb : Below w8.heap.size w8 W') => (⟨pw_cell_below hb ((blk_cell BK6.out 0).trans rfl), pw_cell_below hb ((blk_cell BK6.out 1).trans rfl), pw_cell_below hb ((blk_cell BK1.out 0).trans rfl), pw_cell_below hb ((blk_cell BK1.out 1).trans rfl)⟩ : (fun w' : World => w'.cell? ⟨g6, 0, none⟩ = some (.int .i64 p1) ∧ w'.cell? ⟨g6, 1, none⟩ = some (.slice A26 p2.length c26) ∧ w'.cell? ⟨g1, 0, none⟩ = some (.int .i64 a0) ∧ w'.cell? ⟨g1, 1, none⟩ = some (.slice A0 l0.length c0)) W'))
                refine start_ (n := 5) (S := fun w' => w'.cell? ⟨g6, 0, none⟩ = some (.int .i64 p1) ∧ w'.cell? ⟨g6, 1, none⟩ = some (.slice A26 p2.length c26) ∧ w'.cell? ⟨g1, 0, none⟩ = some (.int .i64 a0) ∧ w'.cell? ⟨g1, 1, none⟩ = some (.slice A0 l0.length c0)) (ds := []) (bz 5 0) (by kernel_rfl) rfl rfl (SW.out _ (by repeat (first | exact Below.refl _ _ | apply below_drew1 | apply pw_below_drewN))) (fun hHeld => ?_)
                refine with_tabW laws_FnExactSolutions.tab10 laws_FnExactSolutions.bits10 (fun HT_ HW_ => ?_)
                have HBd := Aside0.mk (show Below w8.heap.size w8 w8.drew from (by repeat (first | exact Below.refl _ _ | apply below_drew1 | apply pw_below_drewN)))
                generalize w8.drew = w8d at HBd hHeld ⊢
                refine run_ [(1, 0, 1, some 41), (1, 1, 3, some 42)] ?_
                repeat (first | (apply tag0; refine run_p (v := ?_) (a' := ?_) rfl rfl (any_of HT_.out (by kernel_rfl)) (fun _ _ _ h => h) (by rfl) ?_ ?_ ?_; rotate_left 2; (intro w'; go_simp; with_reducible rfl); (first | (simp only [Act.put, List.setIfInBounds_toArray, List.set_cons_zero, List.set_cons_succ, i64_w, i32_w]; rfl) | rfl)) | (apply tag1; refine run_t (v := ?_) (a' := ?_) rfl rfl (take_ofW HT_.out HW_.out (by kernel_rfl)) (fun _ _ _ h => h) (by rfl) ?_ hHeld ?_ ?_; rotate_left 2; (rintro w' ⟨s0, s1, s2, s3⟩; go_simp; with_reducible rfl); (first | (simp only [Act.put, List.setIfInBounds_toArray, List.set_cons_zero, List.set_cons_succ, i64_w, i32_w]; rfl) | rfl)))
                refine run_nil ?_
                refine one_ (i := 2) (N := some 43) (bz 5 7) rfl rfl (one_of HT_.out (by kernel_rfl)) (by decide) (fun K hK => ?_)
                refine goes_ Tryd.func23 (by kernel_rfl) rfl #[.agg #[.int .i64 a0, .slice A0 l0.length c0]] (by rfl) rfl rfl mapT ?_
                refine (laws_toPuzzle.calls k a0 A0 c0 l0 p1 p2 _ (Kd.C_below HR.out (below_step HB5.out (below_step H58.out HBd.out))) HC.out HP.out).mono ?_
                rintro e w9 ⟨v43, rfl, ho, hb⟩
                refine ⟨_, rfl, ?_⟩
                have H89 := Aside0.mk (below_step HBd.out hb)
                have HO43 := Aside0.mk ho
                clear ho hb
                obtain ⟨A43, c43, rfl⟩ := Kd.R_slice HO43.out
                refine hK.out _ _ (SW.out _ H89.out) (fun hHeld2 => ?_)
                clear hK K
                refine norm_ (a' := ?_) ?_ ?_
                rotate_left
                · show Act.put _ (some 43) _ = _
                  simp only [Act.put, List.setIfInBounds_toArray, List.set_cons_zero, List.set_cons_succ, i64_w, i32_w]
                  rfl
                refine one_ (i := 3) (N := some 44) (bz 5 15) rfl rfl (one_of HT_.out (by kernel_rfl)) (by decide) (fun K hK => ?_)
                refine goes_ Tryd.func16 (by kernel_rfl) rfl #[.agg #[.int .i64 p1, .slice A26 p2.length c26], .agg #[.int .i64 p1, .slice A43 p2.length c43]] (by rfl) rfl rfl mapT ?_
                refine (laws_eqPuzzle.calls k p1 A26 c26 p2 p1 A43 c43 p2 true _ (Kd.C_below (Kd.C_below (Kd.R_reads' HO26.out).2.2 H58.out) H89.out) (Kd.R_reads' HO26.out).2.1 (Kd.R_reads' HO43.out).2.2 (Kd.R_reads' HO43.out).2.1 HE2.out).mono ?_
                rintro e w10 ⟨rfl, hb⟩
                refine ⟨_, rfl, ?_⟩
                have H810 := Aside0.mk (below_step H89.out hb)
                clear hb
                refine hK.out _ _ (SW.out _ H810.out) (fun hHeld3 => ?_)
                clear hK K
                refine norm_ (a' := ?_) ?_ ?_
                rotate_left
                · show Act.put _ (some 44) _ = _
                  simp only [Act.put, List.setIfInBounds_toArray, List.set_cons_zero, List.set_cons_succ, i64_w, i32_w]
                  rfl
                refine run_ [(0, 4, 31, some 45)] ?_
                repeat (first | (apply tag0; refine run_p (v := ?_) (a' := ?_) rfl rfl (any_of HT_.out (by kernel_rfl)) (fun _ _ _ h => h) (by rfl) ?_ ?_ ?_; rotate_left 2; (intro w'; go_simp; with_reducible rfl); (first | (simp only [Act.put, List.setIfInBounds_toArray, List.set_cons_zero, List.set_cons_succ, i64_w, i32_w]; rfl) | rfl)))
                refine run_nil ?_
                refine done_ (done_of HT_.out (by kernel_rfl)) ?_
                have H510 := Aside0.mk (below_step H58.out H810.out)
                have HO10 := Aside0.mk (Kd.S_below HO8.out H810.out)
                replace BK6 := Aside0.mk (blk_below BK6.out H810.out)
                clear HT_ HW_ hHeld hHeld2 hHeld3 SW BK1
                have hz0 := cz BK6 0
                have hz1 := cz BK6 1
                go_wp2_with (first
                  | ((with_reducible refine gate_dst (N := 48) rfl ?_); refine goC (N := some 48) Tryd.func19 #[.agg #[.int .i64 p1, .slice A26 p2.length c26], .int .i64 1] rfl ?_; refine (laws_markPuzzle.calls k p1 (fun k_ => w4.heap.size ≤ k_ ∧ k_ < w5.heap.size) (.slice A26 p2.length c26) p2 1 m1 m2 w4 _ (H45.out.trans (H510.out.mono H45.out.size)) (Kd.R_below HO26.out H510.out) HM.out).mono ?_; rintro e w11 ⟨rfl, hr3, hb, hkp⟩; refine ⟨_, rfl, ?_⟩; have H411 := Aside0.mk hb; have HO11 := Aside0.mk (Kd.S_step HO10.out (fun k_ hk hlt => hkp.2 k_ hlt (fun h_ => by have := hk; have := h_.2; omega))); clear hr3 hb hkp hz0 hz1 BK6)
                  | ((with_reducible refine gate_dst (N := 64) rfl ?_); refine goC (N := some 64) Tryd.func26 #[.slice A29 sg.length c29, .int .i64 1] rfl ?_; refine (laws_markPartyS.calls k (fun _ => True) (.slice A29 sg.length c29) sg 1 hh q2 w4 _ H412.out (Kd.S_mono HO12.out (fun _ _ => trivial)) HQ.out).mono ?_; rintro e w13 ⟨rfl, hs3, hb, hkp⟩; refine ⟨_, rfl, ?_⟩; have HO13 := Aside0.mk hs3; have H413 := Aside0.mk hb; have E3 := Aside0.mk (Kd.S_reads' hs3).1; have BK1 := Aside0.mk ((hb.block g1 L14.out).trans BK14.out); have HW13 := Aside0.mk (HB4.out.trans (hb.mono HB4.out.size)); clear hs3 hb hkp; have hp0 := cz BK1 0; have hp1 := cz BK1 1)
                  | ((with_reducible refine gate_dst (N := 67) rfl ?_); refine goC (N := some 67) Tryd.func27 #[.slice A29 sg.length c29, .int .i64 1] rfl ?_; have hcl := laws_heldPartyS.calls k A29 c29 q2 1 hh w13 (Kd.S_reads' HO13.out).2.2 (by rw [← E3.out]; exact (Kd.S_reads' HO13.out).2.1) HH.out; rw [← E3.out] at hcl; refine hcl.mono ?_; clear hcl; rintro e w14 ⟨rfl, ⟨nd, rfl⟩⟩; refine ⟨_, rfl, ?_⟩)
                  | ((with_reducible refine gate_dst (N := 75) rfl ?_); refine goC (N := some 75) Tryd.func23 #[.agg #[.int .i64 a0, .slice A0 l0.length c0]] rfl ?_; refine (laws_toPuzzle.calls k a0 A0 c0 l0 p1 p2 _ (Kd.C_below HR.out (pw_below_drewN HW13.out nd)) HC.out HP.out).mono ?_; rintro e w15 ⟨v75, rfl, ho, hb⟩; refine ⟨_, rfl, ?_⟩; have H1315 := Aside0.mk (below_step (pw_below_drewN (Below.refl w13.heap.size w13) nd) hb); have HO75 := Aside0.mk ho; clear ho hb hp0 hp1; obtain ⟨A75, c75, rfl⟩ := Kd.R_slice HO75.out)
                  | ((with_reducible refine gate_dst (N := 76) rfl ?_); refine goC (N := some 76) Tryd.func24 #[.agg #[.int .i64 p1, .slice A75 p2.length c75]] rfl ?_; refine (impl_Solutions.calls k p1 A75 c75 p2 sg b _ (Kd.R_reads' HO75.out).2.2 (Kd.R_reads' HO75.out).2.1 HSG.out (GTab.up HG.out (below_step HW13.out H1315.out))).mono ?_; rintro e w16 ⟨v76, rfl, ho, hb⟩; refine ⟨_, rfl, ?_⟩; have H1316 := Aside0.mk (below_step H1315.out hb); have HO76 := Aside0.mk ho; clear ho hb; obtain ⟨A76, c76, rfl⟩ := Kd.S_slice HO76.out)
                  | ((with_reducible refine gate_dst (N := 81) rfl ?_); refine goC (N := some 81) Tryd.func25 #[.slice A76 sg.length c76, .slice A22 sw.length c22] rfl ?_; refine (laws_eqPartyS.calls k A76 c76 sg A22 c22 sw true _ (Kd.S_reads' HO76.out).2.2 (Kd.S_reads' HO76.out).2.1 (Kd.C_below HC22.out.2.2 (H413.out.trans (H1316.out.mono H413.out.size))) HC22.out.2.1 HE1.out).mono ?_; rintro e w17 ⟨rfl, hb⟩; refine ⟨_, rfl, ?_⟩; have H1317 := Aside0.mk (below_step H1316.out hb); clear hb)
                  | ((with_reducible refine gate_dst (N := 90) rfl ?_); refine goC (N := some 90) Tryd.func27 #[.slice A29 sg.length c29, .int .i64 1] rfl ?_; have hcl := laws_heldPartyS.calls k A29 c29 q2 1 hh w17 (Kd.C_below (Kd.S_reads' HO13.out).2.2 H1317.out) (by rw [← E3.out]; exact (Kd.S_reads' HO13.out).2.1) HH.out; rw [← E3.out] at hcl; refine hcl.mono ?_; clear hcl; rintro e w18 ⟨rfl, ⟨nd2, rfl⟩⟩; refine ⟨_, rfl, ?_⟩)
                  | (go_at_call 25; refine (laws_eqPartyS.calls k A29 c29 sg A22 c22 sw true _ (Kd.S_reads' HO11.out).2.2 (Kd.S_reads' HO11.out).2.1 (Kd.C_below HC22.out.2.2 H411.out) HC22.out.2.1 HE1.out).mono ?_; rintro e w12 ⟨rfl, hb⟩; have HO12 := Aside0.mk (Kd.S_below HO11.out hb); have H412 := Aside0.mk (below_step H411.out hb); clear hb))
                go_ret
                exact ⟨rfl, pw_below_drewN (below_step HW13.out H1317.out) nd2⟩
              · rw [if_neg cq] at h; cases h
      · rw [if_neg cb] at h; cases h

end Go.Proofs.YtjpfbkkikcpmhaaDoor.PFnExactSolutions
