-- Of this session's own program wip/gen/gen.py (it drives the kit's print): contracts of the functions that the law reaches.
import Derived.Test.YtjpfbkkikcpmhaaDoorPFnExactAllGroupsx0
import Derived.Test.YtjpfbkkikcpmhaaDoorPFnExactAllGroupsx1
import Derived.Test.YtjpfbkkikcpmhaaDoorPFnExactAllGroupsx4
import Derived.Test.YtjpfbkkikcpmhaaDoorPFnExactAllGroupsx6
namespace Go.Proofs.YtjpfbkkikcpmhaaDoor.PFnExactAllGroups
open Go.RowKit Go.Proofs.YtjpfbkkikcpmhaaDoorW.PrintWords Go.Proofs.YtjpfbkkikcpmhaaDoorW.PrintLast Go.Proofs.YtjpfbkkikcpmhaaDoorW.PrintMore Go.Proofs.YtjpfbkkikcpmhaaDoor.Base
attribute [local go_sem] max2_int min2_int max_two min_two max_three min_three max_four min_four   -- for this text's walks alone
set_option linter.unusedVariables false
set_option linter.unusedSimpArgs false

/-! ### laws_eqIntSS: function 41 -/
def laws_eqIntSS.l0 : Nat → List (List Int) → List (List Int) → Int → Option (Bool)
 | 0, _, _, _ => none
 | k + 1, x0, x1, x5 => if x5 < (x0.length : Int) then (if 0 ≤ x5 then (if x5 < (x1.length : Int) then ((laws_eqIntS.f k (rd_L6 x0 x5) (rd_L6 x1 x5)).bind fun t236 => (if t236 = true then (laws_eqIntSS.l0 k x0 x1 (wrap64 (x5 + 1))) else (some false))) else (none)) else (none)) else (some true)
def laws_eqIntSS.f (k : Nat) (l0 : List (List Int)) (l1 : List (List Int)) : Option (Bool) := if (l0.length : Int) = (l1.length : Int) then (laws_eqIntSS.l0 k l0 l1 0) else (some false)
theorem laws_eqIntSS.mono_l : ∀ k, (∀ y0 y1 y2, LeO (laws_eqIntSS.l0 k y0 y1 y2) (laws_eqIntSS.l0 (k + 1) y0 y1 y2))
 | 0 => fun _ _ _ r h => by simp [laws_eqIntSS.l0] at h
 | k + 1 => by
  have ih0 := laws_eqIntSS.mono_l k
  ·intro y0 y1 y2
   unfold laws_eqIntSS.l0
   repeat' first
   | (with_reducible exact ih0 _ _ _)
   | (with_reducible exact laws_eqIntS.mono _ _ _)
   | (with_reducible exact LeO.refl _)
   | (with_reducible exact LeO.none _)
   | (with_reducible refine LeO.ite ?_ ?_)
   | (with_reducible refine LeO.bind ?_ (fun _ => ?_))
   | exact ih0 _ _ _
   | exact laws_eqIntS.mono _ _ _
   | exact LeO.none _
   | refine LeO.ite ?_ ?_
   | refine LeO.bind ?_ (fun _ => ?_)
theorem laws_eqIntSS.mono : ∀ a0 a1 k, LeO (laws_eqIntSS.f k a0 a1) (laws_eqIntSS.f (k + 1) a0 a1) := by
 intro a0 a1 k
 have ih0 := laws_eqIntSS.mono_l k
 unfold laws_eqIntSS.f
 repeat' first
   | (with_reducible exact ih0 _ _ _)
   | (with_reducible exact laws_eqIntS.mono _ _ _)
   | (with_reducible exact LeO.refl _)
   | (with_reducible exact LeO.none _)
   | (with_reducible refine LeO.ite ?_ ?_)
   | (with_reducible refine LeO.bind ?_ (fun _ => ?_))
   | exact ih0 _ _ _
   | exact laws_eqIntS.mono _ _ _
   | exact LeO.none _
   | refine LeO.ite ?_ ?_
   | refine LeO.bind ?_ (fun _ => ?_)
set_option maxHeartbeats 8000000 in
set_option maxRecDepth 100000 in
theorem laws_eqIntSS.calls (k : Nat) (A0 : Option Addr) (c0 : Nat) (l0 : List (List Int)) (A1 : Option Addr) (c1 : Nat) (l1 : List (List Int)) (r : Bool) (w : World) (hr0 : Kd.C (Kd.slice 3 (Kd.int .i64)) w A0 l0.length l0) (hc0 : l0.length ≤ c0) (hr1 : Kd.C (Kd.slice 3 (Kd.int .i64)) w A1 l1.length l1) (hc1 : l1.length ≤ c1) (h : laws_eqIntSS.f k l0 l1 = some r) :
  Calls Tryd.prog 41 #[.slice A0 l0.length c0, .slice A1 l1.length c1] w fun e w' => e = .returned (.bool r) ∧ Drawn0 w w' := by
 have HR0 := Aside0.mk hr0
 have HC0 := Aside0.mk hc0
 clear hr0 hc0
 have HR1 := Aside0.mk hr1
 have HC1 := Aside0.mk hc1
 clear hr1 hc1
 have H : (if (l0.length : Int) = (l1.length : Int) then (laws_eqIntSS.l0 k l0 l1 0) else (some false)) = some r := h
 clear h
 by_cases c3 : (l0.length : Int) = (l1.length : Int)
 ·rw [if_pos c3] at H
  have c3b0 : ((l0.length : Int) == (l1.length : Int)) = true := beq_iff_eq.mpr c3
  have c3b1 : ((l0.length : Int) != (l1.length : Int)) = false := bne_eq_false_iff_eq.mpr c3
  have c3b2 : (l0.length == l1.length) = true := by first | simpa using c3 | (simp at c3 ⊢; omega)
  clear c3
  have H' := Aside0.mk H
  clear H
  go_enter Tryd.func41, Tryd.ntmps41
  go_wp2
  repeat (go_quiet (fail); try go_wp2)
  go_loopg [5] k (fun kq v5 w' => ∃ (x5_1 : Int), v5 = .int .i64 x5_1 ∧ Aside0 (laws_eqIntSS.l0 kq l0 l1 x5_1 = some r) ∧ Aside0 (kq ≤ k) ∧ Drawn0 w w')
  case atStart => exact ⟨(0), (by first | rfl | (simp; done) | (simp [*]; done)), H', ⟨Nat.le_refl _⟩, by repeat (first | exact Drawn0.refl _ | apply Drawn0.step)⟩
  case round =>
   clear H'
   try clear c1
   try clear p2
   try clear c3
   try clear c3b0
   try clear c3b1
   try clear c3b2
   obtain ⟨x5_1, rfl, HA, HK1, ⟨m1, rfl⟩⟩ := hrel
   cases gk with
   | zero => exact absurd HA.out (by simp [laws_eqIntSS.l0])
   | succ k1 =>
    have H := HA.out
    clear HA
    simp only [laws_eqIntSS.l0] at H
    by_cases c4 : x5_1 < (l0.length : Int)
    ·rw [if_pos c4] at H
     have c4b0 : decide (x5_1 < (l0.length : Int)) = true := decide_eq_true c4
     clear c4
     by_cases c5 : 0 ≤ x5_1
     ·rw [if_pos c5] at H
      have c5b0 : decide (0 ≤ x5_1) = true := decide_eq_true c5
      clear c5
      by_cases c6 : x5_1 < (l1.length : Int)
      ·rw [if_pos c6] at H
       have c6b0 : decide (x5_1 < (l1.length : Int)) = true := decide_eq_true c6
       clear c6
       replace H := Option.bind_eq_some_iff.mp H
       obtain ⟨t236, A70, H⟩ := H
       try dsimp only at H
       have A7 := Aside0.mk A70
       clear A70
       by_cases c8 : t236 = true
       ·subst c8
        rw [if_pos rfl] at H
        have H' := Aside0.mk H
        clear H
        have p234 : 0 ≤ (x5_1 : Int) := of_decide_eq_true (by first | (with_reducible assumption) | assumption)
        have q234 : x5_1 < (l0.length : Int) := of_decide_eq_true (by first | (with_reducible assumption) | assumption)
        obtain ⟨ad234, A234_0, c234_0, e234, hx234_0, hl234_0, hi234_0⟩ := at_L6 HR0.out x5_1 p234 q234
        cases e234
        have HR234_0 := Aside0.mk hi234_0
        have HC234_0 := Aside0.mk hl234_0
        clear hi234_0 hl234_0
        replace p234 := eq_true p234
        replace q234 := eq_true q234
        have p235 : 0 ≤ (x5_1 : Int) := of_decide_eq_true (by first | (with_reducible assumption) | assumption)
        have q235 : x5_1 < (l1.length : Int) := of_decide_eq_true (by first | (with_reducible assumption) | assumption)
        obtain ⟨ad235, A235_0, c235_0, e235, hx235_0, hl235_0, hi235_0⟩ := at_L6 HR1.out x5_1 p235 q235
        cases e235
        have HR235_0 := Aside0.mk hi235_0
        have HC235_0 := Aside0.mk hl235_0
        clear hi235_0 hl235_0
        replace p235 := eq_true p235
        replace q235 := eq_true q235
        go_wp2_with (first | (go_at_call 90; (with_reducible refine (laws_eqIntS.calls k1 _ _ (rd_L6 l0 x5_1) _ _ (rd_L6 l1 x5_1) true _ ?side1 ?side2 ?side3 ?side4 A7.out).mono ?_); (case side1 => exact cS HR234_0.out); (case side2 => exact HC234_0.out); (case side3 => exact cS HR235_0.out); (case side4 => exact HC235_0.out); rintro e w' ⟨rfl, ⟨nd, rfl⟩⟩; (try first | exact ⟨rfl, _, World.drewN_drewN _ _ _⟩ | exact ⟨rfl, _, Eq.trans (World.drewN_drewN _ _ _) (congrArg (World.drewN _) (Nat.add_assoc _ _ _))⟩)))
        repeat (go_quiet (first | (go_at_call 90; (with_reducible refine (laws_eqIntS.calls k1 _ _ (rd_L6 l0 x5_1) _ _ (rd_L6 l1 x5_1) true _ ?side1 ?side2 ?side3 ?side4 A7.out).mono ?_); (case side1 => exact cS HR234_0.out); (case side2 => exact HC234_0.out); (case side3 => exact cS HR235_0.out); (case side4 => exact HC235_0.out); rintro e w' ⟨rfl, ⟨nd, rfl⟩⟩; (try first | exact ⟨rfl, _, World.drewN_drewN _ _ _⟩ | exact ⟨rfl, _, Eq.trans (World.drewN_drewN _ _ _) (congrArg (World.drewN _) (Nat.add_assoc _ _ _))⟩))); try go_wp2_with (first | (go_at_call 90; (with_reducible refine (laws_eqIntS.calls k1 _ _ (rd_L6 l0 x5_1) _ _ (rd_L6 l1 x5_1) true _ ?side1 ?side2 ?side3 ?side4 A7.out).mono ?_); (case side1 => exact cS HR234_0.out); (case side2 => exact HC234_0.out); (case side3 => exact cS HR235_0.out); (case side4 => exact HC235_0.out); rintro e w' ⟨rfl, ⟨nd, rfl⟩⟩; (try first | exact ⟨rfl, _, World.drewN_drewN _ _ _⟩ | exact ⟨rfl, _, Eq.trans (World.drewN_drewN _ _ _) (congrArg (World.drewN _) (Nat.add_assoc _ _ _))⟩))))
        go_roundg k1
        case measure => have := HK1.out; omega
        case rel => exact ⟨(wrap64 (x5_1 + 1)), (by first | rfl | (simp; done) | (simp [*]; done)), H', ⟨by have := HK1.out; omega⟩, by repeat (first | exact Drawn0.refl _ | apply Drawn0.step)⟩
       ·replace c8 := Bool.eq_false_iff.mpr c8
        subst c8
        have H1 : (some false) = some r := by rw [if_neg (show ¬ (false = true) by decide)] at H; exact H
        clear H
        have H := H1
        clear H1
        obtain rfl := Option.some.inj H
        have p234 : 0 ≤ (x5_1 : Int) := of_decide_eq_true (by first | (with_reducible assumption) | assumption)
        have q234 : x5_1 < (l0.length : Int) := of_decide_eq_true (by first | (with_reducible assumption) | assumption)
        obtain ⟨ad234, A234_0, c234_0, e234, hx234_0, hl234_0, hi234_0⟩ := at_L6 HR0.out x5_1 p234 q234
        cases e234
        have HR234_0 := Aside0.mk hi234_0
        have HC234_0 := Aside0.mk hl234_0
        clear hi234_0 hl234_0
        replace p234 := eq_true p234
        replace q234 := eq_true q234
        have p235 : 0 ≤ (x5_1 : Int) := of_decide_eq_true (by first | (with_reducible assumption) | assumption)
        have q235 : x5_1 < (l1.length : Int) := of_decide_eq_true (by first | (with_reducible assumption) | assumption)
        obtain ⟨ad235, A235_0, c235_0, e235, hx235_0, hl235_0, hi235_0⟩ := at_L6 HR1.out x5_1 p235 q235
        cases e235
        have HR235_0 := Aside0.mk hi235_0
        have HC235_0 := Aside0.mk hl235_0
        clear hi235_0 hl235_0
        replace p235 := eq_true p235
        replace q235 := eq_true q235
        go_wp2_with (first | (go_at_call 90; (with_reducible refine (laws_eqIntS.calls k1 _ _ (rd_L6 l0 x5_1) _ _ (rd_L6 l1 x5_1) false _ ?side1 ?side2 ?side3 ?side4 A7.out).mono ?_); (case side1 => exact cS HR234_0.out); (case side2 => exact HC234_0.out); (case side3 => exact cS HR235_0.out); (case side4 => exact HC235_0.out); rintro e w' ⟨rfl, ⟨nd, rfl⟩⟩; (try first | exact ⟨rfl, _, World.drewN_drewN _ _ _⟩ | exact ⟨rfl, _, Eq.trans (World.drewN_drewN _ _ _) (congrArg (World.drewN _) (Nat.add_assoc _ _ _))⟩)))
        repeat (go_quiet (first | (go_at_call 90; (with_reducible refine (laws_eqIntS.calls k1 _ _ (rd_L6 l0 x5_1) _ _ (rd_L6 l1 x5_1) false _ ?side1 ?side2 ?side3 ?side4 A7.out).mono ?_); (case side1 => exact cS HR234_0.out); (case side2 => exact HC234_0.out); (case side3 => exact cS HR235_0.out); (case side4 => exact HC235_0.out); rintro e w' ⟨rfl, ⟨nd, rfl⟩⟩; (try first | exact ⟨rfl, _, World.drewN_drewN _ _ _⟩ | exact ⟨rfl, _, Eq.trans (World.drewN_drewN _ _ _) (congrArg (World.drewN _) (Nat.add_assoc _ _ _))⟩))); try go_wp2_with (first | (go_at_call 90; (with_reducible refine (laws_eqIntS.calls k1 _ _ (rd_L6 l0 x5_1) _ _ (rd_L6 l1 x5_1) false _ ?side1 ?side2 ?side3 ?side4 A7.out).mono ?_); (case side1 => exact cS HR234_0.out); (case side2 => exact HC234_0.out); (case side3 => exact cS HR235_0.out); (case side4 => exact HC235_0.out); rintro e w' ⟨rfl, ⟨nd, rfl⟩⟩; (try first | exact ⟨rfl, _, World.drewN_drewN _ _ _⟩ | exact ⟨rfl, _, Eq.trans (World.drewN_drewN _ _ _) (congrArg (World.drewN _) (Nat.add_assoc _ _ _))⟩))))
        go_ret
        exact ⟨by first | rfl | (simp; done) | (simp [*]; done), by repeat (first | exact Drawn0.refl _ | apply Drawn0.step)⟩
      ·rw [if_neg c6] at H
       exact absurd H (by simp)
     ·rw [if_neg c5] at H
      exact absurd H (by simp)
    ·rw [if_neg c4] at H
     have c4b0 : decide (x5_1 < (l0.length : Int)) = false := decide_eq_false c4
     clear c4
     obtain rfl := Option.some.inj H
     go_wp2
     repeat (go_quiet (fail); try go_wp2)
     go_ret
     exact ⟨by first | rfl | (simp; done) | (simp [*]; done), by repeat (first | exact Drawn0.refl _ | apply Drawn0.step)⟩
 ·rw [if_neg c3] at H
  have c3b0 : ((l0.length : Int) == (l1.length : Int)) = false := beq_eq_false_iff_ne.mpr c3
  have c3b1 : ((l0.length : Int) != (l1.length : Int)) = true := bne_iff_ne.mpr c3
  have c3b2 : (l0.length == l1.length) = false := by first | simpa using c3 | (simp at c3 ⊢; omega)
  obtain rfl := Option.some.inj H
  go_enter Tryd.func41, Tryd.ntmps41
  go_wp2
  repeat (go_quiet (fail); try go_wp2)
  go_ret
  exact ⟨by first | rfl | (simp; done) | (simp [*]; done), by repeat (first | exact Drawn0.refl _ | apply Drawn0.step)⟩

/-! ### laws_markIntS: function 91 -/
def laws_markIntS.l0 : Nat → List Int → Int → Int → Option (Int × List Int)
 | 0, _, _, _ => none
 | k + 1, x0, x1, x5 => if x5 < (x0.length : Int) then (if 0 ≤ x5 then (laws_markIntS.l0 k (x0.set (x5 : Int).toNat x1) (wrap64 (x1 + 1)) (wrap64 (x5 + 1))) else (none)) else (some (x1, x0))
def laws_markIntS.f (k : Nat) (l0 : List Int) (a1 : Int) : Option (Int × List Int) := laws_markIntS.l0 k l0 a1 0
theorem laws_markIntS.mono_l : ∀ k, (∀ y0 y1 y2, LeO (laws_markIntS.l0 k y0 y1 y2) (laws_markIntS.l0 (k + 1) y0 y1 y2))
 | 0 => fun _ _ _ r h => by simp [laws_markIntS.l0] at h
 | k + 1 => by
  have ih0 := laws_markIntS.mono_l k
  ·intro y0 y1 y2
   unfold laws_markIntS.l0
   repeat' first
   | (with_reducible exact ih0 _ _ _)
   | (with_reducible exact LeO.refl _)
   | (with_reducible exact LeO.none _)
   | (with_reducible refine LeO.ite ?_ ?_)
   | (with_reducible refine LeO.bind ?_ (fun _ => ?_))
   | exact ih0 _ _ _
   | exact LeO.none _
   | refine LeO.ite ?_ ?_
   | refine LeO.bind ?_ (fun _ => ?_)
theorem laws_markIntS.mono : ∀ a0 a1 k, LeO (laws_markIntS.f k a0 a1) (laws_markIntS.f (k + 1) a0 a1) := by
 intro a0 a1 k
 have ih0 := laws_markIntS.mono_l k
 unfold laws_markIntS.f
 repeat' first
   | (with_reducible exact ih0 _ _ _)
   | (with_reducible exact LeO.refl _)
   | (with_reducible exact LeO.none _)
   | (with_reducible refine LeO.ite ?_ ?_)
   | (with_reducible refine LeO.bind ?_ (fun _ => ?_))
   | exact ih0 _ _ _
   | exact LeO.none _
   | refine LeO.ite ?_ ?_
   | refine LeO.bind ?_ (fun _ => ?_)
set_option maxHeartbeats 8000000 in
set_option maxRecDepth 100000 in
theorem laws_markIntS.calls (k : Nat) (P0_ : Nat → Prop) (u9000_ : Value) (l0 : List Int) (a1 : Int) (r1 : Int) (r2 : List Int) (w0 w : World) (hB : Below w0.heap.size w0 w) (ho0 : Kd.R (Kd.int .i64) 3 w w0.heap.size P0_ u9000_ l0) (h : laws_markIntS.f k l0 a1 = some (r1, r2)) :
  Calls Tryd.prog 91 #[u9000_, .int .i64 a1] w fun e w' => e = .returned (.int .i64 r1) ∧ Kd.R (Kd.int .i64) 3 w' w0.heap.size (fun k_ => (P0_ k_ ∨ w.heap.size ≤ k_)) u9000_ r2 ∧ Below w0.heap.size w0 w' ∧ Kept w w' (fun k_ => P0_ k_) := by
 have HO0 := Aside0.mk (show Kd.R (Kd.int .i64) 3 w w0.heap.size (fun k_ => (P0_ k_ ∨ w.heap.size ≤ k_)) u9000_ l0 from Kd.R_mono ho0 (fun k_ hk => (.inl hk)))
 have HK := Aside0.mk (Kept.refl w (fun k_ => P0_ k_))
 have HW0 := Aside0.mk hB.size
 have HB := Aside0.mk hB
 clear hB
 have H : (laws_markIntS.l0 k l0 a1 0) = some (r1, r2) := h
 clear h
 have H' := Aside0.mk H
 clear H
 go_enter Tryd.func91, Tryd.ntmps91
 go_wp2
 go_loopg [1, 5] k (fun kq v1 v5 w' => ∃ (x0_1 : List Int) (x1_1 : Int) (x5_1 : Int), v1 = .int .i64 x1_1 ∧ v5 = .int .i64 x5_1 ∧ Aside0 (laws_markIntS.l0 kq x0_1 x1_1 x5_1 = some (r1, r2)) ∧ Aside0 (kq ≤ k) ∧ Aside0 (Kd.R (Kd.int .i64) 3 w' w0.heap.size (fun k_ => (P0_ k_ ∨ w.heap.size ≤ k_)) u9000_ x0_1) ∧ Aside0 (Kept w w' (fun k_ => P0_ k_)) ∧ Aside0 (Below w0.heap.size w0 w'))
 case atStart => exact ⟨(l0), (a1), (0), (by first | rfl | (simp; done) | (simp [*]; done)), (by first | rfl | (simp; done) | (simp [*]; done)), H', ⟨Nat.le_refl _⟩, ⟨rU HO0⟩, ⟨by repeat (first | (with_reducible first | exact HK.out | apply Kept.alloc | apply Kept.drewN | apply Kept.drew) | exact HK.out)⟩, ⟨hB⟩⟩
 case round =>
  clear H'
  try clear p2
  obtain ⟨x0_1, x1_1, x5_1, rfl, rfl, HA, HK1, HO_0, HK, HB⟩ := hrel
  cases gk with
  | zero => exact absurd HA.out (by simp [laws_markIntS.l0])
  | succ k1 =>
   have H := HA.out
   clear HA
   simp only [laws_markIntS.l0] at H
   by_cases c3 : x5_1 < (x0_1.length : Int)
   ·rw [if_pos c3] at H
    have c3b0 : decide (x5_1 < (x0_1.length : Int)) = true := decide_eq_true c3
    clear c3
    by_cases c4 : 0 ≤ x5_1
    ·rw [if_pos c4] at H
     have c4b0 : decide (0 ≤ x5_1) = true := decide_eq_true c4
     clear c4
     obtain ⟨y237, hy237⟩ : ∃ y_ : List Int, y_ = (x0_1.set (x5_1 : Int).toNat x1_1) := ⟨_, rfl⟩
     replace H : (laws_markIntS.l0 k1 y237 (wrap64 (x1_1 + 1)) (wrap64 (x5_1 + 1))) = some (r1, r2) := by first | (rw [hy237]; with_reducible exact H) | (have H2_ := (Option.bind_some _ _).symm.trans H; rw [hy237]; with_reducible exact H2_) | (have H2_ := (Option.bind_some _ _).symm.trans H; with_reducible exact H2_) | with_reducible exact H | (rw [hy237]; exact H) | exact H
     have Ny237 := Aside0.mk hy237
     clear hy237
     have H' := Aside0.mk H
     clear H
     obtain ⟨Ao6, co6, eo6⟩ := Kd.R_slice HO_0.out
     subst eo6
     have p5 : 0 ≤ (x5_1 : Int) := of_decide_eq_true (by first | (with_reducible assumption) | assumption)
     have q5 : (x5_1 : Int) < ((x0_1.length : Int) : Int) := of_decide_eq_true (by first | (with_reducible assumption) | assumption)
     obtain ⟨go5, co5, eo5, gb5, gl5, cl5, HG5⟩ := Kd.R_form HO_0.out (by omega)
     (first | cases eo5 | (injection eo5 with ea_ en_ ec_; (first | subst ea_ | (injection ea_ with ea_; subst ea_)); subst ec_; clear en_))
     have GB5 := Aside0.mk gb5
     have GG5 := Aside0.mk HG5
     clear gb5 gl5 HG5
     have HMgo5 := Aside0.mk (show (P0_ go5 ∨ w.heap.size ≤ go5) from (HO_0.out.1 _ rfl))
     obtain ⟨hx5_0, hf5_0⟩ := Kd.R_celln 0 HO_0.out (x5_1 : Int) p5 q5
     replace p5 := eq_true p5
     replace q5 := eq_true q5
     have HP7 := Kd.R_putg HO_0.out (x5_1 : Int) x1_1
     go_wp2_with (first | ((with_reducible refine gate_store (t := 3) (p := 15) rfl ?_); refine store_event (t := 3) (p := 15) (v := ?vo_w8) (w1 := (wr.setCell ⟨go5, (x5_1 : Int).toNat, none⟩ (.int .i64 x1_1))) ?hg ?ho ?hn ?hr ?_; (case ho => rfl); (case hg => rfl); (case hn => rfl); (case hr => first | (go_simp; done) | (go_simp; rfl)); intro w8 hw; have hg : wr.grownBy w8 (some go5) := (by rw [hw]; exact HP7.2); have hp_ : Kd.R (Kd.int .i64) 3 w8 w0.heap.size (fun k_ => (P0_ k_ ∨ w.heap.size ≤ k_)) (.slice (some ⟨go5, 0, none⟩) x0_1.length co6) y237 := (by rw [hw, Ny237.out]; exact HP7.1); clear HP7; replace HK := Aside0.mk (Kept.of_grown (S := (fun k_ => P0_ k_)) hg (by repeat (first | (with_reducible first | exact HK.out | apply Kept.alloc | apply Kept.drewN | apply Kept.drew) | exact HK.out)) (fun k_ e_ => (HO_0.out.1 k_ e_))); replace HO_0 := Aside0.mk (hp_); replace HB := Aside0.mk ((by rw [hw]; exact below_set (HB.out) GB5.out : Below w0.heap.size w0 w8)); clear hg hw hp_))
     go_roundg k1
     case measure => have := HK1.out; omega
     case rel => exact ⟨(y237), (wrap64 (x1_1 + 1)), (wrap64 (x5_1 + 1)), (by first | rfl | (simp; done) | (simp [*]; done)), (by first | rfl | (simp; done) | (simp [*]; done)), H', ⟨by have := HK1.out; omega⟩, ⟨rU HO_0⟩, ⟨by repeat (first | (with_reducible first | exact HK.out | apply Kept.alloc | apply Kept.drewN | apply Kept.drew) | exact HK.out)⟩, ⟨hB⟩⟩
    ·rw [if_neg c4] at H
     exact absurd H (by simp)
   ·rw [if_neg c3] at H
    have c3b0 : decide (x5_1 < (x0_1.length : Int)) = false := decide_eq_false c3
    clear c3
    simp only [Option.some.injEq, Prod.mk.injEq] at H
    obtain ⟨rfl, rfl⟩ := H
    obtain ⟨Ao9, co9, eo9⟩ := Kd.R_slice HO_0.out
    subst eo9
    go_wp2
    go_ret
    exact ⟨by first | rfl | (simp [errW_none, errW_some] <;> rfl) | (simp [*, errW_none, errW_some] <;> rfl), rU HO_0, hB, by repeat (first | (with_reducible first | exact HK.out | apply Kept.alloc | apply Kept.drewN | apply Kept.drew) | exact HK.out)⟩

/-! ### laws_markIntSS: function 42 (a text of this session's own) -/

def laws_markIntSS.l0 : Nat → List (List Int) → Int → Int → Option (Int × List (List Int))
 | 0, _, _, _ => none
 | k + 1, l, m, i => if i < (l.length : Int) then (if 0 ≤ i then ((laws_markIntS.f k (l.getD i.toNat []) m).bind fun q => laws_markIntSS.l0 k (l.set i.toNat q.2) q.1 (wrap64 (i + 1))) else none) else some (m, l)
def laws_markIntSS.f (k : Nat) (l0 : List (List Int)) (a1 : Int) : Option (Int × List (List Int)) := laws_markIntSS.l0 k l0 a1 0
theorem laws_markIntSS.mono_l : ∀ k, (∀ y0 y1 y2, LeO (laws_markIntSS.l0 k y0 y1 y2) (laws_markIntSS.l0 (k + 1) y0 y1 y2))
 | 0 => fun _ _ _ r h => by simp [laws_markIntSS.l0] at h
 | k + 1 => by
  have ih0 := laws_markIntSS.mono_l k
  intro y0 y1 y2
  unfold laws_markIntSS.l0
  repeat' first
    | (with_reducible exact ih0 _ _ _)
    | (with_reducible exact laws_markIntS.mono _ _ _)
    | (with_reducible exact LeO.refl _)
    | (with_reducible exact LeO.none _)
    | (with_reducible refine LeO.ite ?_ ?_)
    | (with_reducible refine LeO.bind ?_ (fun _ => ?_))
theorem laws_markIntSS.mono : ∀ a0 a1 k, LeO (laws_markIntSS.f k a0 a1) (laws_markIntSS.f (k + 1) a0 a1) := fun a0 a1 k => laws_markIntSS.mono_l k a0 a1 0
set_option maxHeartbeats 8000000 in
set_option maxRecDepth 100000 in
theorem laws_markIntSS.calls (k : Nat) (P0_ : Nat → Prop) (u9000_ : Value) (l0 : List (List Int)) (a1 : Int) (r1 : Int) (r2 : List (List Int)) (w0 w : World) (hB : Below w0.heap.size w0 w) (ho0 : Kd.S (Kd.slice 3 (Kd.int .i64)) 75 w w0.heap.size P0_ u9000_ l0) (h : laws_markIntSS.f k l0 a1 = some (r1, r2)) :
    Calls Tryd.prog 42 #[u9000_, .int .i64 a1] w fun e w' => e = .returned (.int .i64 r1) ∧ Kd.S (Kd.slice 3 (Kd.int .i64)) 75 w' w0.heap.size (fun k_ => (P0_ k_ ∨ w.heap.size ≤ k_)) u9000_ r2 ∧ Below w0.heap.size w0 w' ∧ Kept w w' (fun k_ => P0_ k_) := by
  obtain ⟨Av, cv, rfl⟩ := Kd.S_slice ho0
  have HO1 := Aside0.mk (Kd.S_mono (ok' := fun k_ => (P0_ k_ ∨ w.heap.size ≤ k_)) ho0 (fun _ hk => .inl hk))
  have HB1 := Aside0.mk hB
  have HL := Aside0.mk (show laws_markIntSS.l0 k l0 a1 0 = some (r1, r2) from h)
  generalize hn0 : l0.length = n at HO1 ⊢
  clear ho0 hB h hn0
  go_enter Tryd.func42, Tryd.ntmps42
  go_wp2
  go_loopg [1, 5] k (fun kq v1 v5 W => ∃ (x : List (List Int)) (m i : Int), v1 = .int .i64 m ∧ v5 = .int .i64 i ∧ Aside0 (laws_markIntSS.l0 kq x m i = some (r1, r2)) ∧ Aside0 (kq ≤ k) ∧ Aside0 (Kd.S (Kd.slice 3 (Kd.int .i64)) 75 W w0.heap.size (fun k_ => (P0_ k_ ∨ w.heap.size ≤ k_)) (.slice Av n cv) x) ∧ Aside0 (Kept w W (fun k_ => P0_ k_)) ∧ Aside0 (Below w0.heap.size w0 W))
  case atStart => exact ⟨l0, a1, 0, rfl, rfl, HL, ⟨Nat.le_refl _⟩, HO1, ⟨Kept.refl _ _⟩, HB1⟩
  case round =>
    obtain ⟨x, m, i, rfl, rfl, HA, HK1, HO, HK, HB⟩ := hrel
    clear HO1 HB1 HL
    cases gk with
    | zero => exact absurd HA.out (by simp [laws_markIntSS.l0])
    | succ k1 =>
      have H := HA.out
      clear HA
      simp only [laws_markIntSS.l0] at H
      have HN := Aside0.mk (Kd.S_reads' HO.out).1
      by_cases c1 : i < (x.length : Int)
      · rw [if_pos c1] at H
        by_cases c2 : 0 ≤ i
        · rw [if_pos c2] at H
          replace H := Option.bind_eq_some_iff.mp H
          obtain ⟨⟨q1, q2⟩, hq, H⟩ := H
          have HQ := Aside0.mk hq
          have HX := Aside0.mk H
          have c3 : i < (n : Int) := by have := HN.out; omega
          obtain ⟨g, cap, eg, gb, gl, cells, hcell⟩ := Kd.S_form HO.out (by omega)
          injection eg with ea en ec
          subst ea
          subst ec
          clear en cells hcell hq H gb gl
          obtain ⟨oki, ce, hcl, hM, hcc, hfr, hoki, hH⟩ := Kd.S_elem HO.out ([] : List Int) i c2 c3
          obtain ⟨v1, rfl, hr1⟩ := hM
          have hx0 : wr.cell? ⟨g, i.toNat, none⟩ = some v1 := by have h_ := hcc 0 _ rfl; rwa [show i.toNat * (Kd.slice 3 (Kd.int .i64)).sz + 0 = i.toNat from Nat.mul_one _] at h_
          have HH := Aside0.mk hH
          have HR1 := Aside0.mk hr1
          have HI := Aside0.mk hoki
          have c1b : decide (i < (n : Int)) = true := decide_eq_true c3
          replace c2 := eq_true c2
          replace c3 := eq_true c3
          clear c1 hcl hcc hfr hoki hH hr1
          obtain ⟨Av2, cv2, rfl⟩ := Kd.R_slice HR1.out
          go_wp2_with (go_at_call 91; refine (laws_markIntS.calls k1 oki (.slice Av2 (x.getD i.toNat []).length cv2) (x.getD i.toNat []) m q1 q2 w0 _ (by first | exact HB.out | exact HB.out.trans (pw_below_drewN (Below.refl _ _) _)) (by first | exact HR1.out | exact Kd.R_drewN HR1.out _) HQ.out).mono ?_; rintro e w10 ⟨rfl, hr3, hb3, hk3⟩; have HR3 := Aside0.mk hr3; have HB3 := Aside0.mk hb3; have HK3 := Aside0.mk hk3; clear hr3 hb3 hk3 hx0)
          have HO3 := Aside0.mk (Kd.H_back (Kd.H_step (Kd.H_widen HH.out) (fun k_ _ hn_ hlt_ => HK3.out.2 k_ hlt_ (fun h_ => hn_ (.inl h_)))) (x' := q2) (okp := fun k_ => oki k_ ∨ wr.heap.size ≤ k_) ⟨_, rfl, HR3.out⟩ (fun k_ hk_ => hk_.elim .inl (fun h_ => .inr ⟨.inr (Nat.le_trans HK.out.1 h_), h_⟩)))
          have HK4 := Aside0.mk (HK.out.then_ HK3.out (fun k_ hk_ => (HI.out k_ hk_).1))
          go_roundg k1
          case measure => have := HK1.out; omega
          case rel => exact ⟨_, _, _, by first | rfl | (simp; done), by first | rfl | (simp; done), HX, ⟨by have := HK1.out; omega⟩, ⟨by first | exact HO3.out | exact Kd.S_drewN HO3.out _⟩, ⟨by first | exact HK4.out | exact HK4.out.drewN _⟩, ⟨by first | exact HB3.out | exact HB3.out.trans (pw_below_drewN (Below.refl _ _) _)⟩⟩
        · rw [if_neg c2] at H; cases H
      · rw [if_neg c1] at H
        have c1b : decide (i < (n : Int)) = false := decide_eq_false (by have := HN.out; omega)
        clear c1
        simp only [Option.some.injEq, Prod.mk.injEq] at H
        obtain ⟨rfl, rfl⟩ := H
        go_wp2
        go_ret
        exact ⟨rfl, by first | exact HO.out | exact Kd.S_drewN HO.out _, by first | exact HB.out | exact HB.out.trans (pw_below_drewN (Below.refl _ _) _), by first | exact HK.out | exact HK.out.drewN _⟩

/-! ### laws_heldIntS: function 92 -/
def laws_heldIntS.l0 : Nat → List Int → Int → Int → Option (Int)
 | 0, _, _, _ => none
 | k + 1, x0, x1, x5 => if x5 < (x0.length : Int) then (if 0 ≤ x5 then (if (rd x0 x5) = x1 then (laws_heldIntS.l0 k x0 (wrap64 (x1 + 1)) (wrap64 (x5 + 1))) else (some (-1))) else (none)) else (some x1)
def laws_heldIntS.f (k : Nat) (l0 : List Int) (a1 : Int) : Option (Int) := laws_heldIntS.l0 k l0 a1 0
theorem laws_heldIntS.mono_l : ∀ k, (∀ y0 y1 y2, LeO (laws_heldIntS.l0 k y0 y1 y2) (laws_heldIntS.l0 (k + 1) y0 y1 y2))
 | 0 => fun _ _ _ r h => by simp [laws_heldIntS.l0] at h
 | k + 1 => by
  have ih0 := laws_heldIntS.mono_l k
  ·intro y0 y1 y2
   unfold laws_heldIntS.l0
   repeat' first
   | (with_reducible exact ih0 _ _ _)
   | (with_reducible exact LeO.refl _)
   | (with_reducible exact LeO.none _)
   | (with_reducible refine LeO.ite ?_ ?_)
   | (with_reducible refine LeO.bind ?_ (fun _ => ?_))
   | exact ih0 _ _ _
   | exact LeO.none _
   | refine LeO.ite ?_ ?_
   | refine LeO.bind ?_ (fun _ => ?_)
theorem laws_heldIntS.mono : ∀ a0 a1 k, LeO (laws_heldIntS.f k a0 a1) (laws_heldIntS.f (k + 1) a0 a1) := by
 intro a0 a1 k
 have ih0 := laws_heldIntS.mono_l k
 unfold laws_heldIntS.f
 repeat' first
   | (with_reducible exact ih0 _ _ _)
   | (with_reducible exact LeO.refl _)
   | (with_reducible exact LeO.none _)
   | (with_reducible refine LeO.ite ?_ ?_)
   | (with_reducible refine LeO.bind ?_ (fun _ => ?_))
   | exact ih0 _ _ _
   | exact LeO.none _
   | refine LeO.ite ?_ ?_
   | refine LeO.bind ?_ (fun _ => ?_)
set_option maxHeartbeats 8000000 in
set_option maxRecDepth 100000 in
theorem laws_heldIntS.calls (k : Nat) (A0 : Option Addr) (c0 : Nat) (l0 : List Int) (a1 : Int) (r : Int) (w : World) (hr0 : Kd.C (Kd.int .i64) w A0 l0.length l0) (hc0 : l0.length ≤ c0) (h : laws_heldIntS.f k l0 a1 = some r) :
  Calls Tryd.prog 92 #[.slice A0 l0.length c0, .int .i64 a1] w fun e w' => e = .returned (.int .i64 r) ∧ Drawn0 w w' := by
 have HR0 := Aside0.mk hr0
 have HC0 := Aside0.mk hc0
 clear hr0 hc0
 have H : (laws_heldIntS.l0 k l0 a1 0) = some r := h
 clear h
 have H' := Aside0.mk H
 clear H
 go_enter Tryd.func92, Tryd.ntmps92
 go_wp2
 go_loopg [1, 5] k (fun kq v1 v5 w' => ∃ (x1_1 : Int) (x5_1 : Int), v1 = .int .i64 x1_1 ∧ v5 = .int .i64 x5_1 ∧ Aside0 (laws_heldIntS.l0 kq l0 x1_1 x5_1 = some r) ∧ Aside0 (kq ≤ k) ∧ Drawn0 w w')
 case atStart => exact ⟨(a1), (0), (by first | rfl | (simp; done) | (simp [*]; done)), (by first | rfl | (simp; done) | (simp [*]; done)), H', ⟨Nat.le_refl _⟩, by repeat (first | exact Drawn0.refl _ | apply Drawn0.step)⟩
 case round =>
  clear H'
  try clear p2
  obtain ⟨x1_1, x5_1, rfl, rfl, HA, HK1, ⟨m1, rfl⟩⟩ := hrel
  cases gk with
  | zero => exact absurd HA.out (by simp [laws_heldIntS.l0])
  | succ k1 =>
   have H := HA.out
   clear HA
   simp only [laws_heldIntS.l0] at H
   by_cases c3 : x5_1 < (l0.length : Int)
   ·rw [if_pos c3] at H
    have c3b0 : decide (x5_1 < (l0.length : Int)) = true := decide_eq_true c3
    clear c3
    by_cases c4 : 0 ≤ x5_1
    ·rw [if_pos c4] at H
     have c4b0 : decide (0 ≤ x5_1) = true := decide_eq_true c4
     clear c4
     by_cases c5 : (rd l0 x5_1) = x1_1
     ·rw [if_pos c5] at H
      have c5b0 : ((rd l0 x5_1) == x1_1) = true := beq_iff_eq.mpr c5
      have c5b1 : ((rd l0 x5_1) != x1_1) = false := bne_eq_false_iff_eq.mpr c5
      clear c5
      have H' := Aside0.mk H
      clear H
      have p238 : 0 ≤ (x5_1 : Int) := of_decide_eq_true (by first | (with_reducible assumption) | assumption)
      have q238 : x5_1 < (l0.length : Int) := of_decide_eq_true (by first | (with_reducible assumption) | assumption)
      obtain ⟨ad238, e238, hx238_0⟩ := Kd.at_int HR0.out x5_1 p238 q238
      cases e238
      replace p238 := eq_true p238
      replace q238 := eq_true q238
      go_wp2
      go_roundg k1
      case measure => have := HK1.out; omega
      case rel => exact ⟨(wrap64 (x1_1 + 1)), (wrap64 (x5_1 + 1)), (by first | rfl | (simp; done) | (simp [*]; done)), (by first | rfl | (simp; done) | (simp [*]; done)), H', ⟨by have := HK1.out; omega⟩, by repeat (first | exact Drawn0.refl _ | apply Drawn0.step)⟩
     ·rw [if_neg c5] at H
      have c5b0 : ((rd l0 x5_1) == x1_1) = false := beq_eq_false_iff_ne.mpr c5
      have c5b1 : ((rd l0 x5_1) != x1_1) = true := bne_iff_ne.mpr c5
      obtain rfl := Option.some.inj H
      have p238 : 0 ≤ (x5_1 : Int) := of_decide_eq_true (by first | (with_reducible assumption) | assumption)
      have q238 : x5_1 < (l0.length : Int) := of_decide_eq_true (by first | (with_reducible assumption) | assumption)
      obtain ⟨ad238, e238, hx238_0⟩ := Kd.at_int HR0.out x5_1 p238 q238
      cases e238
      replace p238 := eq_true p238
      replace q238 := eq_true q238
      go_wp2
      go_ret
      exact ⟨by first | rfl | (simp; done) | (simp [*]; done), by repeat (first | exact Drawn0.refl _ | apply Drawn0.step)⟩
    ·rw [if_neg c4] at H
     exact absurd H (by simp)
   ·rw [if_neg c3] at H
    have c3b0 : decide (x5_1 < (l0.length : Int)) = false := decide_eq_false c3
    clear c3
    obtain rfl := Option.some.inj H
    go_wp2
    go_ret
    exact ⟨by first | rfl | (simp; done) | (simp [*]; done), by repeat (first | exact Drawn0.refl _ | apply Drawn0.step)⟩

/-! ### laws_heldIntSS: function 43 -/
def laws_heldIntSS.l0 : Nat → List (List Int) → Int → Int → Option (Int)
 | 0, _, _, _ => none
 | k + 1, x0, x1, x5 => if x5 < (x0.length : Int) then (if 0 ≤ x5 then ((laws_heldIntS.f k (rd_L6 x0 x5) x1).bind fun t240 => (if t240 < 0 then (some (-1)) else (laws_heldIntSS.l0 k x0 t240 (wrap64 (x5 + 1))))) else (none)) else (some x1)
def laws_heldIntSS.f (k : Nat) (l0 : List (List Int)) (a1 : Int) : Option (Int) := laws_heldIntSS.l0 k l0 a1 0
theorem laws_heldIntSS.mono_l : ∀ k, (∀ y0 y1 y2, LeO (laws_heldIntSS.l0 k y0 y1 y2) (laws_heldIntSS.l0 (k + 1) y0 y1 y2))
 | 0 => fun _ _ _ r h => by simp [laws_heldIntSS.l0] at h
 | k + 1 => by
  have ih0 := laws_heldIntSS.mono_l k
  ·intro y0 y1 y2
   unfold laws_heldIntSS.l0
   repeat' first
   | (with_reducible exact ih0 _ _ _)
   | (with_reducible exact laws_heldIntS.mono _ _ _)
   | (with_reducible exact LeO.refl _)
   | (with_reducible exact LeO.none _)
   | (with_reducible refine LeO.ite ?_ ?_)
   | (with_reducible refine LeO.bind ?_ (fun _ => ?_))
   | exact ih0 _ _ _
   | exact laws_heldIntS.mono _ _ _
   | exact LeO.none _
   | refine LeO.ite ?_ ?_
   | refine LeO.bind ?_ (fun _ => ?_)
theorem laws_heldIntSS.mono : ∀ a0 a1 k, LeO (laws_heldIntSS.f k a0 a1) (laws_heldIntSS.f (k + 1) a0 a1) := by
 intro a0 a1 k
 have ih0 := laws_heldIntSS.mono_l k
 unfold laws_heldIntSS.f
 repeat' first
   | (with_reducible exact ih0 _ _ _)
   | (with_reducible exact laws_heldIntS.mono _ _ _)
   | (with_reducible exact LeO.refl _)
   | (with_reducible exact LeO.none _)
   | (with_reducible refine LeO.ite ?_ ?_)
   | (with_reducible refine LeO.bind ?_ (fun _ => ?_))
   | exact ih0 _ _ _
   | exact laws_heldIntS.mono _ _ _
   | exact LeO.none _
   | refine LeO.ite ?_ ?_
   | refine LeO.bind ?_ (fun _ => ?_)
set_option maxHeartbeats 8000000 in
set_option maxRecDepth 100000 in
theorem laws_heldIntSS.calls (k : Nat) (A0 : Option Addr) (c0 : Nat) (l0 : List (List Int)) (a1 : Int) (r : Int) (w : World) (hr0 : Kd.C (Kd.slice 3 (Kd.int .i64)) w A0 l0.length l0) (hc0 : l0.length ≤ c0) (h : laws_heldIntSS.f k l0 a1 = some r) :
  Calls Tryd.prog 43 #[.slice A0 l0.length c0, .int .i64 a1] w fun e w' => e = .returned (.int .i64 r) ∧ Drawn0 w w' := by
 have HR0 := Aside0.mk hr0
 have HC0 := Aside0.mk hc0
 clear hr0 hc0
 have H : (laws_heldIntSS.l0 k l0 a1 0) = some r := h
 clear h
 have H' := Aside0.mk H
 clear H
 go_enter Tryd.func43, Tryd.ntmps43
 go_wp2
 go_loopg [1, 5] k (fun kq v1 v5 w' => ∃ (x1_1 : Int) (x5_1 : Int), v1 = .int .i64 x1_1 ∧ v5 = .int .i64 x5_1 ∧ Aside0 (laws_heldIntSS.l0 kq l0 x1_1 x5_1 = some r) ∧ Aside0 (kq ≤ k) ∧ Drawn0 w w')
 case atStart => exact ⟨(a1), (0), (by first | rfl | (simp; done) | (simp [*]; done)), (by first | rfl | (simp; done) | (simp [*]; done)), H', ⟨Nat.le_refl _⟩, by repeat (first | exact Drawn0.refl _ | apply Drawn0.step)⟩
 case round =>
  clear H'
  try clear p2
  obtain ⟨x1_1, x5_1, rfl, rfl, HA, HK1, ⟨m1, rfl⟩⟩ := hrel
  cases gk with
  | zero => exact absurd HA.out (by simp [laws_heldIntSS.l0])
  | succ k1 =>
   have H := HA.out
   clear HA
   simp only [laws_heldIntSS.l0] at H
   by_cases c3 : x5_1 < (l0.length : Int)
   ·rw [if_pos c3] at H
    have c3b0 : decide (x5_1 < (l0.length : Int)) = true := decide_eq_true c3
    clear c3
    by_cases c4 : 0 ≤ x5_1
    ·rw [if_pos c4] at H
     have c4b0 : decide (0 ≤ x5_1) = true := decide_eq_true c4
     clear c4
     replace H := Option.bind_eq_some_iff.mp H
     obtain ⟨t240, A50, H⟩ := H
     try dsimp only at H
     have A5 := Aside0.mk A50
     clear A50
     by_cases c6 : t240 < 0
     ·rw [if_pos c6] at H
      have c6b0 : decide (t240 < 0) = true := decide_eq_true c6
      clear c6
      obtain rfl := Option.some.inj H
      have p239 : 0 ≤ (x5_1 : Int) := of_decide_eq_true (by first | (with_reducible assumption) | assumption)
      have q239 : x5_1 < (l0.length : Int) := of_decide_eq_true (by first | (with_reducible assumption) | assumption)
      obtain ⟨ad239, A239_0, c239_0, e239, hx239_0, hl239_0, hi239_0⟩ := at_L6 HR0.out x5_1 p239 q239
      cases e239
      have HR239_0 := Aside0.mk hi239_0
      have HC239_0 := Aside0.mk hl239_0
      clear hi239_0 hl239_0
      replace p239 := eq_true p239
      replace q239 := eq_true q239
      go_wp2_with (first | ((with_reducible refine gate_callee (f := 92) rfl ?_); refine goC (N := some 17) Tryd.func92 #[.slice A239_0 (rd_L6 l0 x5_1).length c239_0, .int .i64 x1_1] rfl ?_; (with_reducible refine (laws_heldIntS.calls k1 _ _ (rd_L6 l0 x5_1) x1_1 t240 _ ?side1 ?side2 A5.out).mono ?_); (case side1 => exact cS HR239_0.out); (case side2 => exact HC239_0.out); rintro e w' ⟨rfl, ⟨nd, rfl⟩⟩; refine ⟨_, rfl, ?_⟩))
      go_ret
      exact ⟨by first | rfl | (simp; done) | (simp [*]; done), by repeat (first | exact Drawn0.refl _ | apply Drawn0.step)⟩
     ·rw [if_neg c6] at H
      have c6b0 : decide (t240 < 0) = false := decide_eq_false c6
      clear c6
      have H' := Aside0.mk H
      clear H
      have p239 : 0 ≤ (x5_1 : Int) := of_decide_eq_true (by first | (with_reducible assumption) | assumption)
      have q239 : x5_1 < (l0.length : Int) := of_decide_eq_true (by first | (with_reducible assumption) | assumption)
      obtain ⟨ad239, A239_0, c239_0, e239, hx239_0, hl239_0, hi239_0⟩ := at_L6 HR0.out x5_1 p239 q239
      cases e239
      have HR239_0 := Aside0.mk hi239_0
      have HC239_0 := Aside0.mk hl239_0
      clear hi239_0 hl239_0
      replace p239 := eq_true p239
      replace q239 := eq_true q239
      go_wp2_with (first | ((with_reducible refine gate_callee (f := 92) rfl ?_); refine goC (N := some 17) Tryd.func92 #[.slice A239_0 (rd_L6 l0 x5_1).length c239_0, .int .i64 x1_1] rfl ?_; (with_reducible refine (laws_heldIntS.calls k1 _ _ (rd_L6 l0 x5_1) x1_1 t240 _ ?side1 ?side2 A5.out).mono ?_); (case side1 => exact cS HR239_0.out); (case side2 => exact HC239_0.out); rintro e w' ⟨rfl, ⟨nd, rfl⟩⟩; refine ⟨_, rfl, ?_⟩))
      go_roundg k1
      case measure => have := HK1.out; omega
      case rel => exact ⟨(t240), (wrap64 (x5_1 + 1)), (by first | rfl | (simp; done) | (simp [*]; done)), (by first | rfl | (simp; done) | (simp [*]; done)), H', ⟨by have := HK1.out; omega⟩, by repeat (first | exact Drawn0.refl _ | apply Drawn0.step)⟩
    ·rw [if_neg c4] at H
     exact absurd H (by simp)
   ·rw [if_neg c3] at H
    have c3b0 : decide (x5_1 < (l0.length : Int)) = false := decide_eq_false c3
    clear c3
    obtain rfl := Option.some.inj H
    go_wp2
    go_ret
    exact ⟨by first | rfl | (simp; done) | (simp [*]; done), by repeat (first | exact Drawn0.refl _ | apply Drawn0.step)⟩

/-! ### laws_FnExactAllGroups: function 9 (a text of this session's own) -/

def laws_FnExactAllGroups.T10 : Bool × List (List Nat × List Nat) := (true, [([], []), ([], []), ([1], [1]), ([0, 2, 2], [0, 2]), ([3], [3])])
def laws_FnExactAllGroups.B10 : List Nat := [0, 0, 2, 7, 15]
theorem laws_FnExactAllGroups.tab10 : rtab .any (opsOf Tryd.f9 10) = laws_FnExactAllGroups.T10 := by kernel_rfl
theorem laws_FnExactAllGroups.bits10 : waitsOk laws_FnExactAllGroups.T10.2 laws_FnExactAllGroups.B10 = true := by kernel_rfl
theorem laws_FnExactAllGroups.db {w w' : World} (h : Drawn0 w w') : Below w.heap.size w w' := by obtain ⟨n, rfl⟩ := h; exact pw_below_drewN (Below.refl _ _) n
def laws_FnExactAllGroups.f (k : Nat) (a0 : Int) (l0 : List S118) : Option Bool := (laws_szParty.f a0 l0 1048576).bind fun t => if t < 0 then some true else ((laws_toParty.f k a0 l0).bind fun p => (spec_AllGroups.f k p.1 p.2).bind fun sw => (impl_AllGroups.f k p.1 p.2).bind fun sg => (laws_eqIntSS.f k sg.1 sw.1).bind fun e1 => if e1 = true then (if sg.2 = sw.2 then ((laws_eqParty.f k p.1 p.2 p.1 p.2).bind fun e2 => if e2 = true then ((laws_markParty.f k p.1 p.2 1).bind fun m1 => if m1.1 < 0 then none else ((laws_markIntSS.f k sg.1 1).bind fun mp => (laws_heldIntSS.f k mp.2 1).bind fun hh => if hh < 0 then none else (if hh = mp.1 then some true else none))) else none) else none) else none)
set_option maxHeartbeats 8000000 in
set_option maxRecDepth 100000 in
theorem laws_FnExactAllGroups.calls (k : Nat) (a0 : Int) (A0 : Option Addr) (c0 : Nat) (l0 : List S118) (r : Bool) (w : World) (hr : Kd.C k118 w A0 l0.length l0) (hc : l0.length ≤ c0) (h : laws_FnExactAllGroups.f k a0 l0 = some r) (hG : GTab 0 w := by first | exact Aside0.out ‹Aside0 (GTab _ _)› | exact GTab.up (Aside0.out ‹Aside0 (GTab _ _)›) (by repeat (first | (with_reducible first | exact Below.refl _ _ | exact Aside0.out ‹Aside0 (Below _ _ _)› | apply below_alloc | apply pw_below_drewN | apply below_drew1 | refine below_set ?_ (Aside0.out (by assumption))) | exact Aside0.out ‹Aside0 (Below _ _ _)›))) :
    Calls Tryd.prog 9 #[.agg #[.int .i64 a0, .slice A0 l0.length c0]] w fun e w' => e = .returned (.bool r) ∧ Below w.heap.size w w' := by
  have hu42 := Tryd.underlying24
  have hu28 := Tryd.underlying33
  have HR := Aside0.mk hr
  have HC := Aside0.mk hc
  have HG := Aside0.mk hG
  clear hr hc hG
  unfold laws_FnExactAllGroups.f at h
  replace h := Option.bind_eq_some_iff.mp h
  obtain ⟨t, ht, h⟩ := h
  have HT := Aside0.mk ht
  clear ht
  by_cases c5 : t < 0
  · rw [if_pos c5] at h
    obtain rfl := Option.some.inj h
    have c5b : decide (t < 0) = true := decide_eq_true c5
    clear c5 h
    go_enter Tryd.func9, Tryd.ntmps9
    go_wp2_with (first
      | ((with_reducible refine gate_dst (N := 1) rfl ?_); refine bxE 1 #[.int .i64 a0, .slice A0 l0.length c0] 24 rfl ?_; intro g1 hg w1 hbox hb; have BK1 := Aside0.mk hbox; have HB1 := Aside0.mk hb; have hp0 := cz BK1 0; have hp1 := cz BK1 1; clear hg hbox hb)
      | ((with_reducible refine gate_dst (N := 16) rfl ?_); refine goC (N := some 16) Tryd.func12 #[.agg #[.int .i64 a0, .slice A0 l0.length c0], .int .i64 1048576] rfl ?_; refine (laws_szParty.calls a0 A0 c0 l0 1048576 t _ (Kd.C_below HR.out HB1.out) HC.out HT.out).mono ?_; rintro e w2 ⟨rfl, hb⟩; refine ⟨_, rfl, ?_⟩; replace BK1 := bS BK1 hb; have HB2 := Aside0.mk (below_step HB1.out hb); clear hb; clear hp0 hp1; have hp0 := cz BK1 0; have hp1 := cz BK1 1))
    go_ret
    exact ⟨rfl, by first | exact HB2.out | exact pw_below_drewN HB2.out _⟩
  · rw [if_neg c5] at h
    have c5b : decide (t < 0) = false := decide_eq_false c5
    clear c5
    replace h := Option.bind_eq_some_iff.mp h
    obtain ⟨⟨p1, p2⟩, hp, h⟩ := h
    replace h := Option.bind_eq_some_iff.mp h
    obtain ⟨⟨sw, bw⟩, hsw, h⟩ := h
    replace h := Option.bind_eq_some_iff.mp h
    obtain ⟨⟨sg, b⟩, hsg, h⟩ := h
    replace h := Option.bind_eq_some_iff.mp h
    obtain ⟨e1, he1, h⟩ := h
    cases e1 with
    | false => simp at h
    | true =>
      rw [if_pos rfl] at h
      dsimp only at h
      by_cases cb : b = bw
      · rw [if_pos cb] at h
        subst cb
        replace h := Option.bind_eq_some_iff.mp h
        obtain ⟨e2, he2, h⟩ := h
        cases e2 with
        | false => simp at h
        | true =>
          rw [if_pos rfl] at h
          replace h := Option.bind_eq_some_iff.mp h
          obtain ⟨⟨m1, m2⟩, hm, h⟩ := h
          by_cases cm : m1 < 0
          · rw [if_pos cm] at h; cases h
          · rw [if_neg cm] at h
            replace h := Option.bind_eq_some_iff.mp h
            obtain ⟨⟨q1, q2⟩, hq, h⟩ := h
            replace h := Option.bind_eq_some_iff.mp h
            obtain ⟨hh, hhh, h⟩ := h
            by_cases ch : hh < 0
            · rw [if_pos ch] at h; cases h
            · rw [if_neg ch] at h
              by_cases cq : hh = q1
              · rw [if_pos cq] at h
                obtain rfl := Option.some.inj h
                subst cq
                have HP := Aside0.mk hp
                have HSW := Aside0.mk hsw
                have HSG := Aside0.mk hsg
                have HE1 := Aside0.mk he1
                have HE2 := Aside0.mk he2
                have HM := Aside0.mk hm
                have HQ := Aside0.mk hq
                have HH := Aside0.mk hhh
                have cmb : decide (m1 < 0) = false := decide_eq_false cm
                have chb : decide (hh < 0) = false := decide_eq_false ch
                have cqb : (hh != hh) = false := bne_self_eq_false hh
                have cbb : (b != b) = false := bne_self_eq_false b
                clear hp hsw hsg he1 he2 hm hq hhh cm ch h
                go_enter Tryd.func9, Tryd.ntmps9
                go_wp2_with (first
                  | ((with_reducible refine gate_dst (N := 1) rfl ?_); refine bxE 1 #[.int .i64 a0, .slice A0 l0.length c0] 24 rfl ?_; intro g1 hg w1 hbox hb; have BK1 := Aside0.mk hbox; have HB1 := Aside0.mk hb; have hp0 := cz BK1 0; have hp1 := cz BK1 1; clear hg hbox hb)
                  | ((with_reducible refine gate_dst (N := 16) rfl ?_); refine goC (N := some 16) Tryd.func12 #[.agg #[.int .i64 a0, .slice A0 l0.length c0], .int .i64 1048576] rfl ?_; refine (laws_szParty.calls a0 A0 c0 l0 1048576 t _ (Kd.C_below HR.out HB1.out) HC.out HT.out).mono ?_; rintro e w2 ⟨rfl, hb⟩; refine ⟨_, rfl, ?_⟩; replace BK1 := bS BK1 hb; have HB2 := Aside0.mk (below_step HB1.out hb); clear hb; clear hp0 hp1; have hp0 := cz BK1 0; have hp1 := cz BK1 1)
                  | ((with_reducible refine gate_dst (N := 21) rfl ?_); refine goC (N := some 21) Tryd.func14 #[.agg #[.int .i64 a0, .slice A0 l0.length c0]] rfl ?_; refine (laws_toParty.calls k a0 A0 c0 l0 p1 p2 _ (Kd.C_below HR.out HB2.out) HC.out HP.out).mono ?_; rintro e w3 ⟨v21, rfl, ho, hb⟩; refine ⟨_, rfl, ?_⟩; replace BK1 := bS BK1 hb; have HB3 := Aside0.mk (below_step HB2.out hb); have HO21 := Aside0.mk ho; clear ho hb; clear hp0 hp1; have hp0 := cz BK1 0; have hp1 := cz BK1 1; obtain ⟨A21, c21, rfl⟩ := Kd.R_slice HO21.out)
                  | ((with_reducible refine gate_dst (N := 22) rfl ?_); refine goC (N := some 22) Tryd.func39 #[.agg #[.int .i64 p1, .slice A21 p2.length c21]] rfl ?_; refine (spec_AllGroups.calls k p1 A21 c21 p2 sw b _ (Kd.R_reads' HO21.out).2.2 (Kd.R_reads' HO21.out).2.1 HSW.out).mono ?_; rintro e w4 ⟨v22, rfl, ho, hb⟩; refine ⟨_, rfl, ?_⟩; replace BK1 := bS BK1 hb; have HB4 := Aside0.mk (below_step HB3.out hb); have HO22 := Aside0.mk ho; have L14 := Aside0.mk (blk_lt BK1.out); have BK14 := BK1; clear ho hb; clear hp0 hp1; have hp0 := cz BK1 0; have hp1 := cz BK1 1; obtain ⟨A22, c22, rfl⟩ := Kd.N_slice HO22.out; have HC22 := Aside0.mk (Kd.N_reads' HO22.out))
                  | ((with_reducible refine gate_dst (N := 26) rfl ?_); refine goC (N := some 26) Tryd.func14 #[.agg #[.int .i64 a0, .slice A0 l0.length c0]] rfl ?_; refine (laws_toParty.calls k a0 A0 c0 l0 p1 p2 _ (Kd.C_below HR.out HB4.out) HC.out HP.out).mono ?_; rintro e w5 ⟨v26, rfl, ho, hb⟩; refine ⟨_, rfl, ?_⟩; replace BK1 := bS BK1 hb; have HB5 := Aside0.mk (below_step HB4.out hb); have H45 := Aside0.mk hb; have HO26 := Aside0.mk (Kd.R_mono (ok' := fun k_ => w4.heap.size ≤ k_ ∧ k_ < w5.heap.size) (Kd.R_bound ho) (fun k_ hk => ⟨hk.2.1, hk.2.2.1⟩)); clear ho hb; clear hp0 hp1; have hp0 := cz BK1 0; have hp1 := cz BK1 1; obtain ⟨A26, c26, rfl⟩ := Kd.R_slice HO26.out)
                  | ((with_reducible refine gate_dst (N := 6) rfl ?_); refine bxE 6 #[.int .i64 0, .slice none 0 0] 33 rfl ?_; intro g6 hg w6 hbox hb; have BK6 := Aside0.mk hbox; have G6 := Aside0.mk (show g6 = w5.heap.size from hg); have H56 := Aside0.mk hb; have NB := Aside0.mk (show g1 ≠ g6 by have := blk_lt BK1.out; omega); have hz0 := cz BK6 0; have hz1 := cz BK6 1; have hz2 := fz BK6 0; have hz3 := fz BK6 1; clear hg hbox hb)
                  | ((with_reducible refine gate_dst (N := 29) rfl ?_); refine goC (N := some 29) Tryd.func40 #[.agg #[.int .i64 p1, .slice A26 p2.length c26]] rfl ?_; refine (impl_AllGroups.calls k p1 A26 c26 p2 sg b _ (Kd.C_below (Kd.R_reads' HO26.out).2.2 (below_set (below_set H56.out (Nat.le_of_eq G6.out.symm)) (Nat.le_of_eq G6.out.symm))) (Kd.R_reads' HO26.out).2.1 HSG.out (GTab.up HG.out (below_step HB5.out (below_set (below_set H56.out (Nat.le_of_eq G6.out.symm)) (Nat.le_of_eq G6.out.symm))))).mono ?_; rintro e w7 ⟨v29, rfl, ho, hb⟩; refine ⟨_, rfl, ?_⟩; have BKa := Aside0.mk (show ((w6.setCell ⟨g6, 0, none⟩ (.int .i64 p1)).setCell ⟨g6, 1, none⟩ (.slice A26 p2.length c26)).heap[g6]? = some (.cells #[.int .i64 p1, .slice A26 p2.length c26] 33 (0, 0)) from blk_set (blk_set BK6.out 0 _) 1 _); have BKb := Aside0.mk (show ((w6.setCell ⟨g6, 0, none⟩ (.int .i64 p1)).setCell ⟨g6, 1, none⟩ (.slice A26 p2.length c26)).heap[g1]? = some (.cells #[.int .i64 a0, .slice A0 l0.length c0] 24 (0, 0)) from blk_far (blk_far (blk_below BK1.out H56.out) NB.out _) NB.out _); have H5w := Aside0.mk (show Below w5.heap.size w5 ((w6.setCell ⟨g6, 0, none⟩ (.int .i64 p1)).setCell ⟨g6, 1, none⟩ (.slice A26 p2.length c26)) from below_set (below_set H56.out (Nat.le_of_eq G6.out.symm)) (Nat.le_of_eq G6.out.symm)); have HO29 := Aside0.mk (Kd.S_mono (ok' := fun k_ => w5.heap.size ≤ k_) (Kd.S_bound ho) (fun k_ hk => Nat.le_trans H5w.out.size hk.2.1)); have H57 := Aside0.mk (below_step H5w.out hb); have BK7 := Aside0.mk (blk_below BKa.out hb); have BKc := Aside0.mk (blk_below BKb.out hb); have HBs := Aside0.mk (Kd.S_lower HO29.out (Nat.le_trans H45.out.size H5w.out.size)); clear ho hb hp0 hp1 hz0 hz1 hz2 hz3 BK1 BK6 BKa BKb; have BK1 := BKc; have BK6 := BK7; clear BKc BK7; obtain ⟨A29, c29, rfl⟩ := Kd.S_slice HO29.out)
                  | ((with_reducible refine gate_dst (N := 34) rfl ?_); refine goC (N := some 34) Tryd.func41 #[.slice A29 sg.length c29, .slice A22 sw.length c22] rfl ?_; refine (laws_eqIntSS.calls k A29 c29 sg A22 c22 sw true _ (Kd.S_reads' HO29.out).2.2 (Kd.S_reads' HO29.out).2.1 (Kd.C_below HC22.out.2.2 (H45.out.trans (H57.out.mono H45.out.size))) HC22.out.2.1 HE1.out).mono ?_; rintro e w8 ⟨rfl, hdr⟩; have hb := laws_FnExactAllGroups.db hdr; clear hdr; refine ⟨_, rfl, ?_⟩; have HO8 := Aside0.mk (Kd.S_below HBs.out hb); have H58 := Aside0.mk (below_step H57.out hb); replace BK1 := bS BK1 hb; replace BK6 := bS BK6 hb; clear hb))
                have SW := Aside0.mk (fun (W' : World) (hb : Below w8.heap.size w8 W') => (⟨pw_cell_below hb ((blk_cell BK6.out 0).trans rfl), pw_cell_below hb ((blk_cell BK6.out 1).trans rfl), pw_cell_below hb ((blk_cell BK1.out 0).trans rfl), pw_cell_below hb ((blk_cell BK1.out 1).trans rfl)⟩ : (fun w' : World => w'.cell? ⟨g6, 0, none⟩ = some (.int .i64 p1) ∧ w'.cell? ⟨g6, 1, none⟩ = some (.slice A26 p2.length c26) ∧ w'.cell? ⟨g1, 0, none⟩ = some (.int .i64 a0) ∧ w'.cell? ⟨g1, 1, none⟩ = some (.slice A0 l0.length c0)) W'))
                refine start_ (n := 5) (S := fun w' => w'.cell? ⟨g6, 0, none⟩ = some (.int .i64 p1) ∧ w'.cell? ⟨g6, 1, none⟩ = some (.slice A26 p2.length c26) ∧ w'.cell? ⟨g1, 0, none⟩ = some (.int .i64 a0) ∧ w'.cell? ⟨g1, 1, none⟩ = some (.slice A0 l0.length c0)) (ds := []) (bz 5 0) (by kernel_rfl) rfl rfl (SW.out _ (by repeat (first | exact Below.refl _ _ | apply below_drew1 | apply pw_below_drewN))) (fun hHeld => ?_)
                refine with_tabW laws_FnExactAllGroups.tab10 laws_FnExactAllGroups.bits10 (fun HT_ HW_ => ?_)
                have HBd := Aside0.mk (show Below w8.heap.size w8 w8.drew from (by repeat (first | exact Below.refl _ _ | apply below_drew1 | apply pw_below_drewN)))
                generalize w8.drew = w8d at HBd hHeld ⊢
                refine run_ [(1, 0, 1, some 41), (1, 1, 3, some 42)] ?_
                repeat (first | (apply tag0; refine run_p (v := ?_) (a' := ?_) rfl rfl (any_of HT_.out (by kernel_rfl)) (fun _ _ _ h => h) (by rfl) ?_ ?_ ?_; rotate_left 2; (intro w'; go_simp; with_reducible rfl); (first | (simp only [Act.put, List.setIfInBounds_toArray, List.set_cons_zero, List.set_cons_succ, i64_w, i32_w]; rfl) | rfl)) | (apply tag1; refine run_t (v := ?_) (a' := ?_) rfl rfl (take_ofW HT_.out HW_.out (by kernel_rfl)) (fun _ _ _ h => h) (by rfl) ?_ hHeld ?_ ?_; rotate_left 2; (rintro w' ⟨s0, s1, s2, s3⟩; go_simp; with_reducible rfl); (first | (simp only [Act.put, List.setIfInBounds_toArray, List.set_cons_zero, List.set_cons_succ, i64_w, i32_w]; rfl) | rfl)))
                refine run_nil ?_
                refine one_ (i := 2) (N := some 43) (bz 5 7) rfl rfl (one_of HT_.out (by kernel_rfl)) (by decide) (fun K hK => ?_)
                refine goes_ Tryd.func14 (by kernel_rfl) rfl #[.agg #[.int .i64 a0, .slice A0 l0.length c0]] (by rfl) rfl rfl mapT ?_
                refine (laws_toParty.calls k a0 A0 c0 l0 p1 p2 _ (Kd.C_below HR.out (below_step HB5.out (below_step H58.out HBd.out))) HC.out HP.out).mono ?_
                rintro e w9 ⟨v43, rfl, ho, hb⟩
                refine ⟨_, rfl, ?_⟩
                have H89 := Aside0.mk (below_step HBd.out hb)
                have HO43 := Aside0.mk ho
                clear ho hb
                obtain ⟨A43, c43, rfl⟩ := Kd.R_slice HO43.out
                refine hK.out _ _ (SW.out _ H89.out) (fun hHeld2 => ?_)
                clear hK K
                refine norm_ (a' := ?_) ?_ ?_
                rotate_left
                · show Act.put _ (some 43) _ = _
                  simp only [Act.put, List.setIfInBounds_toArray, List.set_cons_zero, List.set_cons_succ, i64_w, i32_w]
                  rfl
                refine one_ (i := 3) (N := some 44) (bz 5 15) rfl rfl (one_of HT_.out (by kernel_rfl)) (by decide) (fun K hK => ?_)
                refine goes_ Tryd.func17 (by kernel_rfl) rfl #[.agg #[.int .i64 p1, .slice A26 p2.length c26], .agg #[.int .i64 p1, .slice A43 p2.length c43]] (by rfl) rfl rfl mapT ?_
                refine (laws_eqParty.calls k p1 A26 c26 p2 p1 A43 c43 p2 true _ (Kd.C_below (Kd.C_below (Kd.R_reads' HO26.out).2.2 H58.out) H89.out) (Kd.R_reads' HO26.out).2.1 (Kd.R_reads' HO43.out).2.2 (Kd.R_reads' HO43.out).2.1 HE2.out).mono ?_
                rintro e w10 ⟨rfl, hb⟩
                refine ⟨_, rfl, ?_⟩
                have H810 := Aside0.mk (below_step H89.out hb)
                clear hb
                refine hK.out _ _ (SW.out _ H810.out) (fun hHeld3 => ?_)
                clear hK K
                refine norm_ (a' := ?_) ?_ ?_
                rotate_left
                · show Act.put _ (some 44) _ = _
                  simp only [Act.put, List.setIfInBounds_toArray, List.set_cons_zero, List.set_cons_succ, i64_w, i32_w]
                  rfl
                refine run_ [(0, 4, 31, some 45)] ?_
                repeat (first | (apply tag0; refine run_p (v := ?_) (a' := ?_) rfl rfl (any_of HT_.out (by kernel_rfl)) (fun _ _ _ h => h) (by rfl) ?_ ?_ ?_; rotate_left 2; (intro w'; go_simp; with_reducible rfl); (first | (simp only [Act.put, List.setIfInBounds_toArray, List.set_cons_zero, List.set_cons_succ, i64_w, i32_w]; rfl) | rfl)))
                refine run_nil ?_
                refine done_ (done_of HT_.out (by kernel_rfl)) ?_
                have H510 := Aside0.mk (below_step H58.out H810.out)
                have HO10 := Aside0.mk (Kd.S_below HO8.out H810.out)
                replace BK6 := Aside0.mk (blk_below BK6.out H810.out)
                clear HT_ HW_ hHeld hHeld2 hHeld3 SW BK1
                have hz0 := cz BK6 0
                have hz1 := cz BK6 1
                go_wp2_with (first
                  | ((with_reducible refine gate_dst (N := 48) rfl ?_); refine goC (N := some 48) Tryd.func18 #[.agg #[.int .i64 p1, .slice A26 p2.length c26], .int .i64 1] rfl ?_; refine (laws_markParty.calls k p1 (fun k_ => w4.heap.size ≤ k_ ∧ k_ < w5.heap.size) (.slice A26 p2.length c26) p2 1 m1 m2 w4 _ (H45.out.trans (H510.out.mono H45.out.size)) (Kd.R_below HO26.out H510.out) HM.out).mono ?_; rintro e w11 ⟨rfl, hr3, hb, hkp⟩; refine ⟨_, rfl, ?_⟩; have H411 := Aside0.mk hb; have HO11 := Aside0.mk (Kd.S_step HO10.out (fun k_ hk hlt => hkp.2 k_ hlt (fun h_ => by have := hk; have := h_.2; omega))); clear hr3 hb hkp hz0 hz1 BK6)
                  | ((with_reducible refine gate_dst (N := 64) rfl ?_); refine goC (N := some 64) Tryd.func42 #[.slice A29 sg.length c29, .int .i64 1] rfl ?_; refine (laws_markIntSS.calls k (fun _ => True) (.slice A29 sg.length c29) sg 1 hh q2 w4 _ H412.out (Kd.S_mono HO12.out (fun _ _ => trivial)) HQ.out).mono ?_; rintro e w13 ⟨rfl, hs3, hb, hkp⟩; refine ⟨_, rfl, ?_⟩; have HO13 := Aside0.mk hs3; have H413 := Aside0.mk hb; have E3 := Aside0.mk (Kd.S_reads' hs3).1; have BK1 := Aside0.mk ((hb.block g1 L14.out).trans BK14.out); have HW13 := Aside0.mk (HB4.out.trans (hb.mono HB4.out.size)); clear hs3 hb hkp; have hp0 := cz BK1 0; have hp1 := cz BK1 1)
                  | ((with_reducible refine gate_dst (N := 67) rfl ?_); refine goC (N := some 67) Tryd.func43 #[.slice A29 sg.length c29, .int .i64 1] rfl ?_; have hcl := laws_heldIntSS.calls k A29 c29 q2 1 hh w13 (Kd.S_reads' HO13.out).2.2 (by rw [← E3.out]; exact (Kd.S_reads' HO13.out).2.1) HH.out; rw [← E3.out] at hcl; refine hcl.mono ?_; clear hcl; rintro e w14 ⟨rfl, ⟨nd, rfl⟩⟩; refine ⟨_, rfl, ?_⟩)
                  | ((with_reducible refine gate_dst (N := 75) rfl ?_); refine goC (N := some 75) Tryd.func14 #[.agg #[.int .i64 a0, .slice A0 l0.length c0]] rfl ?_; refine (laws_toParty.calls k a0 A0 c0 l0 p1 p2 _ (Kd.C_below HR.out (pw_below_drewN HW13.out nd)) HC.out HP.out).mono ?_; rintro e w15 ⟨v75, rfl, ho, hb⟩; refine ⟨_, rfl, ?_⟩; have H1315 := Aside0.mk (below_step (pw_below_drewN (Below.refl w13.heap.size w13) nd) hb); have HO75 := Aside0.mk ho; clear ho hb hp0 hp1; obtain ⟨A75, c75, rfl⟩ := Kd.R_slice HO75.out)
                  | ((with_reducible refine gate_dst (N := 76) rfl ?_); refine goC (N := some 76) Tryd.func40 #[.agg #[.int .i64 p1, .slice A75 p2.length c75]] rfl ?_; refine (impl_AllGroups.calls k p1 A75 c75 p2 sg b _ (Kd.R_reads' HO75.out).2.2 (Kd.R_reads' HO75.out).2.1 HSG.out (GTab.up HG.out (below_step HW13.out H1315.out))).mono ?_; rintro e w16 ⟨v76, rfl, ho, hb⟩; refine ⟨_, rfl, ?_⟩; have H1316 := Aside0.mk (below_step H1315.out hb); have HO76 := Aside0.mk ho; clear ho hb; obtain ⟨A76, c76, rfl⟩ := Kd.S_slice HO76.out)
                  | ((with_reducible refine gate_dst (N := 81) rfl ?_); refine goC (N := some 81) Tryd.func41 #[.slice A76 sg.length c76, .slice A22 sw.length c22] rfl ?_; refine (laws_eqIntSS.calls k A76 c76 sg A22 c22 sw true _ (Kd.S_reads' HO76.out).2.2 (Kd.S_reads' HO76.out).2.1 (Kd.C_below HC22.out.2.2 (H413.out.trans (H1316.out.mono H413.out.size))) HC22.out.2.1 HE1.out).mono ?_; rintro e w17 ⟨rfl, hdr⟩; have hb := laws_FnExactAllGroups.db hdr; clear hdr; refine ⟨_, rfl, ?_⟩; have H1317 := Aside0.mk (below_step H1316.out hb); clear hb)
                  | ((with_reducible refine gate_dst (N := 90) rfl ?_); refine goC (N := some 90) Tryd.func43 #[.slice A29 sg.length c29, .int .i64 1] rfl ?_; have hcl := laws_heldIntSS.calls k A29 c29 q2 1 hh w17 (Kd.C_below (Kd.S_reads' HO13.out).2.2 H1317.out) (by rw [← E3.out]; exact (Kd.S_reads' HO13.out).2.1) HH.out; rw [← E3.out] at hcl; refine hcl.mono ?_; clear hcl; rintro e w18 ⟨rfl, ⟨nd2, rfl⟩⟩; refine ⟨_, rfl, ?_⟩)
                  | (go_at_call 41; refine (laws_eqIntSS.calls k A29 c29 sg A22 c22 sw true _ (Kd.S_reads' HO11.out).2.2 (Kd.S_reads' HO11.out).2.1 (Kd.C_below HC22.out.2.2 H411.out) HC22.out.2.1 HE1.out).mono ?_; rintro e w12 ⟨rfl, hdr⟩; have hb := laws_FnExactAllGroups.db hdr; clear hdr; have HO12 := Aside0.mk (Kd.S_below HO11.out hb); have H412 := Aside0.mk (below_step H411.out hb); clear hb))
                go_ret
                exact ⟨rfl, pw_below_drewN (below_step HW13.out H1317.out) nd2⟩
              · rw [if_neg cq] at h; cases h
      · rw [if_neg cb] at h; cases h

end Go.Proofs.YtjpfbkkikcpmhaaDoor.PFnExactAllGroups
