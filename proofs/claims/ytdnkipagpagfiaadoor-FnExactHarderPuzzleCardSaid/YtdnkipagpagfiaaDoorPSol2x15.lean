-- Of this session's own program wip/gen/gen.py (it drives the kit's print): contracts of the functions that the law reaches.
import Derived.Test.YtdnkipagpagfiaaDoorPSol2x0
import Derived.Test.YtdnkipagpagfiaaDoorPSol2x3
import Derived.Test.YtdnkipagpagfiaaDoorPSol2x9
import Derived.Test.YtdnkipagpagfiaaDoorPSol2x13
import Derived.Test.YtdnkipagpagfiaaDoorPSol2x14
namespace Go.Proofs.YtdnkipagpagfiaaDoor.PSol2
open Go.RowKit Go.Proofs.YtdnkipagpagfiaaDoorW.PrintWords Go.Proofs.YtdnkipagpagfiaaDoorW.PrintLast Go.Proofs.YtdnkipagpagfiaaDoorW.PrintMore Go.Proofs.YtdnkipagpagfiaaDoor.Base
attribute [local go_sem] max2_int min2_int max_two min_two max_three min_three max_four min_four   -- for this text's walks alone
set_option linter.unusedVariables false
set_option linter.unusedSimpArgs false

/-! ### laws_heldClueS: function 81 -/
def laws_heldClueS.l0 : Nat → List (S30) → Int → Int → Option (Int)
 | 0, _, _, _ => none
 | k + 1, x0, x1, x5 => if x5 < (x0.length : Int) then (if 0 ≤ x5 then (if ((rd_T30 x0 x5).f0) = x1 then (if ((rd_T30 x0 x5).f1) = (wrap64 (x1 + 1)) then (if ((rd_T30 x0 x5).f2) = (wrap64 ((wrap64 (x1 + 1)) + 1)) then (laws_heldClueS.l0 k x0 (wrap64 ((wrap64 ((wrap64 (x1 + 1)) + 1)) + 1)) (wrap64 (x5 + 1))) else (some (-1))) else (some (-1))) else (some (-1))) else (none)) else (some x1)
def laws_heldClueS.f (k : Nat) (l0 : List (S30)) (a1 : Int) : Option (Int) := laws_heldClueS.l0 k l0 a1 0
theorem laws_heldClueS.mono_l : ∀ k, (∀ y0 y1 y2, LeO (laws_heldClueS.l0 k y0 y1 y2) (laws_heldClueS.l0 (k + 1) y0 y1 y2))
 | 0 => fun _ _ _ r h => by simp [laws_heldClueS.l0] at h
 | k + 1 => by
  have ih0 := laws_heldClueS.mono_l k
  ·intro y0 y1 y2
   unfold laws_heldClueS.l0
   repeat' first
   | (with_reducible exact ih0 _ _ _)
   | (with_reducible exact LeO.refl _)
   | (with_reducible exact LeO.none _)
   | (with_reducible refine LeO.ite ?_ ?_)
   | (with_reducible refine LeO.bind ?_ (fun _ => ?_))
   | exact ih0 _ _ _
   | exact LeO.none _
   | refine LeO.ite ?_ ?_
   | refine LeO.bind ?_ (fun _ => ?_)
theorem laws_heldClueS.mono : ∀ a0 a1 k, LeO (laws_heldClueS.f k a0 a1) (laws_heldClueS.f (k + 1) a0 a1) := by
 intro a0 a1 k
 have ih0 := laws_heldClueS.mono_l k
 unfold laws_heldClueS.f
 repeat' first
   | (with_reducible exact ih0 _ _ _)
   | (with_reducible exact LeO.refl _)
   | (with_reducible exact LeO.none _)
   | (with_reducible refine LeO.ite ?_ ?_)
   | (with_reducible refine LeO.bind ?_ (fun _ => ?_))
   | exact ih0 _ _ _
   | exact LeO.none _
   | refine LeO.ite ?_ ?_
   | refine LeO.bind ?_ (fun _ => ?_)
set_option maxHeartbeats 8000000 in
set_option maxRecDepth 100000 in
theorem laws_heldClueS.calls (k : Nat) (A0 : Option Addr) (c0 : Nat) (l0 : List (S30)) (a1 : Int) (r : Int) (w : World) (hr0 : Kd.C k30 w A0 l0.length l0) (hc0 : l0.length ≤ c0) (h : laws_heldClueS.f k l0 a1 = some r) :
  Calls Tryd.prog 81 #[.slice A0 l0.length c0, .int .i64 a1] w fun e w' => e = .returned (.int .i64 r) ∧ Drawn0 w w' := by
 have HR0 := Aside0.mk hr0
 have HC0 := Aside0.mk hc0
 clear hr0 hc0
 have H : (laws_heldClueS.l0 k l0 a1 0) = some r := h
 clear h
 have H' := Aside0.mk H
 clear H
 go_enter Tryd.func81, Tryd.ntmps81
 go_wp2
 go_loopg [1, 5] k (fun kq v1 v5 w' => ∃ (x1_1 : Int) (x5_1 : Int), v1 = .int .i64 x1_1 ∧ v5 = .int .i64 x5_1 ∧ Aside0 (laws_heldClueS.l0 kq l0 x1_1 x5_1 = some r) ∧ Aside0 (kq ≤ k) ∧ Drawn0 w w')
 case atStart => exact ⟨(a1), (0), (by first | rfl | (simp; done) | (simp [*]; done)), (by first | rfl | (simp; done) | (simp [*]; done)), H', ⟨Nat.le_refl _⟩, by repeat (first | exact Drawn0.refl _ | apply Drawn0.step)⟩
 case round =>
  clear H'
  try clear p2
  obtain ⟨x1_1, x5_1, rfl, rfl, HA, HK1, ⟨m1, rfl⟩⟩ := hrel
  cases gk with
  | zero => exact absurd HA.out (by simp [laws_heldClueS.l0])
  | succ k1 =>
   have H := HA.out
   clear HA
   simp only [laws_heldClueS.l0] at H
   by_cases c3 : x5_1 < (l0.length : Int)
   ·rw [if_pos c3] at H
    have c3b0 : decide (x5_1 < (l0.length : Int)) = true := decide_eq_true c3
    clear c3
    by_cases c4 : 0 ≤ x5_1
    ·rw [if_pos c4] at H
     have c4b0 : decide (0 ≤ x5_1) = true := decide_eq_true c4
     clear c4
     by_cases c5 : ((rd_T30 l0 x5_1).f0) = x1_1
     ·rw [if_pos c5] at H
      have c5b0 : (((rd_T30 l0 x5_1).f0) == x1_1) = true := beq_iff_eq.mpr c5
      have c5b1 : (((rd_T30 l0 x5_1).f0) != x1_1) = false := bne_eq_false_iff_eq.mpr c5
      clear c5
      by_cases c6 : ((rd_T30 l0 x5_1).f1) = (wrap64 (x1_1 + 1))
      ·rw [if_pos c6] at H
       have c6b0 : (((rd_T30 l0 x5_1).f1) == (wrap64 (x1_1 + 1))) = true := beq_iff_eq.mpr c6
       have c6b1 : (((rd_T30 l0 x5_1).f1) != (wrap64 (x1_1 + 1))) = false := bne_eq_false_iff_eq.mpr c6
       clear c6
       by_cases c7 : ((rd_T30 l0 x5_1).f2) = (wrap64 ((wrap64 (x1_1 + 1)) + 1))
       ·rw [if_pos c7] at H
        have c7b0 : (((rd_T30 l0 x5_1).f2) == (wrap64 ((wrap64 (x1_1 + 1)) + 1))) = true := beq_iff_eq.mpr c7
        have c7b1 : (((rd_T30 l0 x5_1).f2) != (wrap64 ((wrap64 (x1_1 + 1)) + 1))) = false := bne_eq_false_iff_eq.mpr c7
        clear c7
        have H' := Aside0.mk H
        clear H
        have p535 : 0 ≤ (x5_1 : Int) := of_decide_eq_true (by first | (with_reducible assumption) | assumption)
        have q535 : x5_1 < (l0.length : Int) := of_decide_eq_true (by first | (with_reducible assumption) | assumption)
        obtain ⟨ad535, e535, hx535_0, hx535_1, hx535_2⟩ := at_T30 HR0.out x5_1 p535 q535
        cases e535
        replace p535 := eq_true p535
        replace q535 := eq_true q535
        have p536 : 0 ≤ (x5_1 : Int) := of_decide_eq_true (by first | (with_reducible assumption) | assumption)
        have q536 : x5_1 < (l0.length : Int) := of_decide_eq_true (by first | (with_reducible assumption) | assumption)
        obtain ⟨ad536, e536, hx536_0, hx536_1, hx536_2⟩ := at_T30 HR0.out x5_1 p536 q536
        obtain rfl : ad535 = ad536 := (by injection e536)
        replace p536 := eq_true p536
        replace q536 := eq_true q536
        have p537 : 0 ≤ (x5_1 : Int) := of_decide_eq_true (by first | (with_reducible assumption) | assumption)
        have q537 : x5_1 < (l0.length : Int) := of_decide_eq_true (by first | (with_reducible assumption) | assumption)
        obtain ⟨ad537, e537, hx537_0, hx537_1, hx537_2⟩ := at_T30 HR0.out x5_1 p537 q537
        obtain rfl : ad535 = ad537 := (by injection e537)
        replace p537 := eq_true p537
        replace q537 := eq_true q537
        go_wp2
        go_roundg k1
        case measure => have := HK1.out; omega
        case rel => exact ⟨(wrap64 ((wrap64 ((wrap64 (x1_1 + 1)) + 1)) + 1)), (wrap64 (x5_1 + 1)), (by first | rfl | (simp; done) | (simp [*]; done)), (by first | rfl | (simp; done) | (simp [*]; done)), H', ⟨by have := HK1.out; omega⟩, by repeat (first | exact Drawn0.refl _ | apply Drawn0.step)⟩
       ·rw [if_neg c7] at H
        have c7b0 : (((rd_T30 l0 x5_1).f2) == (wrap64 ((wrap64 (x1_1 + 1)) + 1))) = false := beq_eq_false_iff_ne.mpr c7
        have c7b1 : (((rd_T30 l0 x5_1).f2) != (wrap64 ((wrap64 (x1_1 + 1)) + 1))) = true := bne_iff_ne.mpr c7
        obtain rfl := Option.some.inj H
        have p535 : 0 ≤ (x5_1 : Int) := of_decide_eq_true (by first | (with_reducible assumption) | assumption)
        have q535 : x5_1 < (l0.length : Int) := of_decide_eq_true (by first | (with_reducible assumption) | assumption)
        obtain ⟨ad535, e535, hx535_0, hx535_1, hx535_2⟩ := at_T30 HR0.out x5_1 p535 q535
        cases e535
        replace p535 := eq_true p535
        replace q535 := eq_true q535
        have p536 : 0 ≤ (x5_1 : Int) := of_decide_eq_true (by first | (with_reducible assumption) | assumption)
        have q536 : x5_1 < (l0.length : Int) := of_decide_eq_true (by first | (with_reducible assumption) | assumption)
        obtain ⟨ad536, e536, hx536_0, hx536_1, hx536_2⟩ := at_T30 HR0.out x5_1 p536 q536
        obtain rfl : ad535 = ad536 := (by injection e536)
        replace p536 := eq_true p536
        replace q536 := eq_true q536
        have p537 : 0 ≤ (x5_1 : Int) := of_decide_eq_true (by first | (with_reducible assumption) | assumption)
        have q537 : x5_1 < (l0.length : Int) := of_decide_eq_true (by first | (with_reducible assumption) | assumption)
        obtain ⟨ad537, e537, hx537_0, hx537_1, hx537_2⟩ := at_T30 HR0.out x5_1 p537 q537
        obtain rfl : ad535 = ad537 := (by injection e537)
        replace p537 := eq_true p537
        replace q537 := eq_true q537
        go_wp2
        go_ret
        exact ⟨by first | rfl | (simp; done) | (simp [*]; done), by repeat (first | exact Drawn0.refl _ | apply Drawn0.step)⟩
      ·rw [if_neg c6] at H
       have c6b0 : (((rd_T30 l0 x5_1).f1) == (wrap64 (x1_1 + 1))) = false := beq_eq_false_iff_ne.mpr c6
       have c6b1 : (((rd_T30 l0 x5_1).f1) != (wrap64 (x1_1 + 1))) = true := bne_iff_ne.mpr c6
       obtain rfl := Option.some.inj H
       have p535 : 0 ≤ (x5_1 : Int) := of_decide_eq_true (by first | (with_reducible assumption) | assumption)
       have q535 : x5_1 < (l0.length : Int) := of_decide_eq_true (by first | (with_reducible assumption) | assumption)
       obtain ⟨ad535, e535, hx535_0, hx535_1, hx535_2⟩ := at_T30 HR0.out x5_1 p535 q535
       cases e535
       replace p535 := eq_true p535
       replace q535 := eq_true q535
       have p536 : 0 ≤ (x5_1 : Int) := of_decide_eq_true (by first | (with_reducible assumption) | assumption)
       have q536 : x5_1 < (l0.length : Int) := of_decide_eq_true (by first | (with_reducible assumption) | assumption)
       obtain ⟨ad536, e536, hx536_0, hx536_1, hx536_2⟩ := at_T30 HR0.out x5_1 p536 q536
       obtain rfl : ad535 = ad536 := (by injection e536)
       replace p536 := eq_true p536
       replace q536 := eq_true q536
       go_wp2
       go_ret
       exact ⟨by first | rfl | (simp; done) | (simp [*]; done), by repeat (first | exact Drawn0.refl _ | apply Drawn0.step)⟩
     ·rw [if_neg c5] at H
      have c5b0 : (((rd_T30 l0 x5_1).f0) == x1_1) = false := beq_eq_false_iff_ne.mpr c5
      have c5b1 : (((rd_T30 l0 x5_1).f0) != x1_1) = true := bne_iff_ne.mpr c5
      obtain rfl := Option.some.inj H
      have p535 : 0 ≤ (x5_1 : Int) := of_decide_eq_true (by first | (with_reducible assumption) | assumption)
      have q535 : x5_1 < (l0.length : Int) := of_decide_eq_true (by first | (with_reducible assumption) | assumption)
      obtain ⟨ad535, e535, hx535_0, hx535_1, hx535_2⟩ := at_T30 HR0.out x5_1 p535 q535
      cases e535
      replace p535 := eq_true p535
      replace q535 := eq_true q535
      go_wp2
      go_ret
      exact ⟨by first | rfl | (simp; done) | (simp [*]; done), by repeat (first | exact Drawn0.refl _ | apply Drawn0.step)⟩
    ·rw [if_neg c4] at H
     exact absurd H (by simp)
   ·rw [if_neg c3] at H
    have c3b0 : decide (x5_1 < (l0.length : Int)) = false := decide_eq_false c3
    clear c3
    obtain rfl := Option.some.inj H
    go_wp2
    go_ret
    exact ⟨by first | rfl | (simp; done) | (simp [*]; done), by repeat (first | exact Drawn0.refl _ | apply Drawn0.step)⟩

/-! ### laws_heldPuzzle: function 25 -/
def laws_heldPuzzle.f (k : Nat) (a0_0 : Int) (l0_1 : List (S30)) (a1 : Int) : Option (Int) := (laws_heldClueS.f k l0_1 a1).bind fun t539 => (if t539 < 0 then (some (-1)) else (some t539))
theorem laws_heldPuzzle.mono : ∀ a0 a1 a2 k, LeO (laws_heldPuzzle.f k a0 a1 a2) (laws_heldPuzzle.f (k + 1) a0 a1 a2) := by
 intro a0 a1 a2 k
 unfold laws_heldPuzzle.f
 repeat' first
   | (with_reducible exact laws_heldClueS.mono _ _ _)
   | (with_reducible exact LeO.refl _)
   | (with_reducible exact LeO.none _)
   | (with_reducible refine LeO.ite ?_ ?_)
   | (with_reducible refine LeO.bind ?_ (fun _ => ?_))
   | exact laws_heldClueS.mono _ _ _
   | exact LeO.none _
   | refine LeO.ite ?_ ?_
   | refine LeO.bind ?_ (fun _ => ?_)
set_option maxHeartbeats 8000000 in
set_option maxRecDepth 100000 in
theorem laws_heldPuzzle.calls (k : Nat) (a0_0 : Int) (A0_1 : Option Addr) (c0_1 : Nat) (l0_1 : List (S30)) (a1 : Int) (r : Int) (w : World) (hr0_1 : Kd.C k30 w A0_1 l0_1.length l0_1) (hc0_1 : l0_1.length ≤ c0_1) (h : laws_heldPuzzle.f k a0_0 l0_1 a1 = some r) :
  Calls Tryd.prog 25 #[.agg #[.int .i64 a0_0, .slice A0_1 l0_1.length c0_1], .int .i64 a1] w fun e w' => e = .returned (.int .i64 r) ∧ Below w.heap.size w w' := by
 have hu40 := Tryd.underlying40
 have HR0_1 := Aside0.mk hr0_1
 have HC0_1 := Aside0.mk hc0_1
 clear hr0_1 hc0_1
 have HB := Aside0.mk (Below.refl w.heap.size w)
 have H : ((laws_heldClueS.f k l0_1 a1).bind fun t539 => (if t539 < 0 then (some (-1)) else (some t539))) = some r := h
 clear h
 replace H := Option.bind_eq_some_iff.mp H
 obtain ⟨t539, A30, H⟩ := H
 try dsimp only at H
 have A3 := Aside0.mk A30
 clear A30
 by_cases c4 : t539 < 0
 ·rw [if_pos c4] at H
  have c4b0 : decide (t539 < 0) = true := decide_eq_true c4
  clear c4
  obtain rfl := Option.some.inj H
  go_enter Tryd.func25, Tryd.ntmps25
  go_wp2_with (first | ((with_reducible refine gate_dst (N := 2) rfl ?_); refine bxE 2 #[.int .i64 a0_0, .slice A0_1 l0_1.length c0_1] 40 rfl ?_; intro gb538 hg w5 hbox hb; have BK538 := Aside0.mk (hbox); have GW538 := gS HB hg; have GE538 := gS HB hg; replace HB := hS HB hb; clear hb hbox hg; have hcz6_0 := cz BK538 0; have hcz6_1 := cz BK538 1; have hfz6_0 := fz BK538 0; have hfz6_1 := fz BK538 1) | ((with_reducible refine gate_callee (f := 81) rfl ?_); refine goC (N := some 8) Tryd.func81 #[.slice A0_1 l0_1.length c0_1, .int .i64 a1] rfl ?_; (with_reducible refine (laws_heldClueS.calls k _ _ l0_1 a1 t539 _ ?side1 ?side2 A3.out).mono ?_); (case side1 => exact cS (Kd.C_below HR0_1.out HB.out)); (case side2 => exact HC0_1.out); rintro e w' ⟨rfl, ⟨nd, rfl⟩⟩; refine ⟨_, rfl, ?_⟩))
  go_ret
  exact ⟨by first | rfl | (simp [errW_none, errW_some] <;> rfl) | (simp [*, errW_none, errW_some] <;> rfl), hB⟩
 ·rw [if_neg c4] at H
  have c4b0 : decide (t539 < 0) = false := decide_eq_false c4
  clear c4
  obtain rfl := Option.some.inj H
  go_enter Tryd.func25, Tryd.ntmps25
  go_wp2_with (first | ((with_reducible refine gate_dst (N := 2) rfl ?_); refine bxE 2 #[.int .i64 a0_0, .slice A0_1 l0_1.length c0_1] 40 rfl ?_; intro gb538 hg w7 hbox hb; have BK538 := Aside0.mk (hbox); have GW538 := gS HB hg; have GE538 := gS HB hg; replace HB := hS HB hb; clear hb hbox hg; have hcz8_0 := cz BK538 0; have hcz8_1 := cz BK538 1; have hfz8_0 := fz BK538 0; have hfz8_1 := fz BK538 1) | ((with_reducible refine gate_callee (f := 81) rfl ?_); refine goC (N := some 8) Tryd.func81 #[.slice A0_1 l0_1.length c0_1, .int .i64 a1] rfl ?_; (with_reducible refine (laws_heldClueS.calls k _ _ l0_1 a1 t539 _ ?side1 ?side2 A3.out).mono ?_); (case side1 => exact cS (Kd.C_below HR0_1.out HB.out)); (case side2 => exact HC0_1.out); rintro e w' ⟨rfl, ⟨nd, rfl⟩⟩; refine ⟨_, rfl, ?_⟩))
  go_ret
  exact ⟨by first | rfl | (simp [errW_none, errW_some] <;> rfl) | (simp [*, errW_none, errW_some] <;> rfl), hB⟩

/-! ### spec_pzSolved: function 88 -/
def spec_pzSolved.f (k : Nat) (a0 : Int) (l1 : List (S30)) : Option (Bool) := (spec_pzAll.f k a0 l1).bind fun t540 => (some ((t540.length : Int) == 1))
theorem spec_pzSolved.mono : ∀ a0 a1 k, LeO (spec_pzSolved.f k a0 a1) (spec_pzSolved.f (k + 1) a0 a1) := by
 intro a0 a1 k
 unfold spec_pzSolved.f
 repeat' first
   | (with_reducible exact spec_pzAll.mono _ _ _)
   | (with_reducible exact LeO.refl _)
   | (with_reducible exact LeO.none _)
   | (with_reducible refine LeO.ite ?_ ?_)
   | (with_reducible refine LeO.bind ?_ (fun _ => ?_))
   | exact spec_pzAll.mono _ _ _
   | exact LeO.none _
   | refine LeO.ite ?_ ?_
   | refine LeO.bind ?_ (fun _ => ?_)
set_option maxHeartbeats 8000000 in
set_option maxRecDepth 100000 in
theorem spec_pzSolved.calls (k : Nat) (a0 : Int) (A1 : Option Addr) (c1 : Nat) (l1 : List (S30)) (r : Bool) (w : World) (hr1 : Kd.C k30 w A1 l1.length l1) (hc1 : l1.length ≤ c1) (h : spec_pzSolved.f k a0 l1 = some r) :
  Calls Tryd.prog 88 #[.int .i64 a0, .slice A1 l1.length c1] w fun e w' => e = .returned (.bool r) ∧ Below w.heap.size w w' := by
 have HR1 := Aside0.mk hr1
 have HC1 := Aside0.mk hc1
 clear hr1 hc1
 have HB := Aside0.mk (Below.refl w.heap.size w)
 have H : ((spec_pzAll.f k a0 l1).bind fun t540 => (some ((t540.length : Int) == 1))) = some r := h
 clear h
 replace H := Option.bind_eq_some_iff.mp H
 obtain ⟨t540, A30, H⟩ := H
 try dsimp only at H
 have A3 := Aside0.mk A30
 clear A30
 obtain rfl := Option.some.inj H
 go_enter Tryd.func88, Tryd.ntmps88
 go_wp2_with (first | ((with_reducible refine gate_callee (f := 84) rfl ?_); refine goC (N := some 7) Tryd.func84 #[.int .i64 a0, .slice A1 l1.length c1] rfl ?_; (with_reducible refine (spec_pzAll.calls k a0 _ _ l1 t540 _ ?side1 ?side2 A3.out).mono ?_); (case side1 => exact cS HR1.out); (case side2 => exact HC1.out); rintro e w4 ⟨v541, rfl, ho0, hb⟩; refine ⟨_, rfl, ?_⟩; have HO542 := Aside0.mk (Kd.N_lower (Kd.N_mono (ok' := fun k_ => True) ho0 (fun k_ hk_ => trivial)) (below_size hB)); replace HB := hS HB hb; (try clear hb); (try clear hb2); (try clear hk); (try clear hi); (try clear ho0); obtain ⟨Ao5, co5, eo5⟩ := Kd.N_slice HO542.out; subst eo5))
 go_ret
 exact ⟨by first | rfl | (simp [errW_none, errW_some] <;> rfl) | (simp [*, errW_none, errW_some] <;> rfl), hB⟩

/-! ### spec_HarderPuzzle: function 39 -/
mutual
def spec_HarderPuzzle.j0 : Nat → Bool → Int → List (S30) → Option (Int × (List (S30)) × Bool)
 | 0, _, _, _ => none
 | k + 1, x17, x544000, x544001 => if x17 = true then (some (0, ([] : List (S30)), false)) else ((some (([] : List (S30)) : List (S30))).bind fun y547 => (if y547.length + x544001.length < 5864062014805 then (spec_HarderPuzzle.l0 k (y547 ++ x544001) 0 x544000 x544001) else (none)))
def spec_HarderPuzzle.l0 : Nat → List (S30) → Int → Int → List (S30) → Option (Int × (List (S30)) × Bool)
 | 0, _, _, _, _ => none
 | k + 1, x4, x5, x544000, x544001 => if x5 < (x4.length : Int) then ((spec_pzWithout.f x4 x5).bind fun t553 => ((spec_pzSolved.f k x544000 t553).bind fun t556 => (if t556 = true then (spec_HarderPuzzle.l0 k t553 x5 x544000 x544001) else (spec_HarderPuzzle.l0 k x4 (wrap64 (x5 + 1)) x544000 x544001)))) else (some (x544000, x4, true))
end
def spec_HarderPuzzle.f (k : Nat) (a0_0 : Int) (l0_1 : List (S30)) : Option (Int × (List (S30)) × Bool) := (spec_pzGood.f k a0_0 l0_1).bind fun t545 => (if t545 = true then ((spec_pzSolved.f k a0_0 l0_1).bind fun t546 => (spec_HarderPuzzle.j0 k (!t546) a0_0 l0_1)) else (spec_HarderPuzzle.j0 k true a0_0 l0_1))
theorem spec_HarderPuzzle.mono_l : ∀ k, (∀ y0 y1 y2, LeO (spec_HarderPuzzle.j0 k y0 y1 y2) (spec_HarderPuzzle.j0 (k + 1) y0 y1 y2)) ∧ (∀ y0 y1 y2 y3, LeO (spec_HarderPuzzle.l0 k y0 y1 y2 y3) (spec_HarderPuzzle.l0 (k + 1) y0 y1 y2 y3))
 | 0 => ⟨fun _ _ _ r h => by simp [spec_HarderPuzzle.j0] at h, fun _ _ _ _ r h => by simp [spec_HarderPuzzle.l0] at h⟩
 | k + 1 => by
  obtain ⟨ih0, ih1⟩ := spec_HarderPuzzle.mono_l k
  refine ⟨?_, ?_⟩
  ·intro y0 y1 y2
   unfold spec_HarderPuzzle.j0
   repeat' first
   | (with_reducible exact ih0 _ _ _)
   | (with_reducible exact ih1 _ _ _ _)
   | (with_reducible exact spec_pzGood.mono _ _ _)
   | (with_reducible exact spec_pzSolved.mono _ _ _)
   | (with_reducible exact LeO.refl _)
   | (with_reducible exact LeO.none _)
   | (with_reducible refine LeO.ite ?_ ?_)
   | (with_reducible refine LeO.bind ?_ (fun _ => ?_))
   | exact ih0 _ _ _
   | exact ih1 _ _ _ _
   | exact spec_pzGood.mono _ _ _
   | exact spec_pzSolved.mono _ _ _
   | exact LeO.none _
   | refine LeO.ite ?_ ?_
   | refine LeO.bind ?_ (fun _ => ?_)
  ·intro y0 y1 y2 y3
   unfold spec_HarderPuzzle.l0
   repeat' first
   | (with_reducible exact ih0 _ _ _)
   | (with_reducible exact ih1 _ _ _ _)
   | (with_reducible exact spec_pzGood.mono _ _ _)
   | (with_reducible exact spec_pzSolved.mono _ _ _)
   | (with_reducible exact LeO.refl _)
   | (with_reducible exact LeO.none _)
   | (with_reducible refine LeO.ite ?_ ?_)
   | (with_reducible refine LeO.bind ?_ (fun _ => ?_))
   | exact ih0 _ _ _
   | exact ih1 _ _ _ _
   | exact spec_pzGood.mono _ _ _
   | exact spec_pzSolved.mono _ _ _
   | exact LeO.none _
   | refine LeO.ite ?_ ?_
   | refine LeO.bind ?_ (fun _ => ?_)
theorem spec_HarderPuzzle.mono : ∀ a0 a1 k, LeO (spec_HarderPuzzle.f k a0 a1) (spec_HarderPuzzle.f (k + 1) a0 a1) := by
 intro a0 a1 k
 obtain ⟨ih0, ih1⟩ := spec_HarderPuzzle.mono_l k
 unfold spec_HarderPuzzle.f
 repeat' first
   | (with_reducible exact ih0 _ _ _)
   | (with_reducible exact ih1 _ _ _ _)
   | (with_reducible exact spec_pzGood.mono _ _ _)
   | (with_reducible exact spec_pzSolved.mono _ _ _)
   | (with_reducible exact LeO.refl _)
   | (with_reducible exact LeO.none _)
   | (with_reducible refine LeO.ite ?_ ?_)
   | (with_reducible refine LeO.bind ?_ (fun _ => ?_))
   | exact ih0 _ _ _
   | exact ih1 _ _ _ _
   | exact spec_pzGood.mono _ _ _
   | exact spec_pzSolved.mono _ _ _
   | exact LeO.none _
   | refine LeO.ite ?_ ?_
   | refine LeO.bind ?_ (fun _ => ?_)
set_option maxHeartbeats 8000000 in
set_option maxRecDepth 100000 in
theorem spec_HarderPuzzle.calls (k : Nat) (a0_0 : Int) (A0_1 : Option Addr) (c0_1 : Nat) (l0_1 : List (S30)) (r1 : Int) (r2 : List (S30)) (r3 : Bool) (w : World) (hr0_1 : Kd.C k30 w A0_1 l0_1.length l0_1) (hc0_1 : l0_1.length ≤ c0_1) (h : spec_HarderPuzzle.f k a0_0 l0_1 = some (r1, r2, r3)) :
  Calls Tryd.prog 39 #[.agg #[.int .i64 a0_0, .slice A0_1 l0_1.length c0_1]] w fun e w' => ∃ v1_ : Value, e = .returned (.tuple #[.agg #[.int .i64 r1, v1_], .bool r3]) ∧ Kd.R k30 30 w' w.heap.size (fun _ => True) v1_ r2 ∧ Below w.heap.size w w' := by
 have hu40 := Tryd.underlying40
 have HR0_1 := Aside0.mk hr0_1
 have HC0_1 := Aside0.mk hc0_1
 clear hr0_1 hc0_1
 have HB := Aside0.mk (Below.refl w.heap.size w)
 have H : ((spec_pzGood.f k a0_0 l0_1).bind fun t545 => (if t545 = true then ((spec_pzSolved.f k a0_0 l0_1).bind fun t546 => (spec_HarderPuzzle.j0 k (!t546) a0_0 l0_1)) else (spec_HarderPuzzle.j0 k true a0_0 l0_1))) = some (r1, r2, r3) := h
 clear h
 have HC2 := Aside0.mk H
 clear H
 go_enter Tryd.func39, Tryd.ntmps39
 go_upto_region 1 with (first | ((with_reducible refine gate_dst (N := 1) rfl ?_); refine bxE 1 #[.int .i64 a0_0, .slice A0_1 l0_1.length c0_1] 40 rfl ?_; intro gb543 hg w3 hbox hb; have BK543 := Aside0.mk (hbox); have GW543 := gS HB hg; have GE543 := gS HB hg; replace HB := hS HB hb; clear hb hbox hg) | ((with_reducible refine gate_dst (N := 2) rfl ?_); refine bxE 2 #[.int .i64 0, .slice none 0 0] 40 rfl ?_; intro gb544 hg w4 hbox hb; have BK544 := Aside0.mk (hbox); have GW544 := gS HB hg; have GE544 := gS HB hg; have NB543_544 := nL BK543 hg; have NB544_543 := nG BK543 hg; replace BK543 := bS BK543 hb; replace HB := hS HB hb; clear hb hbox hg))
 (try simp only [Act.put, List.setIfInBounds_toArray, List.set_cons_zero, List.set_cons_succ])
 go_cut [17] (fun v17 wc => ∃ (kq : Nat) (x17_1 : Bool), v17 = .bool x17_1 ∧ Aside0 (spec_HarderPuzzle.j0 kq x17_1 a0_0 l0_1 = some (r1, r2, r3)) ∧ Aside0 (kq ≤ k) ∧ Aside0 (wc.heap[gb543]? = some (.cells #[.int .i64 a0_0, (.slice A0_1 l0_1.length c0_1)] 40 (0, 0))) ∧ Aside0 (wc.heap[gb544]? = some (.cells #[.int .i64 0, (.slice none 0 0)] 40 (0, 0))) ∧ Aside0 (Below w.heap.size w wc))
 case first =>
  have H := HC2.out
  clear HC2
  replace H := Option.bind_eq_some_iff.mp H
  obtain ⟨t545, A50, H⟩ := H
  try dsimp only at H
  have A5 := Aside0.mk A50
  clear A50
  by_cases c6 : t545 = true
  ·subst c6
   rw [if_pos rfl] at H
   replace H := Option.bind_eq_some_iff.mp H
   obtain ⟨t546, A70, H⟩ := H
   try dsimp only at H
   have A7 := Aside0.mk A70
   clear A70
   have H' := Aside0.mk H
   clear H
   have hnb8 := NB543_544.out
   have hnc8 := NB544_543.out
   have hcz9_0 := cz BK543 0
   have hcz9_1 := cz BK543 1
   have hfz9_0 := fz BK543 0
   have hfz9_1 := fz BK543 1
   go_wp2_with (first | ((with_reducible refine gate_callee (f := 83) rfl ?_); refine goC (N := some 8) Tryd.func83 #[.agg #[.int .i64 a0_0, .slice A0_1 l0_1.length c0_1]] rfl ?_; (with_reducible refine (spec_pzGood.calls k a0_0 _ _ l0_1 true _ ?side1 ?side2 A5.out).mono ?_); (case side1 => exact cS (Kd.C_below HR0_1.out HB.out)); (case side2 => exact HC0_1.out); rintro e w10 ⟨rfl, hb⟩; refine ⟨_, rfl, ?_⟩; replace BK543 := bS BK543 hb; replace BK544 := bS BK544 hb; replace HB := hS HB hb; (try clear hb); (try clear hb2); (try clear hk); (try clear hi); have hcz11_0 := cz BK543 0; have hcz11_1 := cz BK543 1; have hfz11_0 := fz BK543 0; have hfz11_1 := fz BK543 1) | (go_at_call 88; (with_reducible refine (spec_pzSolved.calls k a0_0 _ _ l0_1 t546 _ ?side1 ?side2 A7.out).mono ?_); (case side1 => exact cS (Kd.C_below HR0_1.out HB.out)); (case side2 => exact HC0_1.out); rintro e w12 ⟨rfl, hb⟩; replace BK543 := bS BK543 hb; replace BK544 := bS BK544 hb; replace HB := hS HB hb; (try clear hb); (try clear hb2); (try clear hk); (try clear hi)))
   go_meet
   case rel => exact ⟨_, (!t546), (by first | rfl | (simp; done) | (simp [*]; done)), H', ⟨by first | omega | exact Nat.le_refl _⟩, ⟨bK⟩, ⟨bK⟩, ⟨hB⟩⟩
  ·replace c6 := Bool.eq_false_iff.mpr c6
   subst c6
   rw [if_neg (show ¬ (false = true) by decide)] at H
   have H' := Aside0.mk H
   clear H
   have hnb13 := NB543_544.out
   have hnc13 := NB544_543.out
   have hcz14_0 := cz BK543 0
   have hcz14_1 := cz BK543 1
   have hfz14_0 := fz BK543 0
   have hfz14_1 := fz BK543 1
   go_wp2_with (first | ((with_reducible refine gate_callee (f := 83) rfl ?_); refine goC (N := some 8) Tryd.func83 #[.agg #[.int .i64 a0_0, .slice A0_1 l0_1.length c0_1]] rfl ?_; (with_reducible refine (spec_pzGood.calls k a0_0 _ _ l0_1 false _ ?side1 ?side2 A5.out).mono ?_); (case side1 => exact cS (Kd.C_below HR0_1.out HB.out)); (case side2 => exact HC0_1.out); rintro e w15 ⟨rfl, hb⟩; refine ⟨_, rfl, ?_⟩; replace BK543 := bS BK543 hb; replace BK544 := bS BK544 hb; replace HB := hS HB hb; (try clear hb); (try clear hb2); (try clear hk); (try clear hi)))
   go_meet
   case rel => exact ⟨_, (true), (by first | rfl | (simp; done) | (simp [*]; done)), H', ⟨by first | omega | exact Nat.le_refl _⟩, ⟨bK⟩, ⟨bK⟩, ⟨hB⟩⟩
 case rest =>
  clear HC2
  try clear c1
  try clear p2
  try clear c3
  try clear c6
  try clear c8
  try clear c13
  try clear hcz11_0
  try clear hcz11_1
  try clear hcz14_0
  try clear hcz14_1
  try clear hcz9_0
  try clear hcz9_1
  try clear hfz11_0
  try clear hfz11_1
  try clear hfz14_0
  try clear hfz14_1
  try clear hfz9_0
  try clear hfz9_1
  obtain ⟨kq, x17_1, rfl, HA, HJ1, BK543, BK544, HB⟩ := hcut
  cases kq with
  | zero => exact absurd HA.out (by simp [spec_HarderPuzzle.j0])
  | succ kj1 =>
   have H := HA.out
   clear HA
   simp only [spec_HarderPuzzle.j0] at H
   by_cases c16 : x17_1 = true
   ·subst c16
    rw [if_pos rfl] at H
    simp only [Option.some.injEq, Prod.mk.injEq] at H
    obtain ⟨rfl, rfl, rfl⟩ := H
    have hnb17 := NB544_543.out
    have hnc17 := NB543_544.out
    have hcz18_0 := cz BK544 0
    have hcz18_1 := cz BK544 1
    have hfz18_0 := fz BK544 0
    have hfz18_1 := fz BK544 1
    go_wp2
    refine bodyPost_ret (results_ct rfl _ _ gb544 40 #[.int .i64 0, .slice none 0 0] (0, 0) _ rfl (by (with_reducible repeat (first | refine blk_drewN ?_ _ | refine blk_drew ?_ | refine blk_alloc ?_ _)); refine blk_put (cs := #[.int .i64 0, .slice none 0 0]) ?_ 1 _ rfl; (with_reducible repeat (first | refine blk_drewN ?_ _ | refine blk_drew ?_ | refine blk_alloc ?_ _)); refine blk_put (cs := #[.int .i64 0, .slice none 0 0]) ?_ 0 _ rfl; (with_reducible repeat (first | refine blk_drewN ?_ _ | refine blk_drew ?_ | refine blk_alloc ?_ _)); exact BK544.out) Tryd.underlying40 rfl (by kernel_rfl)) rfl ?_
    exact ⟨_, by first | rfl | (simp [errW_none, errW_some] <;> rfl) | (simp [*, errW_none, errW_some] <;> rfl), by first | exact Kd.R_nil _ _ _ _ _ | exact Kd.N_nil _ _ _ _ _ | exact Kd.V_nil _ _ _ _ _ | exact Kd.Q_nil _ _ _ _ _ | exact Kd.S_nil _ _ _ _ _, hB⟩
   ·replace c16 := Bool.eq_false_iff.mpr c16
    subst c16
    rw [if_neg (show ¬ (false = true) by decide)] at H
    obtain ⟨y547, hy547⟩ : ∃ y_ : List (S30), y_ = (([] : List (S30))) := ⟨_, rfl⟩
    replace H : (if y547.length + l0_1.length < 5864062014805 then (spec_HarderPuzzle.l0 kj1 (y547 ++ l0_1) 0 a0_0 l0_1) else (none)) = some (r1, r2, r3) := by first | (rw [hy547]; with_reducible exact H) | (have H2_ := (Option.bind_some _ _).symm.trans H; rw [hy547]; with_reducible exact H2_) | (have H2_ := (Option.bind_some _ _).symm.trans H; with_reducible exact H2_) | with_reducible exact H | (rw [hy547]; exact H) | exact H
    have Ny547 := Aside0.mk hy547
    clear hy547
    by_cases c19 : y547.length + l0_1.length < 5864062014805
    ·rw [if_pos c19] at H
     have LMc19 := Aside0.mk c19
     clear c19
     obtain ⟨y550, hy550⟩ : ∃ y_ : List (S30), y_ = (y547 ++ l0_1) := ⟨_, rfl⟩
     replace H : (spec_HarderPuzzle.l0 kj1 y550 0 a0_0 l0_1) = some (r1, r2, r3) := by first | (rw [hy550]; with_reducible exact H) | (have H2_ := (Option.bind_some _ _).symm.trans H; rw [hy550]; with_reducible exact H2_) | (have H2_ := (Option.bind_some _ _).symm.trans H; with_reducible exact H2_) | with_reducible exact H | (rw [hy550]; exact H) | exact H
     have Ny550 := Aside0.mk hy550
     clear hy550
     have H' := Aside0.mk H
     clear H
     go_wp2_with (first | ((with_reducible refine gate_dst (N := 19) rfl ?_); refine Kd.R_lit k30 _ 30 ?hg (N := 19) ?hd (xs := ([] : List (S30))) (inner := []) (ok := fun _ => True) (okp := fun _ => True) ?hr ?hp (fun _ hk => hk) trivial (Below.refl _ _) (Nat.le_refl _) (by simp) ?_; (case hd => rfl); (case hg => rfl); (case hr => first | (go_simp; done) | (go_simp; rfl)); (case hp => exact (Reps.none _ _)); intro v548 w20 ho21 hb hg_ hnew_; clear hg_ hnew_; (first | rw [← Ny547.out] at ho21 | (simp only [Int.reduceToNat] at ho21; rw [← Ny547.out] at ho21)); have HO549 := Aside0.mk (Kd.R_lower ho21 (below_size hB)); replace BK543 := bS BK543 hb; replace BK544 := bS BK544 hb; replace HB := hS HB hb; clear hb ho21; have hnb22 := NB543_544.out; have hnc22 := NB544_543.out; have hcz23_0 := cz BK543 0; have hcz23_1 := cz BK543 1; have hfz23_0 := fz BK543 0; have hfz23_1 := fz BK543 1) | ((with_reducible refine gate_builtin (b := .append) (xs := #[.tmp 19, .tmp 21]) rfl ?_); at_builtin; refine Kd.R_append_rows k30 (w0 := w) w.heap.size rfl (.tmp 19) (.tmp 21) 38 30 (.agg #[(.int .i64 0), (.int .i64 0), (.int .i64 0)]) 24 rfl Tryd.underlying38 info30 rfl (by decide) (by omega) v548 y547 l0_1 _ _ _ (fun _ => True) (fun _ => False) rfl rfl ?aO ?aR (fun _ _ h => h) (fun _ h => h.elim) ?aF ?aB ?aS ?aL ?_; (case aR => repeat (first | exact (Kd.C_below HR0_1.out HB.out) | (with_reducible refine Kd.C_alloc ?_ _) | (with_reducible refine Kd.C_drewN ?_ _) | (with_reducible refine Kd.C_drew ?_))); (case aB => exact hB); (case aF => exact (fun _ _ => trivial)); (case aO => exact (rU HO549)); (case aS => exact (below_size hB)); (case aL => have := LMc19.out; omega); intro v551 w24 ho hb hg hat; rw [← Ny550.out] at ho; have n0_ := Aside0.mk (blk_grown (g := gb543) (o := .cells #[.int .i64 a0_0, .slice A0_1 l0_1.length c0_1] 40 (0, 0)) bK hg (Kd.R_ne HO549.out BK543.out (by decide))); have n1_ := Aside0.mk (blk_grown (g := gb544) (o := .cells #[.int .i64 0, .slice none 0 0] 40 (0, 0)) bK hg (Kd.R_ne HO549.out BK544.out (by decide))); have n2_ := Aside0.mk (hb); have n3_ := Aside0.mk (ho); clear BK543; clear BK544; clear HB; clear HO549; have BK543 := n0_; have BK544 := n1_; have HB := n2_; have HO552 := n3_; clear n0_ n1_ n2_ n3_; clear ho hb hg hat))
     go_loopg [4, 5] kj1 (fun kq v4 v5 w' => ∃ (x4_2 : List (S30)) (x5_2 : Int), v5 = .int .i64 x5_2 ∧ Aside0 (spec_HarderPuzzle.l0 kq x4_2 x5_2 a0_0 l0_1 = some (r1, r2, r3)) ∧ Aside0 (kq ≤ kj1) ∧ Aside0 (Kd.R k30 30 w' w.heap.size (fun _ => True) v4 x4_2) ∧ Aside0 (w'.heap[gb543]? = some (.cells #[.int .i64 a0_0, (.slice A0_1 l0_1.length c0_1)] 40 (0, 0))) ∧ Aside0 (w'.heap[gb544]? = some (.cells #[.int .i64 0, (.slice none 0 0)] 40 (0, 0))) ∧ Aside0 (Below w.heap.size w w'))
     case atStart => exact ⟨(y550), (0), (by first | rfl | (simp; done) | (simp [*]; done)), H', ⟨Nat.le_refl _⟩, ⟨rU HO552⟩, ⟨bK⟩, ⟨bK⟩, ⟨hB⟩⟩
     case round =>
      clear H'
      try clear c1
      try clear c2
      try clear p2
      try clear c3
      try clear c6
      try clear c8
      try clear c13
      try clear c16
      try clear c17
      try clear c19
      try clear c22
      try clear hcz11_0
      try clear hcz11_1
      try clear hcz14_0
      try clear hcz14_1
      try clear hcz18_0
      try clear hcz18_1
      try clear hcz23_0
      try clear hcz23_1
      try clear hcz9_0
      try clear hcz9_1
      try clear hfz11_0
      try clear hfz11_1
      try clear hfz14_0
      try clear hfz14_1
      try clear hfz18_0
      try clear hfz18_1
      try clear hfz23_0
      try clear hfz23_1
      try clear hfz9_0
      try clear hfz9_1
      try clear p2
      obtain ⟨x4_2, x5_2, rfl, HA, HK2, HO_4, BK543, BK544, HB⟩ := hrel
      cases gk with
      | zero => exact absurd HA.out (by simp [spec_HarderPuzzle.l0])
      | succ k2 =>
       have H := HA.out
       clear HA
       simp only [spec_HarderPuzzle.l0] at H
       by_cases c25 : x5_2 < (x4_2.length : Int)
       ·rw [if_pos c25] at H
        have c25b0 : decide (x5_2 < (x4_2.length : Int)) = true := decide_eq_true c25
        clear c25
        replace H := Option.bind_eq_some_iff.mp H
        obtain ⟨t553, A260, H⟩ := H
        try dsimp only at H
        have A26 := Aside0.mk A260
        clear A260
        replace H := Option.bind_eq_some_iff.mp H
        obtain ⟨t556, A270, H⟩ := H
        try dsimp only at H
        have A27 := Aside0.mk A270
        clear A270
        by_cases c28 : t556 = true
        ·subst c28
         rw [if_pos rfl] at H
         have H' := Aside0.mk H
         clear H
         obtain ⟨Ao29, co29, eo29⟩ := Kd.R_slice HO_4.out
         subst eo29
         go_wp2_with (first | ((with_reducible refine gate_callee (f := 90) rfl ?_); refine goC (N := some 29) Tryd.func90 #[.slice Ao29 x4_2.length co29, .int .i64 x5_2] rfl ?_; (with_reducible refine (spec_pzWithout.calls _ _ x4_2 x5_2 t553 _ ?side1 ?side2 A26.out).mono ?_); (case side1 => exact cS (Kd.R_reads' HO_4.out).2.2); (case side2 => exact (Kd.R_reads' HO_4.out).2.1); rintro e w30 ⟨v554, rfl, ho0, hb⟩; refine ⟨_, rfl, ?_⟩; have HO555 := Aside0.mk (Kd.R_lower (Kd.R_new' ho0 (Kd.R_lt (rU HO_4))) (below_size hB)); replace HO_4 := Aside0.mk (Kd.R_elder' (rU HO_4) (Kd.R_base ho0) hb); replace BK543 := bS BK543 hb; replace BK544 := bS BK544 hb; replace HB := hS HB hb; (try clear hb); (try clear hb2); (try clear hk); (try clear hi); (try clear ho0); have hnb31 := NB543_544.out; have hnc31 := NB544_543.out; have hcz32_0 := cz BK543 0; have hcz32_1 := cz BK543 1; have hfz32_0 := fz BK543 0; have hfz32_1 := fz BK543 1; obtain ⟨Ao33, co33, eo33⟩ := Kd.R_slice HO555.out; subst eo33) | ((with_reducible refine gate_callee (f := 88) rfl ?_); refine goC (N := some 33) Tryd.func88 #[.int .i64 a0_0, .slice Ao33 t553.length co33] rfl ?_; (with_reducible refine (spec_pzSolved.calls k2 a0_0 _ _ t553 true _ ?side1 ?side2 A27.out).mono ?_); (case side1 => exact cS (Kd.R_reads' HO555.out).2.2); (case side2 => exact (Kd.R_reads' HO555.out).2.1); rintro e w34 ⟨rfl, hb⟩; refine ⟨_, rfl, ?_⟩; replace HO_4 := Aside0.mk (Kd.R_below (rU HO_4) hb); replace HO555 := Aside0.mk (Kd.R_below (rU HO555) hb); replace BK543 := bS BK543 hb; replace BK544 := bS BK544 hb; replace HB := hS HB hb; (try clear hb); (try clear hb2); (try clear hk); (try clear hi)))
         go_roundg k2
         case measure => have := HJ1.out; have := HK2.out; omega
         case rel => exact ⟨(t553), (x5_2), (by first | rfl | (simp; done) | (simp [*]; done)), H', ⟨by have := HJ1.out; have := HK2.out; omega⟩, ⟨by (with_reducible repeat (first | apply Kd.R_alloc | apply Kd.R_drewN | apply Kd.R_drew)); exact Kd.R_mono HO555.out (fun _ hk => trivial)⟩, ⟨bK⟩, ⟨bK⟩, ⟨hB⟩⟩
        ·replace c28 := Bool.eq_false_iff.mpr c28
         subst c28
         rw [if_neg (show ¬ (false = true) by decide)] at H
         have H' := Aside0.mk H
         clear H
         obtain ⟨Ao35, co35, eo35⟩ := Kd.R_slice HO_4.out
         subst eo35
         go_wp2_with (first | ((with_reducible refine gate_callee (f := 90) rfl ?_); refine goC (N := some 29) Tryd.func90 #[.slice Ao35 x4_2.length co35, .int .i64 x5_2] rfl ?_; (with_reducible refine (spec_pzWithout.calls _ _ x4_2 x5_2 t553 _ ?side1 ?side2 A26.out).mono ?_); (case side1 => exact cS (Kd.R_reads' HO_4.out).2.2); (case side2 => exact (Kd.R_reads' HO_4.out).2.1); rintro e w36 ⟨v554, rfl, ho0, hb⟩; refine ⟨_, rfl, ?_⟩; have HO555 := Aside0.mk (Kd.R_lower (Kd.R_new' ho0 (Kd.R_lt (rU HO_4))) (below_size hB)); replace HO_4 := Aside0.mk (Kd.R_elder' (rU HO_4) (Kd.R_base ho0) hb); replace BK543 := bS BK543 hb; replace BK544 := bS BK544 hb; replace HB := hS HB hb; (try clear hb); (try clear hb2); (try clear hk); (try clear hi); (try clear ho0); have hnb37 := NB543_544.out; have hnc37 := NB544_543.out; have hcz38_0 := cz BK543 0; have hcz38_1 := cz BK543 1; have hfz38_0 := fz BK543 0; have hfz38_1 := fz BK543 1; obtain ⟨Ao39, co39, eo39⟩ := Kd.R_slice HO555.out; subst eo39) | ((with_reducible refine gate_callee (f := 88) rfl ?_); refine goC (N := some 33) Tryd.func88 #[.int .i64 a0_0, .slice Ao39 t553.length co39] rfl ?_; (with_reducible refine (spec_pzSolved.calls k2 a0_0 _ _ t553 false _ ?side1 ?side2 A27.out).mono ?_); (case side1 => exact cS (Kd.R_reads' HO555.out).2.2); (case side2 => exact (Kd.R_reads' HO555.out).2.1); rintro e w40 ⟨rfl, hb⟩; refine ⟨_, rfl, ?_⟩; replace HO_4 := Aside0.mk (Kd.R_below (rU HO_4) hb); replace HO555 := Aside0.mk (Kd.R_below (rU HO555) hb); replace BK543 := bS BK543 hb; replace BK544 := bS BK544 hb; replace HB := hS HB hb; (try clear hb); (try clear hb2); (try clear hk); (try clear hi)))
         go_roundg k2
         case measure => have := HJ1.out; have := HK2.out; omega
         case rel => exact ⟨(x4_2), (wrap64 (x5_2 + 1)), (by first | rfl | (simp; done) | (simp [*]; done)), H', ⟨by have := HJ1.out; have := HK2.out; omega⟩, ⟨by (with_reducible repeat (first | apply Kd.R_alloc | apply Kd.R_drewN | apply Kd.R_drew)); exact Kd.R_mono HO_4.out (fun _ hk => trivial)⟩, ⟨bK⟩, ⟨bK⟩, ⟨hB⟩⟩
       ·rw [if_neg c25] at H
        have c25b0 : decide (x5_2 < (x4_2.length : Int)) = false := decide_eq_false c25
        clear c25
        simp only [Option.some.injEq, Prod.mk.injEq] at H
        obtain ⟨rfl, rfl, rfl⟩ := H
        obtain ⟨Ao41, co41, eo41⟩ := Kd.R_slice HO_4.out
        subst eo41
        have hnb42 := NB543_544.out
        have hnc42 := NB544_543.out
        have hcz43_0 := cz BK543 0
        have hcz43_1 := cz BK543 1
        have hfz43_0 := fz BK543 0
        have hfz43_1 := fz BK543 1
        have hcz44_0 := cz BK544 0
        have hcz44_1 := cz BK544 1
        have hfz44_0 := fz BK544 0
        have hfz44_1 := fz BK544 1
        go_wp2
        refine bodyPost_ret (results_ct rfl _ _ gb544 40 #[.int .i64 a0_0, .slice Ao41 x4_2.length co41] (0, 0) _ rfl (by (with_reducible repeat (first | refine blk_drewN ?_ _ | refine blk_drew ?_ | refine blk_alloc ?_ _)); refine blk_put (cs := #[.int .i64 a0_0, .slice none 0 0]) ?_ 1 _ rfl; (with_reducible repeat (first | refine blk_drewN ?_ _ | refine blk_drew ?_ | refine blk_alloc ?_ _)); refine blk_put (cs := #[.int .i64 0, .slice none 0 0]) ?_ 0 _ rfl; (with_reducible repeat (first | refine blk_drewN ?_ _ | refine blk_drew ?_ | refine blk_alloc ?_ _)); exact BK544.out) Tryd.underlying40 rfl (by kernel_rfl)) rfl ?_
        exact ⟨_, by first | rfl | (simp [errW_none, errW_some] <;> rfl) | (simp [*, errW_none, errW_some] <;> rfl), by (with_reducible repeat (first | apply Kd.R_alloc | apply Kd.R_drewN | apply Kd.R_drew)); exact Kd.R_mono (Kd.R_far (p := ⟨gb544, 1, none⟩) (Kd.R_far (p := ⟨gb544, 0, none⟩) (Kd.R_types HO_4.out BK544.out (by decide)) (fun _ hk => hk.2) (.int .i64 a0_0)) (fun _ hk => hk.2) (.slice Ao41 x4_2.length co41)) (fun _ hk => trivial), hB⟩
    ·rw [if_neg c19] at H
     exact absurd H (by simp)

/-! ### impl_IsSolved: function 31 -/
def impl_IsSolved.f (k : Nat) (a0_0 : Int) (l0_1 : List (S30)) : Option (Bool × Bool) := (impl_CountSolutions.f k a0_0 l0_1).bind fun bt558 => (some ((bt558.1 == 1), bt558.2))
theorem impl_IsSolved.mono : ∀ a0 a1 k, LeO (impl_IsSolved.f k a0 a1) (impl_IsSolved.f (k + 1) a0 a1) := by
 intro a0 a1 k
 unfold impl_IsSolved.f
 repeat' first
   | (with_reducible exact impl_CountSolutions.mono _ _ _)
   | (with_reducible exact LeO.refl _)
   | (with_reducible exact LeO.none _)
   | (with_reducible refine LeO.ite ?_ ?_)
   | (with_reducible refine LeO.bind ?_ (fun _ => ?_))
   | exact impl_CountSolutions.mono _ _ _
   | exact LeO.none _
   | refine LeO.ite ?_ ?_
   | refine LeO.bind ?_ (fun _ => ?_)
set_option maxHeartbeats 8000000 in
set_option maxRecDepth 100000 in
theorem impl_IsSolved.calls (k : Nat) (a0_0 : Int) (A0_1 : Option Addr) (c0_1 : Nat) (l0_1 : List (S30)) (r1 : Bool) (r2 : Bool) (w : World) (hr0_1 : Kd.C k30 w A0_1 l0_1.length l0_1) (hc0_1 : l0_1.length ≤ c0_1) (h : impl_IsSolved.f k a0_0 l0_1 = some (r1, r2)) (hG : GTab 0 w := by first | exact Aside0.out ‹Aside0 (GTab _ _)› | exact GTab.up (Aside0.out ‹Aside0 (GTab _ _)›) (by repeat (first | (with_reducible first | exact Below.refl _ _ | exact Aside0.out ‹Aside0 (Below _ _ _)› | apply below_alloc | apply pw_below_drewN | apply below_drew1 | refine below_set ?_ (Aside0.out (by assumption))) | exact Aside0.out ‹Aside0 (Below _ _ _)›))) :
  Calls Tryd.prog 31 #[.agg #[.int .i64 a0_0, .slice A0_1 l0_1.length c0_1]] w fun e w' => e = .returned (.tuple #[.bool r1, .bool r2]) ∧ Below w.heap.size w w' := by
 have hu40 := Tryd.underlying40
 have HG := Aside0.mk (p := GTab _ _) hG
 clear hG
 have HR0_1 := Aside0.mk hr0_1
 have HC0_1 := Aside0.mk hc0_1
 clear hr0_1 hc0_1
 have HB := Aside0.mk (Below.refl w.heap.size w)
 have H : ((impl_CountSolutions.f k a0_0 l0_1).bind fun bt558 => (some ((bt558.1 == 1), bt558.2))) = some (r1, r2) := h
 clear h
 replace H := Option.bind_eq_some_iff.mp H
 obtain ⟨⟨t558, t559⟩, A20, H⟩ := H
 try dsimp only at H
 have A2 := Aside0.mk A20
 clear A20
 simp only [Option.some.injEq, Prod.mk.injEq] at H
 obtain ⟨rfl, rfl⟩ := H
 go_enter Tryd.func31, Tryd.ntmps31
 go_wp2_with (first | ((with_reducible refine gate_dst (N := 1) rfl ?_); refine bxE 1 #[.int .i64 a0_0, .slice A0_1 l0_1.length c0_1] 40 rfl ?_; intro gb557 hg w3 hbox hb; have BK557 := Aside0.mk (hbox); have GW557 := gS HB hg; have GE557 := gS HB hg; replace HB := hS HB hb; clear hb hbox hg; have hcz4_0 := cz BK557 0; have hcz4_1 := cz BK557 1; have hfz4_0 := fz BK557 0; have hfz4_1 := fz BK557 1) | ((with_reducible refine gate_callee (f := 29) rfl ?_); refine goC (N := some 8) Tryd.func29 #[.agg #[.int .i64 a0_0, .slice A0_1 l0_1.length c0_1]] rfl ?_; (with_reducible refine (impl_CountSolutions.calls k a0_0 _ _ l0_1 t558 t559 _ ?side1 ?side2 A2.out).mono ?_); (case side1 => exact cS (Kd.C_below HR0_1.out HB.out)); (case side2 => exact HC0_1.out); rintro e w5 ⟨rfl, hb⟩; refine ⟨_, rfl, ?_⟩; replace BK557 := bS BK557 hb; replace HB := hS HB hb; (try clear hb); (try clear hb2); (try clear hk); (try clear hi)))
 go_ret2
 exact ⟨by first | rfl | (simp [errW_none, errW_some] <;> rfl) | (simp [*, errW_none, errW_some] <;> rfl), hB⟩

/-! ### impl_HarderPuzzle: function 40 -/
def impl_HarderPuzzle.l0 : Nat → List (S30) → Int → Int → List (S30) → Option (Int × (List (S30)) × Bool)
 | 0, _, _, _, _ => none
 | k + 1, x6, x7, x561000, x561001 => if x7 < (x6.length : Int) then ((impl_dropped.f x6 x7).bind fun t567 => ((impl_solutions.f k x561000 t567).bind fun t570 => (if (t570.length : Int) = 1 then (impl_HarderPuzzle.l0 k t567 x7 x561000 x561001) else (impl_HarderPuzzle.l0 k x6 (wrap64 (x7 + 1)) x561000 x561001)))) else (some (x561000, x6, true))
def impl_HarderPuzzle.f (k : Nat) (a0_0 : Int) (l0_1 : List (S30)) : Option (Int × (List (S30)) × Bool) := (impl_IsSolved.f k a0_0 l0_1).bind fun bt562 => (if bt562.1 = true then ((impl_Clue_92.f l0_1).bind fun t564 => (impl_HarderPuzzle.l0 k t564 0 a0_0 l0_1)) else (some (0, ([] : List (S30)), false)))
theorem impl_HarderPuzzle.mono_l : ∀ k, (∀ y0 y1 y2 y3, LeO (impl_HarderPuzzle.l0 k y0 y1 y2 y3) (impl_HarderPuzzle.l0 (k + 1) y0 y1 y2 y3))
 | 0 => fun _ _ _ _ r h => by simp [impl_HarderPuzzle.l0] at h
 | k + 1 => by
  have ih0 := impl_HarderPuzzle.mono_l k
  ·intro y0 y1 y2 y3
   unfold impl_HarderPuzzle.l0
   repeat' first
   | (with_reducible exact ih0 _ _ _ _)
   | (with_reducible exact impl_IsSolved.mono _ _ _)
   | (with_reducible exact impl_solutions.mono _ _ _)
   | (with_reducible exact LeO.refl _)
   | (with_reducible exact LeO.none _)
   | (with_reducible refine LeO.ite ?_ ?_)
   | (with_reducible refine LeO.bind ?_ (fun _ => ?_))
   | exact ih0 _ _ _ _
   | exact impl_IsSolved.mono _ _ _
   | exact impl_solutions.mono _ _ _
   | exact LeO.none _
   | refine LeO.ite ?_ ?_
   | refine LeO.bind ?_ (fun _ => ?_)
theorem impl_HarderPuzzle.mono : ∀ a0 a1 k, LeO (impl_HarderPuzzle.f k a0 a1) (impl_HarderPuzzle.f (k + 1) a0 a1) := by
 intro a0 a1 k
 have ih0 := impl_HarderPuzzle.mono_l k
 unfold impl_HarderPuzzle.f
 repeat' first
   | (with_reducible exact ih0 _ _ _ _)
   | (with_reducible exact impl_IsSolved.mono _ _ _)
   | (with_reducible exact impl_solutions.mono _ _ _)
   | (with_reducible exact LeO.refl _)
   | (with_reducible exact LeO.none _)
   | (with_reducible refine LeO.ite ?_ ?_)
   | (with_reducible refine LeO.bind ?_ (fun _ => ?_))
   | exact ih0 _ _ _ _
   | exact impl_IsSolved.mono _ _ _
   | exact impl_solutions.mono _ _ _
   | exact LeO.none _
   | refine LeO.ite ?_ ?_
   | refine LeO.bind ?_ (fun _ => ?_)
set_option maxHeartbeats 8000000 in
set_option maxRecDepth 100000 in
theorem impl_HarderPuzzle.calls (k : Nat) (a0_0 : Int) (A0_1 : Option Addr) (c0_1 : Nat) (l0_1 : List (S30)) (r1 : Int) (r2 : List (S30)) (r3 : Bool) (w : World) (hr0_1 : Kd.C k30 w A0_1 l0_1.length l0_1) (hc0_1 : l0_1.length ≤ c0_1) (h : impl_HarderPuzzle.f k a0_0 l0_1 = some (r1, r2, r3)) (hG : GTab 0 w := by first | exact Aside0.out ‹Aside0 (GTab _ _)› | exact GTab.up (Aside0.out ‹Aside0 (GTab _ _)›) (by repeat (first | (with_reducible first | exact Below.refl _ _ | exact Aside0.out ‹Aside0 (Below _ _ _)› | apply below_alloc | apply pw_below_drewN | apply below_drew1 | refine below_set ?_ (Aside0.out (by assumption))) | exact Aside0.out ‹Aside0 (Below _ _ _)›))) :
  Calls Tryd.prog 40 #[.agg #[.int .i64 a0_0, .slice A0_1 l0_1.length c0_1]] w fun e w' => ∃ v1_ : Value, e = .returned (.tuple #[.agg #[.int .i64 r1, v1_], .bool r3]) ∧ Kd.R k30 30 w' w.heap.size (fun _ => True) v1_ r2 ∧ Below w.heap.size w w' := by
 have hu40 := Tryd.underlying40
 have HG := Aside0.mk (p := GTab _ _) hG
 clear hG
 have HR0_1 := Aside0.mk hr0_1
 have HC0_1 := Aside0.mk hc0_1
 clear hr0_1 hc0_1
 have HB := Aside0.mk (Below.refl w.heap.size w)
 have H : ((impl_IsSolved.f k a0_0 l0_1).bind fun bt562 => (if bt562.1 = true then ((impl_Clue_92.f l0_1).bind fun t564 => (impl_HarderPuzzle.l0 k t564 0 a0_0 l0_1)) else (some (0, ([] : List (S30)), false)))) = some (r1, r2, r3) := h
 clear h
 replace H := Option.bind_eq_some_iff.mp H
 obtain ⟨⟨t562, t563⟩, A20, H⟩ := H
 try dsimp only at H
 have A2 := Aside0.mk A20
 clear A20
 by_cases c3 : t562 = true
 ·subst c3
  rw [if_pos rfl] at H
  replace H := Option.bind_eq_some_iff.mp H
  obtain ⟨t564, A40, H⟩ := H
  try dsimp only at H
  have A4 := Aside0.mk A40
  clear A40
  have H' := Aside0.mk H
  clear H
  go_enter Tryd.func40, Tryd.ntmps40
  go_wp2_with (first | ((with_reducible refine gate_dst (N := 1) rfl ?_); refine bxE 1 #[.int .i64 a0_0, .slice A0_1 l0_1.length c0_1] 40 rfl ?_; intro gb560 hg w5 hbox hb; have BK560 := Aside0.mk (hbox); have GW560 := gS HB hg; have GE560 := gS HB hg; replace HB := hS HB hb; clear hb hbox hg) | ((with_reducible refine gate_dst (N := 2) rfl ?_); refine bxE 2 #[.int .i64 0, .slice none 0 0] 40 rfl ?_; intro gb561 hg w6 hbox hb; have BK561 := Aside0.mk (hbox); have GW561 := gS HB hg; have GE561 := gS HB hg; have NB560_561 := nL BK560 hg; have NB561_560 := nG BK560 hg; replace BK560 := bS BK560 hb; replace HB := hS HB hb; clear hb hbox hg; have hnb7 := NB560_561.out; have hnc7 := NB561_560.out; have hcz8_0 := cz BK560 0; have hcz8_1 := cz BK560 1; have hfz8_0 := fz BK560 0; have hfz8_1 := fz BK560 1) | ((with_reducible refine gate_callee (f := 31) rfl ?_); refine goC (N := some 11) Tryd.func31 #[.agg #[.int .i64 a0_0, .slice A0_1 l0_1.length c0_1]] rfl ?_; (with_reducible refine (impl_IsSolved.calls k a0_0 _ _ l0_1 true t563 _ ?side1 ?side2 A2.out).mono ?_); (case side1 => exact cS (Kd.C_below HR0_1.out HB.out)); (case side2 => exact HC0_1.out); rintro e w9 ⟨rfl, hb⟩; refine ⟨_, rfl, ?_⟩; replace BK560 := bS BK560 hb; replace BK561 := bS BK561 hb; replace HB := hS HB hb; (try clear hb); (try clear hb2); (try clear hk); (try clear hi); have hcz10_0 := cz BK560 0; have hcz10_1 := cz BK560 1; have hfz10_0 := fz BK560 0; have hfz10_1 := fz BK560 1) | ((with_reducible refine gate_callee (f := 92) rfl ?_); refine goC (N := some 19) Tryd.func92 #[.slice A0_1 l0_1.length c0_1] rfl ?_; (with_reducible refine (impl_Clue_92.calls _ _ l0_1 t564 _ ?side1 ?side2 A4.out).mono ?_); (case side1 => exact cS (Kd.C_below HR0_1.out HB.out)); (case side2 => exact HC0_1.out); rintro e w11 ⟨v565, rfl, ho0, hb⟩; refine ⟨_, rfl, ?_⟩; have HO566 := Aside0.mk (Kd.R_lower ho0 (below_size hB)); replace BK560 := bS BK560 hb; replace BK561 := bS BK561 hb; replace HB := hS HB hb; (try clear hb); (try clear hb2); (try clear hk); (try clear hi); (try clear ho0)))
  go_loopg [6, 7] k (fun kq v6 v7 w' => ∃ (x6_1 : List (S30)) (x7_1 : Int), v7 = .int .i64 x7_1 ∧ Aside0 (impl_HarderPuzzle.l0 kq x6_1 x7_1 a0_0 l0_1 = some (r1, r2, r3)) ∧ Aside0 (kq ≤ k) ∧ Aside0 (Kd.R k30 30 w' w.heap.size (fun _ => True) v6 x6_1) ∧ Aside0 (w'.heap[gb560]? = some (.cells #[.int .i64 a0_0, (.slice A0_1 l0_1.length c0_1)] 40 (0, 0))) ∧ Aside0 (w'.heap[gb561]? = some (.cells #[.int .i64 0, (.slice none 0 0)] 40 (0, 0))) ∧ Aside0 (Below w.heap.size w w'))
  case atStart => exact ⟨(t564), (0), (by first | rfl | (simp; done) | (simp [*]; done)), H', ⟨Nat.le_refl _⟩, ⟨rU HO566⟩, ⟨bK⟩, ⟨bK⟩, ⟨hB⟩⟩
  case round =>
   clear H'
   try clear p2
   try clear c3
   try clear c4
   try clear c7
   try clear c9
   try clear hcz10_0
   try clear hcz10_1
   try clear hcz8_0
   try clear hcz8_1
   try clear hfz10_0
   try clear hfz10_1
   try clear hfz8_0
   try clear hfz8_1
   obtain ⟨x6_1, x7_1, rfl, HA, HK1, HO_6, BK560, BK561, HB⟩ := hrel
   cases gk with
   | zero => exact absurd HA.out (by simp [impl_HarderPuzzle.l0])
   | succ k1 =>
    have H := HA.out
    clear HA
    simp only [impl_HarderPuzzle.l0] at H
    by_cases c12 : x7_1 < (x6_1.length : Int)
    ·rw [if_pos c12] at H
     have c12b0 : decide (x7_1 < (x6_1.length : Int)) = true := decide_eq_true c12
     clear c12
     replace H := Option.bind_eq_some_iff.mp H
     obtain ⟨t567, A130, H⟩ := H
     try dsimp only at H
     have A13 := Aside0.mk A130
     clear A130
     replace H := Option.bind_eq_some_iff.mp H
     obtain ⟨t570, A140, H⟩ := H
     try dsimp only at H
     have A14 := Aside0.mk A140
     clear A140
     by_cases c15 : (t570.length : Int) = 1
     ·rw [if_pos c15] at H
      have c15b0 : ((t570.length : Int) == 1) = true := beq_iff_eq.mpr c15
      have c15b1 : ((t570.length : Int) != 1) = false := bne_eq_false_iff_eq.mpr c15
      clear c15
      have H' := Aside0.mk H
      clear H
      obtain ⟨Ao16, co16, eo16⟩ := Kd.R_slice HO_6.out
      subst eo16
      go_wp2_with (first | ((with_reducible refine gate_callee (f := 91) rfl ?_); refine goC (N := some 26) Tryd.func91 #[.slice Ao16 x6_1.length co16, .int .i64 x7_1] rfl ?_; (with_reducible refine (impl_dropped.calls _ _ x6_1 x7_1 t567 _ ?side1 ?side2 A13.out).mono ?_); (case side1 => exact cS (Kd.R_reads' HO_6.out).2.2); (case side2 => exact (Kd.R_reads' HO_6.out).2.1); rintro e w17 ⟨v568, rfl, ho0, hb⟩; refine ⟨_, rfl, ?_⟩; have HO569 := Aside0.mk (Kd.R_lower (Kd.R_new' ho0 (Kd.R_lt (rU HO_6))) (below_size hB)); replace HO_6 := Aside0.mk (Kd.R_elder' (rU HO_6) (Kd.R_base ho0) hb); replace BK560 := bS BK560 hb; replace BK561 := bS BK561 hb; replace HB := hS HB hb; (try clear hb); (try clear hb2); (try clear hk); (try clear hi); (try clear ho0); have hnb18 := NB560_561.out; have hnc18 := NB561_560.out; have hcz19_0 := cz BK560 0; have hcz19_1 := cz BK560 1; have hfz19_0 := fz BK560 0; have hfz19_1 := fz BK560 1; obtain ⟨Ao20, co20, eo20⟩ := Kd.R_slice HO569.out; subst eo20) | ((with_reducible refine gate_callee (f := 89) rfl ?_); refine goC (N := some 30) Tryd.func89 #[.int .i64 a0_0, .slice Ao20 t567.length co20] rfl ?_; (with_reducible refine (impl_solutions.calls k1 a0_0 _ _ t567 t570 _ ?side1 ?side2 A14.out).mono ?_); (case side1 => exact cS (Kd.R_reads' HO569.out).2.2); (case side2 => exact (Kd.R_reads' HO569.out).2.1); rintro e w21 ⟨v571, rfl, ho0, hb⟩; refine ⟨_, rfl, ?_⟩; have HO572 := Aside0.mk (Kd.S_lower ho0 (below_size hB)); replace HO_6 := Aside0.mk (Kd.R_below (rU HO_6) hb); replace HO569 := Aside0.mk (Kd.R_below (rU HO569) hb); replace BK560 := bS BK560 hb; replace BK561 := bS BK561 hb; replace HB := hS HB hb; (try clear hb); (try clear hb2); (try clear hk); (try clear hi); (try clear ho0); obtain ⟨Ao22, co22, eo22⟩ := Kd.S_slice HO572.out; subst eo22))
      go_roundg k1
      case measure => have := HK1.out; omega
      case rel => exact ⟨(t567), (x7_1), (by first | rfl | (simp; done) | (simp [*]; done)), H', ⟨by have := HK1.out; omega⟩, ⟨by (with_reducible repeat (first | apply Kd.R_alloc | apply Kd.R_drewN | apply Kd.R_drew)); exact Kd.R_mono HO569.out (fun _ hk => trivial)⟩, ⟨bK⟩, ⟨bK⟩, ⟨hB⟩⟩
     ·rw [if_neg c15] at H
      have c15b0 : ((t570.length : Int) == 1) = false := beq_eq_false_iff_ne.mpr c15
      have c15b1 : ((t570.length : Int) != 1) = true := bne_iff_ne.mpr c15
      have H' := Aside0.mk H
      clear H
      obtain ⟨Ao23, co23, eo23⟩ := Kd.R_slice HO_6.out
      subst eo23
      go_wp2_with (first | ((with_reducible refine gate_callee (f := 91) rfl ?_); refine goC (N := some 26) Tryd.func91 #[.slice Ao23 x6_1.length co23, .int .i64 x7_1] rfl ?_; (with_reducible refine (impl_dropped.calls _ _ x6_1 x7_1 t567 _ ?side1 ?side2 A13.out).mono ?_); (case side1 => exact cS (Kd.R_reads' HO_6.out).2.2); (case side2 => exact (Kd.R_reads' HO_6.out).2.1); rintro e w24 ⟨v568, rfl, ho0, hb⟩; refine ⟨_, rfl, ?_⟩; have HO569 := Aside0.mk (Kd.R_lower (Kd.R_new' ho0 (Kd.R_lt (rU HO_6))) (below_size hB)); replace HO_6 := Aside0.mk (Kd.R_elder' (rU HO_6) (Kd.R_base ho0) hb); replace BK560 := bS BK560 hb; replace BK561 := bS BK561 hb; replace HB := hS HB hb; (try clear hb); (try clear hb2); (try clear hk); (try clear hi); (try clear ho0); have hnb25 := NB560_561.out; have hnc25 := NB561_560.out; have hcz26_0 := cz BK560 0; have hcz26_1 := cz BK560 1; have hfz26_0 := fz BK560 0; have hfz26_1 := fz BK560 1; obtain ⟨Ao27, co27, eo27⟩ := Kd.R_slice HO569.out; subst eo27) | ((with_reducible refine gate_callee (f := 89) rfl ?_); refine goC (N := some 30) Tryd.func89 #[.int .i64 a0_0, .slice Ao27 t567.length co27] rfl ?_; (with_reducible refine (impl_solutions.calls k1 a0_0 _ _ t567 t570 _ ?side1 ?side2 A14.out).mono ?_); (case side1 => exact cS (Kd.R_reads' HO569.out).2.2); (case side2 => exact (Kd.R_reads' HO569.out).2.1); rintro e w28 ⟨v571, rfl, ho0, hb⟩; refine ⟨_, rfl, ?_⟩; have HO572 := Aside0.mk (Kd.S_lower ho0 (below_size hB)); replace HO_6 := Aside0.mk (Kd.R_below (rU HO_6) hb); replace HO569 := Aside0.mk (Kd.R_below (rU HO569) hb); replace BK560 := bS BK560 hb; replace BK561 := bS BK561 hb; replace HB := hS HB hb; (try clear hb); (try clear hb2); (try clear hk); (try clear hi); (try clear ho0); obtain ⟨Ao29, co29, eo29⟩ := Kd.S_slice HO572.out; subst eo29))
      go_roundg k1
      case measure => have := HK1.out; omega
      case rel => exact ⟨(x6_1), (wrap64 (x7_1 + 1)), (by first | rfl | (simp; done) | (simp [*]; done)), H', ⟨by have := HK1.out; omega⟩, ⟨by (with_reducible repeat (first | apply Kd.R_alloc | apply Kd.R_drewN | apply Kd.R_drew)); exact Kd.R_mono HO_6.out (fun _ hk => trivial)⟩, ⟨bK⟩, ⟨bK⟩, ⟨hB⟩⟩
    ·rw [if_neg c12] at H
     have c12b0 : decide (x7_1 < (x6_1.length : Int)) = false := decide_eq_false c12
     clear c12
     simp only [Option.some.injEq, Prod.mk.injEq] at H
     obtain ⟨rfl, rfl, rfl⟩ := H
     obtain ⟨Ao30, co30, eo30⟩ := Kd.R_slice HO_6.out
     subst eo30
     have hnb31 := NB560_561.out
     have hnc31 := NB561_560.out
     have hcz32_0 := cz BK560 0
     have hcz32_1 := cz BK560 1
     have hfz32_0 := fz BK560 0
     have hfz32_1 := fz BK560 1
     have hcz33_0 := cz BK561 0
     have hcz33_1 := cz BK561 1
     have hfz33_0 := fz BK561 0
     have hfz33_1 := fz BK561 1
     go_wp2
     refine bodyPost_ret (results_ct rfl _ _ gb561 40 #[.int .i64 a0_0, .slice Ao30 x6_1.length co30] (0, 0) _ rfl (by (with_reducible repeat (first | refine blk_drewN ?_ _ | refine blk_drew ?_ | refine blk_alloc ?_ _)); refine blk_put (cs := #[.int .i64 a0_0, .slice none 0 0]) ?_ 1 _ rfl; (with_reducible repeat (first | refine blk_drewN ?_ _ | refine blk_drew ?_ | refine blk_alloc ?_ _)); refine blk_put (cs := #[.int .i64 0, .slice none 0 0]) ?_ 0 _ rfl; (with_reducible repeat (first | refine blk_drewN ?_ _ | refine blk_drew ?_ | refine blk_alloc ?_ _)); exact BK561.out) Tryd.underlying40 rfl (by kernel_rfl)) rfl ?_
     exact ⟨_, by first | rfl | (simp [errW_none, errW_some] <;> rfl) | (simp [*, errW_none, errW_some] <;> rfl), by (with_reducible repeat (first | apply Kd.R_alloc | apply Kd.R_drewN | apply Kd.R_drew)); exact Kd.R_mono (Kd.R_far (p := ⟨gb561, 1, none⟩) (Kd.R_far (p := ⟨gb561, 0, none⟩) (Kd.R_types HO_6.out BK561.out (by decide)) (fun _ hk => hk.2) (.int .i64 a0_0)) (fun _ hk => hk.2) (.slice Ao30 x6_1.length co30)) (fun _ hk => trivial), hB⟩
 ·replace c3 := Bool.eq_false_iff.mpr c3
  subst c3
  rw [if_neg (show ¬ (false = true) by decide)] at H
  simp only [Option.some.injEq, Prod.mk.injEq] at H
  obtain ⟨rfl, rfl, rfl⟩ := H
  go_enter Tryd.func40, Tryd.ntmps40
  go_wp2_with (first | ((with_reducible refine gate_dst (N := 1) rfl ?_); refine bxE 1 #[.int .i64 a0_0, .slice A0_1 l0_1.length c0_1] 40 rfl ?_; intro gb560 hg w34 hbox hb; have BK560 := Aside0.mk (hbox); have GW560 := gS HB hg; have GE560 := gS HB hg; replace HB := hS HB hb; clear hb hbox hg) | ((with_reducible refine gate_dst (N := 2) rfl ?_); refine bxE 2 #[.int .i64 0, .slice none 0 0] 40 rfl ?_; intro gb561 hg w35 hbox hb; have BK561 := Aside0.mk (hbox); have GW561 := gS HB hg; have GE561 := gS HB hg; have NB560_561 := nL BK560 hg; have NB561_560 := nG BK560 hg; replace BK560 := bS BK560 hb; replace HB := hS HB hb; clear hb hbox hg; have hnb36 := NB560_561.out; have hnc36 := NB561_560.out; have hcz37_0 := cz BK560 0; have hcz37_1 := cz BK560 1; have hfz37_0 := fz BK560 0; have hfz37_1 := fz BK560 1) | ((with_reducible refine gate_callee (f := 31) rfl ?_); refine goC (N := some 11) Tryd.func31 #[.agg #[.int .i64 a0_0, .slice A0_1 l0_1.length c0_1]] rfl ?_; (with_reducible refine (impl_IsSolved.calls k a0_0 _ _ l0_1 false t563 _ ?side1 ?side2 A2.out).mono ?_); (case side1 => exact cS (Kd.C_below HR0_1.out HB.out)); (case side2 => exact HC0_1.out); rintro e w38 ⟨rfl, hb⟩; refine ⟨_, rfl, ?_⟩; replace BK560 := bS BK560 hb; replace BK561 := bS BK561 hb; replace HB := hS HB hb; (try clear hb); (try clear hb2); (try clear hk); (try clear hi); have hcz39_0 := cz BK561 0; have hcz39_1 := cz BK561 1; have hfz39_0 := fz BK561 0; have hfz39_1 := fz BK561 1))
  refine bodyPost_ret (results_ct rfl _ _ gb561 40 #[.int .i64 0, .slice none 0 0] (0, 0) _ rfl (by (with_reducible repeat (first | refine blk_drewN ?_ _ | refine blk_drew ?_ | refine blk_alloc ?_ _)); refine blk_put (cs := #[.int .i64 0, .slice none 0 0]) ?_ 1 _ rfl; (with_reducible repeat (first | refine blk_drewN ?_ _ | refine blk_drew ?_ | refine blk_alloc ?_ _)); refine blk_put (cs := #[.int .i64 0, .slice none 0 0]) ?_ 0 _ rfl; (with_reducible repeat (first | refine blk_drewN ?_ _ | refine blk_drew ?_ | refine blk_alloc ?_ _)); exact BK561.out) Tryd.underlying40 rfl (by kernel_rfl)) rfl ?_
  exact ⟨_, by first | rfl | (simp [errW_none, errW_some] <;> rfl) | (simp [*, errW_none, errW_some] <;> rfl), by first | exact Kd.R_nil _ _ _ _ _ | exact Kd.N_nil _ _ _ _ _ | exact Kd.V_nil _ _ _ _ _ | exact Kd.Q_nil _ _ _ _ _ | exact Kd.S_nil _ _ _ _ _, hB⟩

end Go.Proofs.YtdnkipagpagfiaaDoor.PSol2
