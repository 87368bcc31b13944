-- Of this session's own program wip/gen/gen.py (it drives the kit's print): contracts of the functions that the law reaches.
import Derived.Test.YtjpfbkkikcpmhaaPFnExactMendSeatsx0
import Derived.Test.YtjpfbkkikcpmhaaPFnExactMendSeatsx1
import Derived.Test.YtjpfbkkikcpmhaaPFnExactMendSeatsx4
import Derived.Test.YtjpfbkkikcpmhaaPFnExactMendSeatsx7
namespace Go.Proofs.Ytjpfbkkikcpmhaa.PFnExactMendSeats
open Go.RowKit Go.Proofs.YtjpfbkkikcpmhaaW.PrintWords Go.Proofs.YtjpfbkkikcpmhaaW.PrintLast Go.Proofs.YtjpfbkkikcpmhaaW.PrintMore Go.Proofs.Ytjpfbkkikcpmhaa.Base
attribute [local go_sem] max2_int min2_int max_two min_two max_three min_three max_four min_four   -- for this text's walks alone
set_option linter.unusedVariables false
set_option linter.unusedSimpArgs false

/-! ### laws_heldIntS: function 17 -/
def laws_heldIntS.l0 : Nat → List Int → Int → Int → Option (Int)
 | 0, _, _, _ => none
 | k + 1, x0, x1, x5 => if x5 < (x0.length : Int) then (if 0 ≤ x5 then (if (rd x0 x5) = x1 then (laws_heldIntS.l0 k x0 (wrap64 (x1 + 1)) (wrap64 (x5 + 1))) else (some (-1))) else (none)) else (some x1)
def laws_heldIntS.f (k : Nat) (l0 : List Int) (a1 : Int) : Option (Int) := laws_heldIntS.l0 k l0 a1 0
theorem laws_heldIntS.mono_l : ∀ k, (∀ y0 y1 y2, LeO (laws_heldIntS.l0 k y0 y1 y2) (laws_heldIntS.l0 (k + 1) y0 y1 y2))
 | 0 => fun _ _ _ r h => by simp [laws_heldIntS.l0] at h
 | k + 1 => by
  have ih0 := laws_heldIntS.mono_l k
  ·intro y0 y1 y2
   unfold laws_heldIntS.l0
   repeat' first
   | (with_reducible exact ih0 _ _ _)
   | (with_reducible exact LeO.refl _)
   | (with_reducible exact LeO.none _)
   | (with_reducible refine LeO.ite ?_ ?_)
   | (with_reducible refine LeO.bind ?_ (fun _ => ?_))
   | exact ih0 _ _ _
   | exact LeO.none _
   | refine LeO.ite ?_ ?_
   | refine LeO.bind ?_ (fun _ => ?_)
theorem laws_heldIntS.mono : ∀ a0 a1 k, LeO (laws_heldIntS.f k a0 a1) (laws_heldIntS.f (k + 1) a0 a1) := by
 intro a0 a1 k
 have ih0 := laws_heldIntS.mono_l k
 unfold laws_heldIntS.f
 repeat' first
   | (with_reducible exact ih0 _ _ _)
   | (with_reducible exact LeO.refl _)
   | (with_reducible exact LeO.none _)
   | (with_reducible refine LeO.ite ?_ ?_)
   | (with_reducible refine LeO.bind ?_ (fun _ => ?_))
   | exact ih0 _ _ _
   | exact LeO.none _
   | refine LeO.ite ?_ ?_
   | refine LeO.bind ?_ (fun _ => ?_)
set_option maxHeartbeats 8000000 in
set_option maxRecDepth 100000 in
theorem laws_heldIntS.calls (k : Nat) (A0 : Option Addr) (c0 : Nat) (l0 : List Int) (a1 : Int) (r : Int) (w : World) (hr0 : Kd.C (Kd.int .i64) w A0 l0.length l0) (hc0 : l0.length ≤ c0) (h : laws_heldIntS.f k l0 a1 = some r) :
  Calls Try.prog 17 #[.slice A0 l0.length c0, .int .i64 a1] w fun e w' => e = .returned (.int .i64 r) ∧ Drawn0 w w' := by
 have HR0 := Aside0.mk hr0
 have HC0 := Aside0.mk hc0
 clear hr0 hc0
 have H : (laws_heldIntS.l0 k l0 a1 0) = some r := h
 clear h
 have H' := Aside0.mk H
 clear H
 go_enter Try.func17, Try.ntmps17
 go_wp2
 go_loopg [1, 5] k (fun kq v1 v5 w' => ∃ (x1_1 : Int) (x5_1 : Int), v1 = .int .i64 x1_1 ∧ v5 = .int .i64 x5_1 ∧ Aside0 (laws_heldIntS.l0 kq l0 x1_1 x5_1 = some r) ∧ Aside0 (kq ≤ k) ∧ Drawn0 w w')
 case atStart => exact ⟨(a1), (0), (by first | rfl | (simp; done) | (simp [*]; done)), (by first | rfl | (simp; done) | (simp [*]; done)), H', ⟨Nat.le_refl _⟩, by repeat (first | exact Drawn0.refl _ | apply Drawn0.step)⟩
 case round =>
  clear H'
  try clear c1
  try clear p2
  obtain ⟨x1_1, x5_1, rfl, rfl, HA, HK1, ⟨m1, rfl⟩⟩ := hrel
  cases gk with
  | zero => exact absurd HA.out (by simp [laws_heldIntS.l0])
  | succ k1 =>
   have H := HA.out
   clear HA
   simp only [laws_heldIntS.l0] at H
   by_cases c3 : x5_1 < (l0.length : Int)
   ·rw [if_pos c3] at H
    have c3b0 : decide (x5_1 < (l0.length : Int)) = true := decide_eq_true c3
    clear c3
    by_cases c4 : 0 ≤ x5_1
    ·rw [if_pos c4] at H
     have c4b0 : decide (0 ≤ x5_1) = true := decide_eq_true c4
     clear c4
     by_cases c5 : (rd l0 x5_1) = x1_1
     ·rw [if_pos c5] at H
      have c5b0 : ((rd l0 x5_1) == x1_1) = true := beq_iff_eq.mpr c5
      have c5b1 : ((rd l0 x5_1) != x1_1) = false := bne_eq_false_iff_eq.mpr c5
      clear c5
      have H' := Aside0.mk H
      clear H
      have p265 : 0 ≤ (x5_1 : Int) := of_decide_eq_true (by first | (with_reducible assumption) | assumption)
      have q265 : x5_1 < (l0.length : Int) := of_decide_eq_true (by first | (with_reducible assumption) | assumption)
      obtain ⟨ad265, e265, hx265_0⟩ := Kd.at_int HR0.out x5_1 p265 q265
      cases e265
      replace p265 := eq_true p265
      replace q265 := eq_true q265
      go_wp2
      go_roundg k1
      case measure => have := HK1.out; omega
      case rel => exact ⟨(wrap64 (x1_1 + 1)), (wrap64 (x5_1 + 1)), (by first | rfl | (simp; done) | (simp [*]; done)), (by first | rfl | (simp; done) | (simp [*]; done)), H', ⟨by have := HK1.out; omega⟩, by repeat (first | exact Drawn0.refl _ | apply Drawn0.step)⟩
     ·rw [if_neg c5] at H
      have c5b0 : ((rd l0 x5_1) == x1_1) = false := beq_eq_false_iff_ne.mpr c5
      have c5b1 : ((rd l0 x5_1) != x1_1) = true := bne_iff_ne.mpr c5
      obtain rfl := Option.some.inj H
      have p265 : 0 ≤ (x5_1 : Int) := of_decide_eq_true (by first | (with_reducible assumption) | assumption)
      have q265 : x5_1 < (l0.length : Int) := of_decide_eq_true (by first | (with_reducible assumption) | assumption)
      obtain ⟨ad265, e265, hx265_0⟩ := Kd.at_int HR0.out x5_1 p265 q265
      cases e265
      replace p265 := eq_true p265
      replace q265 := eq_true q265
      go_wp2
      go_ret
      exact ⟨by first | rfl | (simp; done) | (simp [*]; done), by repeat (first | exact Drawn0.refl _ | apply Drawn0.step)⟩
    ·rw [if_neg c4] at H
     exact absurd H (by simp)
   ·rw [if_neg c3] at H
    have c3b0 : decide (x5_1 < (l0.length : Int)) = false := decide_eq_false c3
    clear c3
    obtain rfl := Option.some.inj H
    go_wp2
    go_ret
    exact ⟨by first | rfl | (simp; done) | (simp [*]; done), by repeat (first | exact Drawn0.refl _ | apply Drawn0.step)⟩

/-! ### laws_FnExactMendSeats: function 4 -/
def laws_FnExactMendSeats.f (k : Nat) (a0_0 : Int) (l0_1 : List (S64)) (l1 : List Int) : Option (Bool) := if (l1.length : Int) > 1048576 then (some true) else ((laws_szParty.f a0_0 l0_1 1048576).bind fun t267 => (if t267 < 0 then (some true) else ((laws_toParty.f k a0_0 l0_1).bind fun bt268 => ((laws_toIntS.f k l1).bind fun t272 => ((spec_MendSeats.f k bt268.1 bt268.2 t272).bind fun bt275 => ((laws_toParty.f k a0_0 l0_1).bind fun bt279 => ((laws_toIntS.f k l1).bind fun t284 => ((impl_MendSeats.f k bt279.1 bt279.2 t284).bind fun bt287 => ((laws_eqIntS.f k bt287.1 bt275.1).bind fun t291 => (if t291 = true then (if (bt287.2 != bt275.2) = true then (none) else ((laws_toParty.f k a0_0 l0_1).bind fun bt292 => ((laws_eqParty.f k bt279.1 bt279.2 bt292.1 bt292.2).bind fun t296 => (if t296 = true then ((laws_toIntS.f k l1).bind fun t297 => ((laws_eqIntS.f k t284 t297).bind fun t300 => (if t300 = true then ((laws_markParty.f k bt279.1 bt279.2 1).bind fun bt301 => ((laws_markIntS.f k t284 bt301.1).bind fun bt303 => (if bt303.1 < 0 then (none) else ((laws_eqIntS.f k bt287.1 bt275.1).bind fun t305 => (if t305 = true then ((laws_markIntS.f k bt287.1 1).bind fun bt306 => ((laws_heldIntS.f k bt306.2 1).bind fun t308 => (if t308 < 0 then (none) else (if t308 = bt306.1 then ((laws_toParty.f k a0_0 l0_1).bind fun bt309 => ((laws_toIntS.f k l1).bind fun t313 => ((impl_MendSeats.f k bt309.1 bt309.2 t313).bind fun bt316 => ((laws_eqIntS.f k bt316.1 bt275.1).bind fun t320 => (if t320 = true then (if (bt316.2 != bt275.2) = true then (none) else ((laws_heldIntS.f k bt306.2 1).bind fun t321 => (if t321 < 0 then (none) else (if t321 = bt306.1 then (some true) else (none))))) else (none)))))) else (none))))) else (none)))))) else (none)))) else (none))))) else (none)))))))))))
theorem laws_FnExactMendSeats.mono : ∀ a0 a1 a2 k, LeO (laws_FnExactMendSeats.f k a0 a1 a2) (laws_FnExactMendSeats.f (k + 1) a0 a1 a2) := by
 intro a0 a1 a2 k
 unfold laws_FnExactMendSeats.f
 repeat' first
   | (with_reducible exact impl_MendSeats.mono _ _ _ _)
   | (with_reducible exact laws_eqIntS.mono _ _ _)
   | (with_reducible exact laws_eqParty.mono _ _ _ _ _)
   | (with_reducible exact laws_heldIntS.mono _ _ _)
   | (with_reducible exact laws_markIntS.mono _ _ _)
   | (with_reducible exact laws_markParty.mono _ _ _ _)
   | (with_reducible exact laws_toIntS.mono _ _)
   | (with_reducible exact laws_toParty.mono _ _ _)
   | (with_reducible exact spec_MendSeats.mono _ _ _ _)
   | (with_reducible exact LeO.refl _)
   | (with_reducible exact LeO.none _)
   | (with_reducible refine LeO.ite ?_ ?_)
   | (with_reducible refine LeO.bind ?_ (fun _ => ?_))
   | exact impl_MendSeats.mono _ _ _ _
   | exact laws_eqIntS.mono _ _ _
   | exact laws_eqParty.mono _ _ _ _ _
   | exact laws_heldIntS.mono _ _ _
   | exact laws_markIntS.mono _ _ _
   | exact laws_markParty.mono _ _ _ _
   | exact laws_toIntS.mono _ _
   | exact laws_toParty.mono _ _ _
   | exact spec_MendSeats.mono _ _ _ _
   | exact LeO.none _
   | refine LeO.ite ?_ ?_
   | refine LeO.bind ?_ (fun _ => ?_)
set_option maxHeartbeats 8000000 in
set_option maxRecDepth 100000 in
theorem laws_FnExactMendSeats.calls (k : Nat) (a0_0 : Int) (A0_1 : Option Addr) (c0_1 : Nat) (l0_1 : List (S64)) (A1 : Option Addr) (c1 : Nat) (l1 : List Int) (r : Bool) (w : World) (hr0_1 : Kd.C k64 w A0_1 l0_1.length l0_1) (hc0_1 : l0_1.length ≤ c0_1) (hr1 : Kd.C (Kd.int .i64) w A1 l1.length l1) (hc1 : l1.length ≤ c1) (h : laws_FnExactMendSeats.f k a0_0 l0_1 l1 = some r) :
  Calls Try.prog 4 #[.agg #[.int .i64 a0_0, .slice A0_1 l0_1.length c0_1], .slice A1 l1.length c1] w fun e w' => e = .returned (.bool r) ∧ Below w.heap.size w w' := by
 have hu24 := Try.underlying24
 have hu31 := Try.underlying31
 have HR0_1 := Aside0.mk hr0_1
 have HC0_1 := Aside0.mk hc0_1
 clear hr0_1 hc0_1
 have HR1 := Aside0.mk hr1
 have HC1 := Aside0.mk hc1
 clear hr1 hc1
 have HB := Aside0.mk (Below.refl w.heap.size w)
 have H : (if (l1.length : Int) > 1048576 then (some true) else ((laws_szParty.f a0_0 l0_1 1048576).bind fun t267 => (if t267 < 0 then (some true) else ((laws_toParty.f k a0_0 l0_1).bind fun bt268 => ((laws_toIntS.f k l1).bind fun t272 => ((spec_MendSeats.f k bt268.1 bt268.2 t272).bind fun bt275 => ((laws_toParty.f k a0_0 l0_1).bind fun bt279 => ((laws_toIntS.f k l1).bind fun t284 => ((impl_MendSeats.f k bt279.1 bt279.2 t284).bind fun bt287 => ((laws_eqIntS.f k bt287.1 bt275.1).bind fun t291 => (if t291 = true then (if (bt287.2 != bt275.2) = true then (none) else ((laws_toParty.f k a0_0 l0_1).bind fun bt292 => ((laws_eqParty.f k bt279.1 bt279.2 bt292.1 bt292.2).bind fun t296 => (if t296 = true then ((laws_toIntS.f k l1).bind fun t297 => ((laws_eqIntS.f k t284 t297).bind fun t300 => (if t300 = true then ((laws_markParty.f k bt279.1 bt279.2 1).bind fun bt301 => ((laws_markIntS.f k t284 bt301.1).bind fun bt303 => (if bt303.1 < 0 then (none) else ((laws_eqIntS.f k bt287.1 bt275.1).bind fun t305 => (if t305 = true then ((laws_markIntS.f k bt287.1 1).bind fun bt306 => ((laws_heldIntS.f k bt306.2 1).bind fun t308 => (if t308 < 0 then (none) else (if t308 = bt306.1 then ((laws_toParty.f k a0_0 l0_1).bind fun bt309 => ((laws_toIntS.f k l1).bind fun t313 => ((impl_MendSeats.f k bt309.1 bt309.2 t313).bind fun bt316 => ((laws_eqIntS.f k bt316.1 bt275.1).bind fun t320 => (if t320 = true then (if (bt316.2 != bt275.2) = true then (none) else ((laws_heldIntS.f k bt306.2 1).bind fun t321 => (if t321 < 0 then (none) else (if t321 = bt306.1 then (some true) else (none))))) else (none)))))) else (none))))) else (none)))))) else (none)))) else (none))))) else (none)))))))))))) = some r := h
 clear h
 by_cases c3 : (l1.length : Int) > 1048576
 ·rw [if_pos c3] at H
  have c3b0 : decide (1048576 < (l1.length : Int)) = true := decide_eq_true c3
  have c3b1 : decide (1048576 < l1.length) = true := decide_eq_true (by omega)
  clear c3
  obtain rfl := Option.some.inj H
  go_enter Try.func4, Try.ntmps4
  go_wp2_with (first | ((with_reducible refine gate_dst (N := 2) rfl ?_); refine bxE 2 #[.int .i64 a0_0, .slice A0_1 l0_1.length c0_1] 24 rfl ?_; intro gb266 hg w4 hbox hb; have BK266 := Aside0.mk (hbox); have GW266 := gS HB hg; have GE266 := gS HB hg; replace HB := hS HB hb; clear hb hbox hg))
  go_ret
  exact ⟨by first | rfl | (simp [errW_none, errW_some] <;> rfl) | (simp [*, errW_none, errW_some] <;> rfl), hB⟩
 ·rw [if_neg c3] at H
  have c3b0 : decide (1048576 < (l1.length : Int)) = false := decide_eq_false c3
  have c3b1 : decide (1048576 < l1.length) = false := decide_eq_false (by omega)
  clear c3
  replace H := Option.bind_eq_some_iff.mp H
  obtain ⟨t267, A50, H⟩ := H
  try dsimp only at H
  have A5 := Aside0.mk A50
  clear A50
  by_cases c6 : t267 < 0
  ·rw [if_pos c6] at H
   have c6b0 : decide (t267 < 0) = true := decide_eq_true c6
   clear c6
   obtain rfl := Option.some.inj H
   go_enter Try.func4, Try.ntmps4
   go_wp2_with (first | ((with_reducible refine gate_dst (N := 2) rfl ?_); refine bxE 2 #[.int .i64 a0_0, .slice A0_1 l0_1.length c0_1] 24 rfl ?_; intro gb266 hg w7 hbox hb; have BK266 := Aside0.mk (hbox); have GW266 := gS HB hg; have GE266 := gS HB hg; replace HB := hS HB hb; clear hb hbox hg; have hcz8_0 := cz BK266 0; have hcz8_1 := cz BK266 1; have hfz8_0 := fz BK266 0; have hfz8_1 := fz BK266 1) | ((with_reducible refine gate_callee (f := 6) rfl ?_); refine goC (N := some 22) Try.func6 #[.agg #[.int .i64 a0_0, .slice A0_1 l0_1.length c0_1], .int .i64 1048576] rfl ?_; (with_reducible refine (laws_szParty.calls a0_0 _ _ l0_1 1048576 t267 _ ?side1 ?side2 A5.out).mono ?_); (case side1 => exact cS (Kd.C_below HR0_1.out HB.out)); (case side2 => exact HC0_1.out); rintro e w9 ⟨rfl, hb⟩; refine ⟨_, rfl, ?_⟩; replace BK266 := bS BK266 hb; replace HB := hS HB hb; (try clear hb); (try clear hb2); (try clear hk); (try clear hi)))
   go_ret
   exact ⟨by first | rfl | (simp [errW_none, errW_some] <;> rfl) | (simp [*, errW_none, errW_some] <;> rfl), hB⟩
  ·rw [if_neg c6] at H
   have c6b0 : decide (t267 < 0) = false := decide_eq_false c6
   clear c6
   replace H := Option.bind_eq_some_iff.mp H
   obtain ⟨⟨t268, t269⟩, A100, H⟩ := H
   try dsimp only at H
   have A10 := Aside0.mk A100
   clear A100
   replace H := Option.bind_eq_some_iff.mp H
   obtain ⟨t272, A110, H⟩ := H
   try dsimp only at H
   have A11 := Aside0.mk A110
   clear A110
   replace H := Option.bind_eq_some_iff.mp H
   obtain ⟨⟨t275, t278⟩, A120, H⟩ := H
   try dsimp only at H
   have A12 := Aside0.mk A120
   clear A120
   replace H := Option.bind_eq_some_iff.mp H
   obtain ⟨⟨t279, t280⟩, A130, H⟩ := H
   try dsimp only at H
   have A13 := Aside0.mk A130
   clear A130
   replace H := Option.bind_eq_some_iff.mp H
   obtain ⟨t284, A140, H⟩ := H
   try dsimp only at H
   have A14 := Aside0.mk A140
   clear A140
   replace H := Option.bind_eq_some_iff.mp H
   obtain ⟨⟨t287, t290⟩, A150, H⟩ := H
   try dsimp only at H
   have A15 := Aside0.mk A150
   clear A150
   replace H := Option.bind_eq_some_iff.mp H
   obtain ⟨t291, A160, H⟩ := H
   try dsimp only at H
   have A16 := Aside0.mk A160
   clear A160
   by_cases c17 : t291 = true
   ·subst c17
    rw [if_pos rfl] at H
    by_cases c18 : (t290 != t278) = true
    ·rw [if_pos c18] at H
     exact absurd H (by simp)
    ·rw [if_neg c18] at H
     have c18b0 : (t290 != t278) = false := by simpa using c18
     (try (have c18b1 : decide (t290 = t278) = true := by simpa using c18))
     (try (have c18b2 : (t290 == t278) = true := by simpa using c18))
     clear c18
     replace H := Option.bind_eq_some_iff.mp H
     obtain ⟨⟨t292, t293⟩, A190, H⟩ := H
     try dsimp only at H
     have A19 := Aside0.mk A190
     clear A190
     replace H := Option.bind_eq_some_iff.mp H
     obtain ⟨t296, A200, H⟩ := H
     try dsimp only at H
     have A20 := Aside0.mk A200
     clear A200
     by_cases c21 : t296 = true
     ·subst c21
      rw [if_pos rfl] at H
      replace H := Option.bind_eq_some_iff.mp H
      obtain ⟨t297, A220, H⟩ := H
      try dsimp only at H
      have A22 := Aside0.mk A220
      clear A220
      replace H := Option.bind_eq_some_iff.mp H
      obtain ⟨t300, A230, H⟩ := H
      try dsimp only at H
      have A23 := Aside0.mk A230
      clear A230
      by_cases c24 : t300 = true
      ·subst c24
       rw [if_pos rfl] at H
       replace H := Option.bind_eq_some_iff.mp H
       obtain ⟨⟨t301, t302⟩, A250, H⟩ := H
       try dsimp only at H
       have A25 := Aside0.mk A250
       clear A250
       replace H := Option.bind_eq_some_iff.mp H
       obtain ⟨⟨t303, t304⟩, A260, H⟩ := H
       try dsimp only at H
       have A26 := Aside0.mk A260
       clear A260
       by_cases c27 : t303 < 0
       ·rw [if_pos c27] at H
        exact absurd H (by simp)
       ·rw [if_neg c27] at H
        have c27b0 : decide (t303 < 0) = false := decide_eq_false c27
        clear c27
        replace H := Option.bind_eq_some_iff.mp H
        obtain ⟨t305, A280, H⟩ := H
        try dsimp only at H
        have A28 := Aside0.mk A280
        clear A280
        by_cases c29 : t305 = true
        ·subst c29
         rw [if_pos rfl] at H
         replace H := Option.bind_eq_some_iff.mp H
         obtain ⟨⟨t306, t307⟩, A300, H⟩ := H
         try dsimp only at H
         have A30 := Aside0.mk A300
         clear A300
         replace H := Option.bind_eq_some_iff.mp H
         obtain ⟨t308, A310, H⟩ := H
         try dsimp only at H
         have A31 := Aside0.mk A310
         clear A310
         by_cases c32 : t308 < 0
         ·rw [if_pos c32] at H
          exact absurd H (by simp)
         ·rw [if_neg c32] at H
          have c32b0 : decide (t308 < 0) = false := decide_eq_false c32
          clear c32
          by_cases c33 : t308 = t306
          ·rw [if_pos c33] at H
           have c33b0 : (t308 == t306) = true := beq_iff_eq.mpr c33
           have c33b1 : (t308 != t306) = false := bne_eq_false_iff_eq.mpr c33
           clear c33
           replace H := Option.bind_eq_some_iff.mp H
           obtain ⟨⟨t309, t310⟩, A340, H⟩ := H
           try dsimp only at H
           have A34 := Aside0.mk A340
           clear A340
           replace H := Option.bind_eq_some_iff.mp H
           obtain ⟨t313, A350, H⟩ := H
           try dsimp only at H
           have A35 := Aside0.mk A350
           clear A350
           replace H := Option.bind_eq_some_iff.mp H
           obtain ⟨⟨t316, t319⟩, A360, H⟩ := H
           try dsimp only at H
           have A36 := Aside0.mk A360
           clear A360
           replace H := Option.bind_eq_some_iff.mp H
           obtain ⟨t320, A370, H⟩ := H
           try dsimp only at H
           have A37 := Aside0.mk A370
           clear A370
           by_cases c38 : t320 = true
           ·subst c38
            rw [if_pos rfl] at H
            by_cases c39 : (t319 != t278) = true
            ·rw [if_pos c39] at H
             exact absurd H (by simp)
            ·rw [if_neg c39] at H
             have c39b0 : (t319 != t278) = false := by simpa using c39
             (try (have c39b1 : decide (t319 = t278) = true := by simpa using c39))
             (try (have c39b2 : (t319 == t278) = true := by simpa using c39))
             clear c39
             replace H := Option.bind_eq_some_iff.mp H
             obtain ⟨t321, A400, H⟩ := H
             try dsimp only at H
             have A40 := Aside0.mk A400
             clear A400
             by_cases c41 : t321 < 0
             ·rw [if_pos c41] at H
              exact absurd H (by simp)
             ·rw [if_neg c41] at H
              have c41b0 : decide (t321 < 0) = false := decide_eq_false c41
              clear c41
              by_cases c42 : t321 = t306
              ·rw [if_pos c42] at H
               have c42b0 : (t321 == t306) = true := beq_iff_eq.mpr c42
               have c42b1 : (t321 != t306) = false := bne_eq_false_iff_eq.mpr c42
               clear c42
               obtain rfl := Option.some.inj H
               go_enter Try.func4, Try.ntmps4
               try go_wp2_with (first | ((with_reducible refine gate_dst (N := 2) rfl ?_); refine bxE 2 #[.int .i64 a0_0, .slice A0_1 l0_1.length c0_1] 24 rfl ?_; intro gb266 hg w43 hbox hb; have BK266 := Aside0.mk (hbox); have GW266 := gS HB hg; have GE266 := gS HB hg; replace HB := hS HB hb; clear hb hbox hg; have hcz44_0 := cz BK266 0; have hcz44_1 := cz BK266 1; have hfz44_0 := fz BK266 0; have hfz44_1 := fz BK266 1) | ((with_reducible refine gate_callee (f := 6) rfl ?_); refine goC (N := some 22) Try.func6 #[.agg #[.int .i64 a0_0, .slice A0_1 l0_1.length c0_1], .int .i64 1048576] rfl ?_; (with_reducible refine (laws_szParty.calls a0_0 _ _ l0_1 1048576 t267 _ ?side1 ?side2 A5.out).mono ?_); (case side1 => exact cS (Kd.C_below HR0_1.out HB.out)); (case side2 => exact HC0_1.out); rintro e w45 ⟨rfl, hb⟩; refine ⟨_, rfl, ?_⟩; replace BK266 := bS BK266 hb; replace HB := hS HB hb; (try clear hb); (try clear hb2); (try clear hk); (try clear hi); have hcz46_0 := cz BK266 0; have hcz46_1 := cz BK266 1; have hfz46_0 := fz BK266 0; have hfz46_1 := fz BK266 1) | ((with_reducible refine gate_callee (f := 8) rfl ?_); refine goC (N := some 27) Try.func8 #[.agg #[.int .i64 a0_0, .slice A0_1 l0_1.length c0_1]] rfl ?_; (with_reducible refine (laws_toParty.calls k a0_0 _ _ l0_1 t268 t269 _ ?side1 ?side2 A10.out).mono ?_); (case side1 => exact cS (Kd.C_below HR0_1.out HB.out)); (case side2 => exact HC0_1.out); rintro e w47 ⟨v270, rfl, ho0, hb⟩; refine ⟨_, rfl, ?_⟩; have HO271 := Aside0.mk (Kd.R_lower ho0 (below_size hB)); replace BK266 := bS BK266 hb; replace HB := hS HB hb; (try clear hb); (try clear hb2); (try clear hk); (try clear hi); (try clear ho0)) | ((with_reducible refine gate_callee (f := 9) rfl ?_); refine goC (N := some 29) Try.func9 #[.slice A1 l1.length c1] rfl ?_; (with_reducible refine (laws_toIntS.calls k _ _ l1 t272 _ ?side1 ?side2 A11.out).mono ?_); (case side1 => exact cS (Kd.C_below HR1.out HB.out)); (case side2 => exact HC1.out); rintro e w48 ⟨v273, rfl, ho0, hb⟩; refine ⟨_, rfl, ?_⟩; have HO274 := Aside0.mk (Kd.R_lower ho0 (below_size hB)); replace HO271 := Aside0.mk (Kd.R_below (rU HO271) hb); replace BK266 := bS BK266 hb; replace HB := hS HB hb; (try clear hb); (try clear hb2); (try clear hk); (try clear hi); (try clear ho0); obtain ⟨Ao49, co49, eo49⟩ := Kd.R_slice HO271.out; subst eo49; obtain ⟨Ao50, co50, eo50⟩ := Kd.R_slice HO274.out; subst eo50) | ((with_reducible refine gate_callee (f := 13) rfl ?_); refine goC (N := some 30) Try.func13 #[.agg #[.int .i64 t268, .slice Ao49 t269.length co49], .slice Ao50 t272.length co50] rfl ?_; (with_reducible refine (spec_MendSeats.calls k t268 _ _ t269 _ _ t272 t275 t278 _ ?side1 ?side2 ?side3 ?side4 A12.out).mono ?_); (case side1 => exact cS (Kd.R_reads' HO271.out).2.2); (case side2 => exact (Kd.R_reads' HO271.out).2.1); (case side3 => exact cS (Kd.R_reads' HO274.out).2.2); (case side4 => exact (Kd.R_reads' HO274.out).2.1); rintro e w51 ⟨v276, rfl, ho0, hb⟩; refine ⟨_, rfl, ?_⟩; have HO277 := Aside0.mk (Kd.R_lower (Kd.R_new' ho0 (Kd.R_lt (rU HO274))) (below_size hB)); replace HO271 := Aside0.mk (Kd.R_below (rU HO271) hb); replace HO274 := Aside0.mk (Kd.R_elder' (rU HO274) (Kd.R_base ho0) hb); replace BK266 := bS BK266 hb; replace HB := hS HB hb; (try clear hb); (try clear hb2); (try clear hk); (try clear hi); (try clear ho0); have hcz52_0 := cz BK266 0; have hcz52_1 := cz BK266 1; have hfz52_0 := fz BK266 0; have hfz52_1 := fz BK266 1) | ((with_reducible refine gate_callee (f := 8) rfl ?_); refine goC (N := some 34) Try.func8 #[.agg #[.int .i64 a0_0, .slice A0_1 l0_1.length c0_1]] rfl ?_; (with_reducible refine (laws_toParty.calls k a0_0 _ _ l0_1 t279 t280 _ ?side1 ?side2 A13.out).mono ?_); (case side1 => exact cS (Kd.C_below HR0_1.out HB.out)); (case side2 => exact HC0_1.out); rintro e w53 ⟨v281, rfl, ho0, hb⟩; refine ⟨_, rfl, ?_⟩; have HO282 := Aside0.mk (Kd.R_lower (Kd.R_new' ho0 (Kd.R_lt (rU HO271))) (below_size hB)); replace HO271 := Aside0.mk (Kd.R_elder' (rU HO271) (Kd.R_base ho0) hb); replace HO274 := Aside0.mk (Kd.R_below (rU HO274) hb); replace HO277 := Aside0.mk (Kd.R_below (rU HO277) hb); replace BK266 := bS BK266 hb; replace HB := hS HB hb; (try clear hb); (try clear hb2); (try clear hk); (try clear hi); (try clear ho0)) | ((with_reducible refine gate_dst (N := 8) rfl ?_); refine bxE 8 #[.int .i64 0, .slice none 0 0] 31 rfl ?_; intro gb283 hg w54 hbox hb; have BK283 := Aside0.mk (hbox); have GW283 := gS HB hg; have GE283 := gS HB hg; have NB266_283 := nL BK266 hg; have NB283_266 := nG BK266 hg; replace HO271 := Aside0.mk (Kd.R_below (rU HO271) hb); replace HO274 := Aside0.mk (Kd.R_below (rU HO274) hb); replace HO277 := Aside0.mk (Kd.R_below (rU HO277) hb); replace HO282 := Aside0.mk (Kd.R_below (rU HO282) hb); replace BK266 := bS BK266 hb; replace HB := hS HB hb; clear hb hbox hg; have hnb55 := NB283_266.out; have hnc55 := NB266_283.out; have hcz56_0 := cz BK283 0; have hcz56_1 := cz BK283 1; have hfz56_0 := fz BK283 0; have hfz56_1 := fz BK283 1; obtain ⟨Ao57, co57, eo57⟩ := Kd.R_slice HO282.out; subst eo57) | ((with_reducible refine gate_callee (f := 9) rfl ?_); refine goC (N := some 36) Try.func9 #[.slice A1 l1.length c1] rfl ?_; (with_reducible refine (laws_toIntS.calls k _ _ l1 t284 _ ?side1 ?side2 A14.out).mono ?_); (case side1 => exact Kd.C_below HR1.out hB); (case side2 => exact HC1.out); rintro e w58 ⟨v285, rfl, ho0, hb⟩; refine ⟨_, rfl, ?_⟩; have HO286 := Aside0.mk (Kd.R_lower (Kd.R_new' (Kd.R_new' ho0 (Kd.R_lt (by (with_reducible repeat (first | apply Kd.R_alloc | apply Kd.R_drewN | apply Kd.R_drew)); exact (Kd.R_mono (Kd.R_far (p := ⟨gb283, 1, none⟩) (Kd.R_far (p := ⟨gb283, 0, none⟩) (Kd.R_types HO274.out BK283.out (by decide)) (fun _ hk => hk.2) (.int .i64 t279)) (fun _ hk => hk.2) (.slice Ao57 t280.length co57)) (fun _ h_ => h_.1))))) (Kd.R_lt (by (with_reducible repeat (first | apply Kd.R_alloc | apply Kd.R_drewN | apply Kd.R_drew)); exact (Kd.R_mono (Kd.R_far (p := ⟨gb283, 1, none⟩) (Kd.R_far (p := ⟨gb283, 0, none⟩) (Kd.R_types HO277.out BK283.out (by decide)) (fun _ hk => hk.2) (.int .i64 t279)) (fun _ hk => hk.2) (.slice Ao57 t280.length co57)) (fun _ h_ => h_.1))))) (below_size hB)); replace HO271 := Aside0.mk (Kd.R_below (by (with_reducible repeat (first | apply Kd.R_alloc | apply Kd.R_drewN | apply Kd.R_drew)); exact (Kd.R_mono (Kd.R_far (p := ⟨gb283, 1, none⟩) (Kd.R_far (p := ⟨gb283, 0, none⟩) (Kd.R_types HO271.out BK283.out (by decide)) (fun _ hk => hk.2) (.int .i64 t279)) (fun _ hk => hk.2) (.slice Ao57 t280.length co57)) (fun _ h_ => h_.1))) hb); replace HO274 := Aside0.mk (Kd.R_elder' (by (with_reducible repeat (first | apply Kd.R_alloc | apply Kd.R_drewN | apply Kd.R_drew)); exact (Kd.R_mono (Kd.R_far (p := ⟨gb283, 1, none⟩) (Kd.R_far (p := ⟨gb283, 0, none⟩) (Kd.R_types HO274.out BK283.out (by decide)) (fun _ hk => hk.2) (.int .i64 t279)) (fun _ hk => hk.2) (.slice Ao57 t280.length co57)) (fun _ h_ => h_.1))) (Kd.R_base ho0) hb); replace HO277 := Aside0.mk (Kd.R_elder' (by (with_reducible repeat (first | apply Kd.R_alloc | apply Kd.R_drewN | apply Kd.R_drew)); exact (Kd.R_mono (Kd.R_far (p := ⟨gb283, 1, none⟩) (Kd.R_far (p := ⟨gb283, 0, none⟩) (Kd.R_types HO277.out BK283.out (by decide)) (fun _ hk => hk.2) (.int .i64 t279)) (fun _ hk => hk.2) (.slice Ao57 t280.length co57)) (fun _ h_ => h_.1))) (Kd.R_base ho0) hb); replace HO282 := Aside0.mk (Kd.R_below (by (with_reducible repeat (first | apply Kd.R_alloc | apply Kd.R_drewN | apply Kd.R_drew)); exact (Kd.R_mono (Kd.R_far (p := ⟨gb283, 1, none⟩) (Kd.R_far (p := ⟨gb283, 0, none⟩) (Kd.R_types HO282.out BK283.out (by decide)) (fun _ hk => hk.2) (.int .i64 t279)) (fun _ hk => hk.2) (.slice Ao57 t280.length co57)) (fun _ h_ => h_.1))) hb); replace BK266 := Aside0.mk (blk_below (g := gb266) (o := .cells #[.int .i64 a0_0, .slice A0_1 l0_1.length c0_1] 24 (0, 0)) (by (with_reducible repeat (first | refine blk_drewN ?_ _ | refine blk_drew ?_ | refine blk_alloc ?_ _)); refine blk_far ?_ NB266_283.out _; (with_reducible repeat (first | refine blk_drewN ?_ _ | refine blk_drew ?_ | refine blk_alloc ?_ _)); refine blk_far ?_ NB266_283.out _; (with_reducible repeat (first | refine blk_drewN ?_ _ | refine blk_drew ?_ | refine blk_alloc ?_ _)); exact BK266.out) hb); replace BK283 := Aside0.mk (blk_below (g := gb283) (o := .cells #[.int .i64 t279, .slice Ao57 t280.length co57] 31 (0, 0)) (by (with_reducible repeat (first | refine blk_drewN ?_ _ | refine blk_drew ?_ | refine blk_alloc ?_ _)); refine blk_put (cs := #[.int .i64 t279, .slice none 0 0]) ?_ 1 _ rfl; (with_reducible repeat (first | refine blk_drewN ?_ _ | refine blk_drew ?_ | refine blk_alloc ?_ _)); refine blk_put (cs := #[.int .i64 0, .slice none 0 0]) ?_ 0 _ rfl; (with_reducible repeat (first | refine blk_drewN ?_ _ | refine blk_drew ?_ | refine blk_alloc ?_ _)); exact BK283.out) hb); replace HB := hS HB hb; (try clear hb); (try clear hb2); (try clear hk); (try clear hi); (try clear ho0); have hcz59_0 := cz BK283 0; have hcz59_1 := cz BK283 1; have hfz59_0 := fz BK283 0; have hfz59_1 := fz BK283 1; obtain ⟨Ao60, co60, eo60⟩ := Kd.R_slice HO286.out; subst eo60) | ((with_reducible refine gate_callee (f := 14) rfl ?_); refine goC (N := some 40) Try.func14 #[.agg #[.int .i64 t279, .slice Ao57 t280.length co57], .slice Ao60 t284.length co60] rfl ?_; (with_reducible refine (impl_MendSeats.calls k t279 _ _ t280 _ _ t284 t287 t290 _ ?side1 ?side2 ?side3 ?side4 A15.out).mono ?_); (case side1 => exact cS (Kd.R_reads' HO282.out).2.2); (case side2 => exact (Kd.R_reads' HO282.out).2.1); (case side3 => exact cS (Kd.R_reads' HO286.out).2.2); (case side4 => exact (Kd.R_reads' HO286.out).2.1); rintro e w61 ⟨v288, rfl, ho0, hb⟩; refine ⟨_, rfl, ?_⟩; have HO289 := Aside0.mk (Kd.R_lower (Kd.R_new' (Kd.R_new' (Kd.R_new' ho0 (Kd.R_lt (rU HO274))) (Kd.R_lt (rU HO277))) (Kd.R_lt (rU HO286))) (below_size hB)); replace HO271 := Aside0.mk (Kd.R_below (rU HO271) hb); replace HO274 := Aside0.mk (Kd.R_elder' (rU HO274) (Kd.R_base ho0) hb); replace HO277 := Aside0.mk (Kd.R_elder' (rU HO277) (Kd.R_base ho0) hb); replace HO282 := Aside0.mk (Kd.R_below (rU HO282) hb); replace HO286 := Aside0.mk (Kd.R_elder' (rU HO286) (Kd.R_base ho0) hb); replace BK266 := bS BK266 hb; replace BK283 := bS BK283 hb; replace HB := hS HB hb; (try clear hb); (try clear hb2); (try clear hk); (try clear hi); (try clear ho0); obtain ⟨Ao62, co62, eo62⟩ := Kd.R_slice HO289.out; subst eo62; obtain ⟨Ao63, co63, eo63⟩ := Kd.R_slice HO277.out; subst eo63) | ((with_reducible refine gate_callee (f := 12) rfl ?_); refine goC (N := some 45) Try.func12 #[.slice Ao62 t287.length co62, .slice Ao63 t275.length co63] rfl ?_; (with_reducible refine (laws_eqIntS.calls k _ _ t287 _ _ t275 true _ ?side1 ?side2 ?side3 ?side4 A16.out).mono ?_); (case side1 => exact cS (Kd.R_reads' HO289.out).2.2); (case side2 => exact (Kd.R_reads' HO289.out).2.1); (case side3 => exact cS (Kd.R_reads' HO277.out).2.2); (case side4 => exact (Kd.R_reads' HO277.out).2.1); rintro e w' ⟨rfl, ⟨nd, rfl⟩⟩; refine ⟨_, rfl, ?_⟩))
               (try (rw [drewN_self w61]; generalize hq_ : World.drewN w61 _ = w61; have n0_ : Aside0 (Kd.R k62 62 w61 w.heap.size (fun k_ => some k_ ≠ (.slice Ao57 t280.length co57 : Value).ownBlock) (.slice Ao49 t269.length co49) t269) := ⟨by rw [← hq_]; exact (by (with_reducible repeat (first | apply Kd.R_alloc | apply Kd.R_drewN | apply Kd.R_drew)); exact Kd.R_mono HO271.out (fun _ hk => hk.2))⟩; have n1_ : Aside0 (Kd.R (Kd.int .i64) 3 w61 w.heap.size (fun k_ => some k_ ≠ (.slice Ao63 t275.length co63 : Value).ownBlock ∧ some k_ ≠ (.slice Ao60 t284.length co60 : Value).ownBlock ∧ some k_ ≠ (.slice Ao62 t287.length co62 : Value).ownBlock) (.slice Ao50 t272.length co50) t272) := ⟨by rw [← hq_]; exact (by (with_reducible repeat (first | apply Kd.R_alloc | apply Kd.R_drewN | apply Kd.R_drew)); exact Kd.R_mono HO274.out (fun _ hk => ⟨hk.1.1.2, ⟨hk.1.2, hk.2⟩⟩))⟩; have n2_ : Aside0 (Kd.R (Kd.int .i64) 3 w61 w.heap.size (fun k_ => some k_ ≠ (.slice Ao50 t272.length co50 : Value).ownBlock ∧ some k_ ≠ (.slice Ao60 t284.length co60 : Value).ownBlock ∧ some k_ ≠ (.slice Ao62 t287.length co62 : Value).ownBlock) (.slice Ao63 t275.length co63) t275) := ⟨by rw [← hq_]; exact (by (with_reducible repeat (first | apply Kd.R_alloc | apply Kd.R_drewN | apply Kd.R_drew)); exact Kd.R_mono HO277.out (fun _ hk => ⟨hk.1.1.2, ⟨hk.1.2, hk.2⟩⟩))⟩; have n3_ : Aside0 (Kd.R k62 62 w61 w.heap.size (fun k_ => some k_ ≠ (.slice Ao49 t269.length co49 : Value).ownBlock) (.slice Ao57 t280.length co57) t280) := ⟨by rw [← hq_]; exact (by (with_reducible repeat (first | apply Kd.R_alloc | apply Kd.R_drewN | apply Kd.R_drew)); exact Kd.R_mono HO282.out (fun _ hk => hk.2))⟩; have n4_ : Aside0 (Kd.R (Kd.int .i64) 3 w61 w.heap.size (fun k_ => some k_ ≠ (.slice Ao50 t272.length co50 : Value).ownBlock ∧ some k_ ≠ (.slice Ao63 t275.length co63 : Value).ownBlock ∧ some k_ ≠ (.slice Ao62 t287.length co62 : Value).ownBlock) (.slice Ao60 t284.length co60) t284) := ⟨by rw [← hq_]; exact (by (with_reducible repeat (first | apply Kd.R_alloc | apply Kd.R_drewN | apply Kd.R_drew)); exact Kd.R_mono HO286.out (fun _ hk => ⟨hk.1.1.2, ⟨hk.1.2, hk.2⟩⟩))⟩; have n5_ : Aside0 (Kd.R (Kd.int .i64) 3 w61 w.heap.size (fun k_ => some k_ ≠ (.slice Ao50 t272.length co50 : Value).ownBlock ∧ some k_ ≠ (.slice Ao63 t275.length co63 : Value).ownBlock ∧ some k_ ≠ (.slice Ao60 t284.length co60 : Value).ownBlock) (.slice Ao62 t287.length co62) t287) := ⟨by rw [← hq_]; exact (by (with_reducible repeat (first | apply Kd.R_alloc | apply Kd.R_drewN | apply Kd.R_drew)); exact Kd.R_mono HO289.out (fun _ hk => ⟨hk.1.1.2, ⟨hk.1.2, hk.2⟩⟩))⟩; have n6_ : Aside0 (w61.heap[gb266]? = some (.cells #[.int .i64 a0_0, .slice A0_1 l0_1.length c0_1] 24 (0, 0))) := ⟨by rw [← hq_]; exact bK⟩; have n7_ : Aside0 (w61.heap[gb283]? = some (.cells #[.int .i64 t279, .slice Ao57 t280.length co57] 31 (0, 0))) := ⟨by rw [← hq_]; exact bK⟩; have n8_ : Aside0 (Below w.heap.size w w61) := ⟨by rw [← hq_]; exact hB⟩; clear HO271 HO274 HO277 HO282 HO286 HO289 BK266 BK283 HB hq_; have HO271 := n0_; have HO274 := n1_; have HO277 := n2_; have HO282 := n3_; have HO286 := n4_; have HO289 := n5_; have BK266 := n6_; have BK283 := n7_; have HB := n8_; clear n0_ n1_ n2_ n3_ n4_ n5_ n6_ n7_ n8_))
               replace HO271 := Aside0.mk (Kd.R_drew HO271.out)
               replace HO274 := Aside0.mk (Kd.R_drew HO274.out)
               replace HO277 := Aside0.mk (Kd.R_drew HO277.out)
               replace HO282 := Aside0.mk (Kd.R_drew HO282.out)
               replace HO286 := Aside0.mk (Kd.R_drew HO286.out)
               replace HO289 := Aside0.mk (Kd.R_drew HO289.out)
               replace BK266 := Aside0.mk (blk_drew BK266.out)
               replace BK283 := Aside0.mk (blk_drew BK283.out)
               replace HB := Aside0.mk (below_drew1 HB.out)
               refine start_ (n := 5) (S := fun w' => w'.cell? ⟨gb283, 0, none⟩ = some (.int .i64 t279) ∧ w'.cell? ⟨gb283, 1, none⟩ = some (.slice Ao57 t280.length co57) ∧ w'.cell? ⟨gb266, 0, none⟩ = some (.int .i64 a0_0) ∧ w'.cell? ⟨gb266, 1, none⟩ = some (.slice A0_1 l0_1.length c0_1)) (ds := []) (bz 5 0) (by kernel_rfl) rfl rfl ⟨(blk_cell BK283.out 0).trans rfl, (blk_cell BK283.out 1).trans rfl, (blk_cell BK266.out 0).trans rfl, (blk_cell BK266.out 1).trans rfl⟩ (fun hHeld => ?_)
               generalize w61.drew = w64 at HO271 HO274 HO277 HO282 HO286 HO289 BK266 BK283 HB hHeld ⊢
               refine run_ [(1, 0, 1, some 52), (1, 1, 3, some 53)] ?_
               repeat ((apply tag1; refine run_t (v := ?_) (a' := ?_) rfl rfl (by kernel_rfl) (fun _ _ _ h => h) (by rfl) ?_ hHeld ?_ ?_; rotate_left 2; (rintro w' ⟨s0, s1, s2, s3⟩; go_simp; with_reducible rfl); (first | (simp only [Act.put, List.setIfInBounds_toArray, List.set_cons_zero, List.set_cons_succ, i64_w, i32_w]; rfl) | rfl)))
               refine run_nil ?_
               refine one_ (i := 2) (N := some 54) (bz 5 7) rfl rfl (by kernel_rfl) (by decide) (fun K hK => ?_)
               refine goes_ Try.func8 (by kernel_rfl) rfl #[.agg #[.int .i64 a0_0, .slice A0_1 l0_1.length c0_1]] (by rfl) rfl rfl mapT ?_
               with_reducible refine (laws_toParty.calls k a0_0 _ _ l0_1 t292 t293 _ ?side1 ?side2 A19.out).mono ?_
               (case side1 => exact cS (Kd.C_below HR0_1.out HB.out))
               (case side2 => exact HC0_1.out)
               rintro e w65 ⟨v294, rfl, ho0, hb⟩
               refine ⟨_, rfl, ?_⟩
               have HO295 := Aside0.mk (Kd.R_lower (Kd.R_new' (Kd.R_new' ho0 (Kd.R_lt (rU HO271))) (Kd.R_lt (rU HO282))) (below_size hB))
               replace HO271 := Aside0.mk (Kd.R_elder' (rU HO271) (Kd.R_base ho0) hb)
               replace HO274 := Aside0.mk (Kd.R_below (rU HO274) hb)
               replace HO277 := Aside0.mk (Kd.R_below (rU HO277) hb)
               replace HO282 := Aside0.mk (Kd.R_elder' (rU HO282) (Kd.R_base ho0) hb)
               replace HO286 := Aside0.mk (Kd.R_below (rU HO286) hb)
               replace HO289 := Aside0.mk (Kd.R_below (rU HO289) hb)
               replace BK266 := bS BK266 hb
               replace BK283 := bS BK283 hb
               replace HB := hS HB hb
               (try clear hb)
               (try clear hb2)
               (try clear hk)
               (try clear hi)
               (try clear ho0)
               obtain ⟨Ao66, co66, eo66⟩ := Kd.R_slice HO295.out
               (first | subst eo66 | (injection eo66 with f1_ f2_ f3_; have f4_ := f1_.symm; have f5_ := f3_.symm; clear f1_ f2_ f3_; subst f4_; subst f5_))
               refine hK.out _ _ ⟨(blk_cell BK283.out 0).trans rfl, (blk_cell BK283.out 1).trans rfl, (blk_cell BK266.out 0).trans rfl, (blk_cell BK266.out 1).trans rfl⟩ (fun hHeld => ?_)
               clear hK K
               refine norm_ (a' := ?_) ?_ ?_
               rotate_left
               ·show Act.put _ (some 54) _ = _
                simp only [Act.put, List.setIfInBounds_toArray, List.set_cons_zero, List.set_cons_succ, i64_w, i32_w]
                rfl
               refine one_ (i := 3) (N := some 55) (bz 5 15) rfl rfl (by kernel_rfl) (by decide) (fun K hK => ?_)
               refine goes_ Try.func11 (by kernel_rfl) rfl #[.agg #[.int .i64 t279, .slice Ao57 t280.length co57], .agg #[.int .i64 t292, .slice Ao66 t293.length co66]] (by rfl) rfl rfl mapT ?_
               with_reducible refine (laws_eqParty.calls k t279 _ _ t280 t292 _ _ t293 true _ ?side1 ?side2 ?side3 ?side4 A20.out).mono ?_
               (case side1 => exact cS (Kd.R_reads' HO282.out).2.2)
               (case side2 => exact (Kd.R_reads' HO282.out).2.1)
               (case side3 => exact cS (Kd.R_reads' HO295.out).2.2)
               (case side4 => exact (Kd.R_reads' HO295.out).2.1)
               rintro e w67 ⟨rfl, hb⟩
               refine ⟨_, rfl, ?_⟩
               replace HO271 := Aside0.mk (Kd.R_below (rU HO271) hb)
               replace HO274 := Aside0.mk (Kd.R_below (rU HO274) hb)
               replace HO277 := Aside0.mk (Kd.R_below (rU HO277) hb)
               replace HO282 := Aside0.mk (Kd.R_below (rU HO282) hb)
               replace HO286 := Aside0.mk (Kd.R_below (rU HO286) hb)
               replace HO289 := Aside0.mk (Kd.R_below (rU HO289) hb)
               replace HO295 := Aside0.mk (Kd.R_below (rU HO295) hb)
               replace BK266 := bS BK266 hb
               replace BK283 := bS BK283 hb
               replace HB := hS HB hb
               (try clear hb)
               (try clear hb2)
               (try clear hk)
               (try clear hi)
               refine hK.out _ _ ⟨(blk_cell BK283.out 0).trans rfl, (blk_cell BK283.out 1).trans rfl, (blk_cell BK266.out 0).trans rfl, (blk_cell BK266.out 1).trans rfl⟩ (fun hHeld => ?_)
               clear hK K
               refine norm_ (a' := ?_) ?_ ?_
               rotate_left
               ·show Act.put _ (some 55) _ = _
                simp only [Act.put, List.setIfInBounds_toArray, List.set_cons_zero, List.set_cons_succ, i64_w, i32_w]
                rfl
               refine run_ [(0, 4, 31, some 56)] ?_
               repeat ((apply tag0; refine run_p (v := ?_) (a' := ?_) rfl rfl (by kernel_rfl) (fun _ _ _ h => h) (by rfl) ?_ ?_ ?_; rotate_left 2; (intro w'; go_simp; with_reducible rfl); (first | (simp only [Act.put, List.setIfInBounds_toArray, List.set_cons_zero, List.set_cons_succ, i64_w, i32_w]; rfl) | rfl)))
               refine run_nil ?_
               refine done_ (by kernel_rfl) ?_
               try go_wp2_with (first | ((with_reducible refine gate_callee (f := 9) rfl ?_); refine goC (N := some 59) Try.func9 #[.slice A1 l1.length c1] rfl ?_; (with_reducible refine (laws_toIntS.calls k _ _ l1 t297 _ ?side1 ?side2 A22.out).mono ?_); (case side1 => exact cS (Kd.C_below HR1.out HB.out)); (case side2 => exact HC1.out); rintro e w68 ⟨v298, rfl, ho0, hb⟩; refine ⟨_, rfl, ?_⟩; have HO299 := Aside0.mk (Kd.R_lower (Kd.R_new' (Kd.R_new' (Kd.R_new' (Kd.R_new' ho0 (Kd.R_lt (rU HO274))) (Kd.R_lt (rU HO277))) (Kd.R_lt (rU HO286))) (Kd.R_lt (rU HO289))) (below_size hB)); replace HO271 := Aside0.mk (Kd.R_below (rU HO271) hb); replace HO274 := Aside0.mk (Kd.R_elder' (rU HO274) (Kd.R_base ho0) hb); replace HO277 := Aside0.mk (Kd.R_elder' (rU HO277) (Kd.R_base ho0) hb); replace HO282 := Aside0.mk (Kd.R_below (rU HO282) hb); replace HO286 := Aside0.mk (Kd.R_elder' (rU HO286) (Kd.R_base ho0) hb); replace HO289 := Aside0.mk (Kd.R_elder' (rU HO289) (Kd.R_base ho0) hb); replace HO295 := Aside0.mk (Kd.R_below (rU HO295) hb); replace BK266 := bS BK266 hb; replace BK283 := bS BK283 hb; replace HB := hS HB hb; (try clear hb); (try clear hb2); (try clear hk); (try clear hi); (try clear ho0); obtain ⟨Ao69, co69, eo69⟩ := Kd.R_slice HO299.out; subst eo69) | ((with_reducible refine gate_callee (f := 12) rfl ?_); refine goC (N := some 60) Try.func12 #[.slice Ao60 t284.length co60, .slice Ao69 t297.length co69] rfl ?_; (with_reducible refine (laws_eqIntS.calls k _ _ t284 _ _ t297 true _ ?side1 ?side2 ?side3 ?side4 A23.out).mono ?_); (case side1 => exact cS (Kd.R_reads' HO286.out).2.2); (case side2 => exact (Kd.R_reads' HO286.out).2.1); (case side3 => exact cS (Kd.R_reads' HO299.out).2.2); (case side4 => exact (Kd.R_reads' HO299.out).2.1); rintro e w' ⟨rfl, ⟨nd, rfl⟩⟩; refine ⟨_, rfl, ?_⟩; have hcz70_0 := cz BK283 0; have hcz70_1 := cz BK283 1; have hfz70_0 := fz BK283 0; have hfz70_1 := fz BK283 1) | ((with_reducible refine gate_callee (f := 15) rfl ?_); refine goC (N := some 64) Try.func15 #[.agg #[.int .i64 t279, .slice Ao57 t280.length co57], .int .i64 1] rfl ?_; (with_reducible refine (laws_markParty.calls k t279 (fun k_ => some k_ = (.slice Ao57 t280.length co57 : Value).ownBlock) (.slice Ao57 t280.length co57) t280 1 t301 t302 w _ ?side1 ?side2 A25.out).mono ?_); (case side1 => repeat (first | (with_reducible first | exact HB.out | apply below_alloc | apply pw_below_drewN | apply below_drew1 | refine below_set ?_ GE266.out | refine below_set ?_ GE283.out) | exact HB.out)); (case side2 => exact Kd.R_tight rfl (rU HO282)); rintro e w71 ⟨rfl, hy0, hb, hkp⟩; refine ⟨_, rfl, ?_⟩; have n0_ := Aside0.mk (blk_kept bK hkp (fun hs_ => (fun e_ => (Kd.R_ne HO282.out BK266.out (by decide)) e_) hs_)); have n1_ := Aside0.mk (Kd.R_mono (ok' := fun k_ => some k_ ≠ (.slice Ao57 t280.length co57 : Value).ownBlock ∧ some k_ ≠ (.slice Ao66 t293.length co66 : Value).ownBlock) (Kd.R_keptB (rU HO271) hkp (fun k_ hk_ hs_ => pjn hk_ hs_)) (fun k_ hk_ => pj hk_)); have n2_ := Aside0.mk (Kd.R_mono (ok' := fun k_ => some k_ ≠ (.slice Ao63 t275.length co63 : Value).ownBlock ∧ some k_ ≠ (.slice Ao60 t284.length co60 : Value).ownBlock ∧ some k_ ≠ (.slice Ao62 t287.length co62 : Value).ownBlock ∧ some k_ ≠ (.slice Ao69 t297.length co69 : Value).ownBlock) (Kd.R_keptB ((Kd.R_apart' (rU HO274) (Kd.R_typed (rU HO282)) (by decide))) hkp (fun k_ hk_ hs_ => pjn hk_ hs_)) (fun k_ hk_ => pj hk_)); have n3_ := Aside0.mk (Kd.R_mono (ok' := fun k_ => some k_ ≠ (.slice Ao50 t272.length co50 : Value).ownBlock ∧ some k_ ≠ (.slice Ao60 t284.length co60 : Value).ownBlock ∧ some k_ ≠ (.slice Ao62 t287.length co62 : Value).ownBlock ∧ some k_ ≠ (.slice Ao69 t297.length co69 : Value).ownBlock) (Kd.R_keptB ((Kd.R_apart' (rU HO277) (Kd.R_typed (rU HO282)) (by decide))) hkp (fun k_ hk_ hs_ => pjn hk_ hs_)) (fun k_ hk_ => pj hk_)); have n4_ := Aside0.mk (Kd.R_reok rfl hy0 (fun k_ e_ => HO282.out.1 k_ e_)); have n5_ := Aside0.mk (blk_kept bK hkp (fun hs_ => (fun e_ => (Kd.R_ne HO282.out BK283.out (by decide)) e_) hs_)); have n6_ := Aside0.mk (Kd.R_mono (ok' := fun k_ => some k_ ≠ (.slice Ao50 t272.length co50 : Value).ownBlock ∧ some k_ ≠ (.slice Ao63 t275.length co63 : Value).ownBlock ∧ some k_ ≠ (.slice Ao62 t287.length co62 : Value).ownBlock ∧ some k_ ≠ (.slice Ao69 t297.length co69 : Value).ownBlock) (Kd.R_keptB ((Kd.R_apart' (rU HO286) (Kd.R_typed (rU HO282)) (by decide))) hkp (fun k_ hk_ hs_ => pjn hk_ hs_)) (fun k_ hk_ => pj hk_)); have n7_ := Aside0.mk (Kd.R_mono (ok' := fun k_ => some k_ ≠ (.slice Ao50 t272.length co50 : Value).ownBlock ∧ some k_ ≠ (.slice Ao63 t275.length co63 : Value).ownBlock ∧ some k_ ≠ (.slice Ao60 t284.length co60 : Value).ownBlock ∧ some k_ ≠ (.slice Ao69 t297.length co69 : Value).ownBlock) (Kd.R_keptB ((Kd.R_apart' (rU HO289) (Kd.R_typed (rU HO282)) (by decide))) hkp (fun k_ hk_ hs_ => pjn hk_ hs_)) (fun k_ hk_ => pj hk_)); have n8_ := Aside0.mk (Kd.R_mono (ok' := fun k_ => some k_ ≠ (.slice Ao49 t269.length co49 : Value).ownBlock ∧ some k_ ≠ (.slice Ao57 t280.length co57 : Value).ownBlock) (Kd.R_keptB (rU HO295) hkp (fun k_ hk_ hs_ => pjn hk_ hs_)) (fun k_ hk_ => pj hk_)); have n9_ := Aside0.mk (Kd.R_mono (ok' := fun k_ => some k_ ≠ (.slice Ao50 t272.length co50 : Value).ownBlock ∧ some k_ ≠ (.slice Ao63 t275.length co63 : Value).ownBlock ∧ some k_ ≠ (.slice Ao60 t284.length co60 : Value).ownBlock ∧ some k_ ≠ (.slice Ao62 t287.length co62 : Value).ownBlock) (Kd.R_keptB ((Kd.R_apart' (rU HO299) (Kd.R_typed (rU HO282)) (by decide))) hkp (fun k_ hk_ hs_ => pjn hk_ hs_)) (fun k_ hk_ => pj hk_)); have n10_ := Aside0.mk (hb); clear BK266; clear HO271; clear HO274; clear HO277; clear HO282; clear BK283; clear HO286; clear HO289; clear HO295; clear HO299; clear HB; have BK266 := n0_; have HO271 := n1_; have HO274 := n2_; have HO277 := n3_; have HO282 := n4_; have BK283 := n5_; have HO286 := n6_; have HO289 := n7_; have HO295 := n8_; have HO299 := n9_; have HB := n10_; clear n0_ n1_ n2_ n3_ n4_ n5_ n6_ n7_ n8_ n9_ n10_; (try clear hb); (try clear hkp); (try clear hy0)) | ((with_reducible refine gate_callee (f := 16) rfl ?_); refine goC (N := some 67) Try.func16 #[.slice Ao60 t284.length co60, .int .i64 t301] rfl ?_; (with_reducible refine (laws_markIntS.calls k (fun k_ => some k_ = (.slice Ao60 t284.length co60 : Value).ownBlock) (.slice Ao60 t284.length co60) t284 t301 t303 t304 w _ ?side1 ?side2 A26.out).mono ?_); (case side1 => repeat (first | (with_reducible first | exact HB.out | apply below_alloc | apply pw_below_drewN | apply below_drew1 | refine below_set ?_ GE266.out | refine below_set ?_ GE283.out) | exact HB.out)); (case side2 => exact Kd.R_tight rfl (rU HO286)); rintro e w72 ⟨rfl, hy0, hb, hkp⟩; refine ⟨_, rfl, ?_⟩; have n0_ := Aside0.mk (blk_kept bK hkp (fun hs_ => (fun e_ => (Kd.R_ne HO286.out BK266.out (by decide)) e_) hs_)); have n1_ := Aside0.mk (Kd.R_mono (ok' := fun k_ => some k_ ≠ (.slice Ao57 t280.length co57 : Value).ownBlock ∧ some k_ ≠ (.slice Ao66 t293.length co66 : Value).ownBlock) (Kd.R_keptB ((Kd.R_apart' (rU HO271) (Kd.R_typed (rU HO286)) (by decide))) hkp (fun k_ hk_ hs_ => pjn hk_ hs_)) (fun k_ hk_ => pj hk_)); have n2_ := Aside0.mk (Kd.R_mono (ok' := fun k_ => some k_ ≠ (.slice Ao63 t275.length co63 : Value).ownBlock ∧ some k_ ≠ (.slice Ao60 t284.length co60 : Value).ownBlock ∧ some k_ ≠ (.slice Ao62 t287.length co62 : Value).ownBlock ∧ some k_ ≠ (.slice Ao69 t297.length co69 : Value).ownBlock) (Kd.R_keptB (rU HO274) hkp (fun k_ hk_ hs_ => pjn hk_ hs_)) (fun k_ hk_ => pj hk_)); have n3_ := Aside0.mk (Kd.R_mono (ok' := fun k_ => some k_ ≠ (.slice Ao50 t272.length co50 : Value).ownBlock ∧ some k_ ≠ (.slice Ao60 t284.length co60 : Value).ownBlock ∧ some k_ ≠ (.slice Ao62 t287.length co62 : Value).ownBlock ∧ some k_ ≠ (.slice Ao69 t297.length co69 : Value).ownBlock) (Kd.R_keptB (rU HO277) hkp (fun k_ hk_ hs_ => pjn hk_ hs_)) (fun k_ hk_ => pj hk_)); have n4_ := Aside0.mk (Kd.R_mono (ok' := fun k_ => some k_ ≠ (.slice Ao49 t269.length co49 : Value).ownBlock ∧ some k_ ≠ (.slice Ao66 t293.length co66 : Value).ownBlock) (Kd.R_keptB ((Kd.R_apart' (rU HO282) (Kd.R_typed (rU HO286)) (by decide))) hkp (fun k_ hk_ hs_ => pjn hk_ hs_)) (fun k_ hk_ => pj hk_)); have n5_ := Aside0.mk (blk_kept bK hkp (fun hs_ => (fun e_ => (Kd.R_ne HO286.out BK283.out (by decide)) e_) hs_)); have n6_ := Aside0.mk (Kd.R_reok rfl hy0 (fun k_ e_ => HO286.out.1 k_ e_)); have n7_ := Aside0.mk (Kd.R_mono (ok' := fun k_ => some k_ ≠ (.slice Ao50 t272.length co50 : Value).ownBlock ∧ some k_ ≠ (.slice Ao63 t275.length co63 : Value).ownBlock ∧ some k_ ≠ (.slice Ao60 t284.length co60 : Value).ownBlock ∧ some k_ ≠ (.slice Ao69 t297.length co69 : Value).ownBlock) (Kd.R_keptB (rU HO289) hkp (fun k_ hk_ hs_ => pjn hk_ hs_)) (fun k_ hk_ => pj hk_)); have n8_ := Aside0.mk (Kd.R_mono (ok' := fun k_ => some k_ ≠ (.slice Ao49 t269.length co49 : Value).ownBlock ∧ some k_ ≠ (.slice Ao57 t280.length co57 : Value).ownBlock) (Kd.R_keptB ((Kd.R_apart' (rU HO295) (Kd.R_typed (rU HO286)) (by decide))) hkp (fun k_ hk_ hs_ => pjn hk_ hs_)) (fun k_ hk_ => pj hk_)); have n9_ := Aside0.mk (Kd.R_mono (ok' := fun k_ => some k_ ≠ (.slice Ao50 t272.length co50 : Value).ownBlock ∧ some k_ ≠ (.slice Ao63 t275.length co63 : Value).ownBlock ∧ some k_ ≠ (.slice Ao60 t284.length co60 : Value).ownBlock ∧ some k_ ≠ (.slice Ao62 t287.length co62 : Value).ownBlock) (Kd.R_keptB (rU HO299) hkp (fun k_ hk_ hs_ => pjn hk_ hs_)) (fun k_ hk_ => pj hk_)); have n10_ := Aside0.mk (hb); clear BK266; clear HO271; clear HO274; clear HO277; clear HO282; clear BK283; clear HO286; clear HO289; clear HO295; clear HO299; clear HB; have BK266 := n0_; have HO271 := n1_; have HO274 := n2_; have HO277 := n3_; have HO282 := n4_; have BK283 := n5_; have HO286 := n6_; have HO289 := n7_; have HO295 := n8_; have HO299 := n9_; have HB := n10_; clear n0_ n1_ n2_ n3_ n4_ n5_ n6_ n7_ n8_ n9_ n10_; (try clear hb); (try clear hkp); (try clear hy0)) | (go_at_call 12; (with_reducible refine (laws_eqIntS.calls k _ _ t287 _ _ t275 true _ ?side1 ?side2 ?side3 ?side4 A28.out).mono ?_); (case side1 => exact cS (Kd.R_reads' HO289.out).2.2); (case side2 => exact (Kd.R_reads' HO289.out).2.1); (case side3 => exact cS (Kd.R_reads' HO277.out).2.2); (case side4 => exact (Kd.R_reads' HO277.out).2.1); rintro e w' ⟨rfl, ⟨nd, rfl⟩⟩) | ((with_reducible refine gate_callee (f := 16) rfl ?_); refine goC (N := some 83) Try.func16 #[.slice Ao62 t287.length co62, .int .i64 1] rfl ?_; (with_reducible refine (laws_markIntS.calls k (fun k_ => some k_ = (.slice Ao62 t287.length co62 : Value).ownBlock) (.slice Ao62 t287.length co62) t287 1 t306 t307 w _ ?side1 ?side2 A30.out).mono ?_); (case side1 => repeat (first | (with_reducible first | exact HB.out | apply below_alloc | apply pw_below_drewN | apply below_drew1 | refine below_set ?_ GE266.out | refine below_set ?_ GE283.out) | exact HB.out)); (case side2 => exact Kd.R_tight rfl (rU HO289)); rintro e w73 ⟨rfl, hy0, hb, hkp⟩; refine ⟨_, rfl, ?_⟩; have n0_ := Aside0.mk (blk_kept bK hkp (fun hs_ => (fun e_ => (Kd.R_ne HO289.out BK266.out (by decide)) e_) hs_)); have n1_ := Aside0.mk (Kd.R_mono (ok' := fun k_ => some k_ ≠ (.slice Ao57 t280.length co57 : Value).ownBlock ∧ some k_ ≠ (.slice Ao66 t293.length co66 : Value).ownBlock) (Kd.R_keptB ((Kd.R_apart' (rU HO271) (Kd.R_typed (rU HO289)) (by decide))) hkp (fun k_ hk_ hs_ => pjn hk_ hs_)) (fun k_ hk_ => pj hk_)); have n2_ := Aside0.mk (Kd.R_mono (ok' := fun k_ => some k_ ≠ (.slice Ao63 t275.length co63 : Value).ownBlock ∧ some k_ ≠ (.slice Ao60 t284.length co60 : Value).ownBlock ∧ some k_ ≠ (.slice Ao62 t287.length co62 : Value).ownBlock ∧ some k_ ≠ (.slice Ao69 t297.length co69 : Value).ownBlock) (Kd.R_keptB (rU HO274) hkp (fun k_ hk_ hs_ => pjn hk_ hs_)) (fun k_ hk_ => pj hk_)); have n3_ := Aside0.mk (Kd.R_mono (ok' := fun k_ => some k_ ≠ (.slice Ao50 t272.length co50 : Value).ownBlock ∧ some k_ ≠ (.slice Ao60 t284.length co60 : Value).ownBlock ∧ some k_ ≠ (.slice Ao62 t287.length co62 : Value).ownBlock ∧ some k_ ≠ (.slice Ao69 t297.length co69 : Value).ownBlock) (Kd.R_keptB (rU HO277) hkp (fun k_ hk_ hs_ => pjn hk_ hs_)) (fun k_ hk_ => pj hk_)); have n4_ := Aside0.mk (Kd.R_mono (ok' := fun k_ => some k_ ≠ (.slice Ao49 t269.length co49 : Value).ownBlock ∧ some k_ ≠ (.slice Ao66 t293.length co66 : Value).ownBlock) (Kd.R_keptB ((Kd.R_apart' (rU HO282) (Kd.R_typed (rU HO289)) (by decide))) hkp (fun k_ hk_ hs_ => pjn hk_ hs_)) (fun k_ hk_ => pj hk_)); have n5_ := Aside0.mk (blk_kept bK hkp (fun hs_ => (fun e_ => (Kd.R_ne HO289.out BK283.out (by decide)) e_) hs_)); have n6_ := Aside0.mk (Kd.R_mono (ok' := fun k_ => some k_ ≠ (.slice Ao50 t272.length co50 : Value).ownBlock ∧ some k_ ≠ (.slice Ao63 t275.length co63 : Value).ownBlock ∧ some k_ ≠ (.slice Ao62 t287.length co62 : Value).ownBlock ∧ some k_ ≠ (.slice Ao69 t297.length co69 : Value).ownBlock) (Kd.R_keptB (rU HO286) hkp (fun k_ hk_ hs_ => pjn hk_ hs_)) (fun k_ hk_ => pj hk_)); have n7_ := Aside0.mk (Kd.R_reok rfl hy0 (fun k_ e_ => HO289.out.1 k_ e_)); have n8_ := Aside0.mk (Kd.R_mono (ok' := fun k_ => some k_ ≠ (.slice Ao49 t269.length co49 : Value).ownBlock ∧ some k_ ≠ (.slice Ao57 t280.length co57 : Value).ownBlock) (Kd.R_keptB ((Kd.R_apart' (rU HO295) (Kd.R_typed (rU HO289)) (by decide))) hkp (fun k_ hk_ hs_ => pjn hk_ hs_)) (fun k_ hk_ => pj hk_)); have n9_ := Aside0.mk (Kd.R_mono (ok' := fun k_ => some k_ ≠ (.slice Ao50 t272.length co50 : Value).ownBlock ∧ some k_ ≠ (.slice Ao63 t275.length co63 : Value).ownBlock ∧ some k_ ≠ (.slice Ao60 t284.length co60 : Value).ownBlock ∧ some k_ ≠ (.slice Ao62 t287.length co62 : Value).ownBlock) (Kd.R_keptB (rU HO299) hkp (fun k_ hk_ hs_ => pjn hk_ hs_)) (fun k_ hk_ => pj hk_)); have n10_ := Aside0.mk (hb); clear BK266; clear HO271; clear HO274; clear HO277; clear HO282; clear BK283; clear HO286; clear HO289; clear HO295; clear HO299; clear HB; have BK266 := n0_; have HO271 := n1_; have HO274 := n2_; have HO277 := n3_; have HO282 := n4_; have BK283 := n5_; have HO286 := n6_; have HO289 := n7_; have HO295 := n8_; have HO299 := n9_; have HB := n10_; clear n0_ n1_ n2_ n3_ n4_ n5_ n6_ n7_ n8_ n9_ n10_; (try clear hb); (try clear hkp); (try clear hy0)) | ((with_reducible refine gate_callee (f := 17) rfl ?_); refine goesL_ (some 86) rfl rfl Try.func17 (by kernel_rfl) rfl #[.slice Ao62 t307.length co62, .int .i64 1] rfl (by (try simp only [List.map_toArray, List.map_cons, List.map_nil]); first | done | (rw [show t307.length = t287.length from (Kd.R_reads' HO289.out).1.symm] <;> rfl) | rfl | (simp only [List.length_drop, List.length_take]; rfl)) ?_; (with_reducible refine (laws_heldIntS.calls k _ _ t307 1 t308 _ ?side1 ?side2 A31.out).mono ?_); (case side1 => exact cS (Kd.R_reads' HO289.out).2.2); (case side2 => rw [show t307.length = t287.length from (Kd.R_reads' HO289.out).1.symm]; exact (Kd.R_reads' HO289.out).2.1); rintro e w' ⟨rfl, ⟨nd, rfl⟩⟩; refine ⟨_, rfl, ?_⟩; have hcz74_0 := cz BK266 0; have hcz74_1 := cz BK266 1; have hfz74_0 := fz BK266 0; have hfz74_1 := fz BK266 1) | ((with_reducible refine gate_callee (f := 8) rfl ?_); refine goC (N := some 94) Try.func8 #[.agg #[.int .i64 a0_0, .slice A0_1 l0_1.length c0_1]] rfl ?_; (with_reducible refine (laws_toParty.calls k a0_0 _ _ l0_1 t309 t310 _ ?side1 ?side2 A34.out).mono ?_); (case side1 => repeat (first | exact (Kd.C_below HR0_1.out hB) | (with_reducible refine Kd.C_alloc ?_ _) | (with_reducible refine Kd.C_drewN ?_ _) | (with_reducible refine Kd.C_drew ?_))); (case side2 => exact HC0_1.out); rintro e w75 ⟨v311, rfl, ho0, hb⟩; refine ⟨_, rfl, ?_⟩; have HO312 := Aside0.mk (Kd.R_lower (Kd.R_new' (Kd.R_new' (Kd.R_new' ho0 (Kd.R_lt (rU HO271))) (Kd.R_lt (rU HO282))) (Kd.R_lt (rU HO295))) (below_size hB)); replace HO271 := Aside0.mk (Kd.R_elder' (rU HO271) (Kd.R_base ho0) hb); replace HO274 := Aside0.mk (Kd.R_below (rU HO274) hb); replace HO277 := Aside0.mk (Kd.R_below (rU HO277) hb); replace HO282 := Aside0.mk (Kd.R_elder' (rU HO282) (Kd.R_base ho0) hb); replace HO286 := Aside0.mk (Kd.R_below (rU HO286) hb); replace HO289 := Aside0.mk (Kd.R_below (rU HO289) hb); replace HO295 := Aside0.mk (Kd.R_elder' (rU HO295) (Kd.R_base ho0) hb); replace HO299 := Aside0.mk (Kd.R_below (rU HO299) hb); replace BK266 := bS BK266 hb; replace BK283 := bS BK283 hb; replace HB := hS HB hb; (try clear hb); (try clear hb2); (try clear hk); (try clear hi); (try clear ho0)) | ((with_reducible refine gate_callee (f := 9) rfl ?_); refine goC (N := some 96) Try.func9 #[.slice A1 l1.length c1] rfl ?_; (with_reducible refine (laws_toIntS.calls k _ _ l1 t313 _ ?side1 ?side2 A35.out).mono ?_); (case side1 => exact cS (Kd.C_below HR1.out HB.out)); (case side2 => exact HC1.out); rintro e w76 ⟨v314, rfl, ho0, hb⟩; refine ⟨_, rfl, ?_⟩; have HO315 := Aside0.mk (Kd.R_lower (Kd.R_new' (Kd.R_new' (Kd.R_new' (Kd.R_new' (Kd.R_new' ho0 (Kd.R_lt (rU HO274))) (Kd.R_lt (rU HO277))) (Kd.R_lt (rU HO286))) (Kd.R_lt (rU HO289))) (Kd.R_lt (rU HO299))) (below_size hB)); replace HO271 := Aside0.mk (Kd.R_below (rU HO271) hb); replace HO274 := Aside0.mk (Kd.R_elder' (rU HO274) (Kd.R_base ho0) hb); replace HO277 := Aside0.mk (Kd.R_elder' (rU HO277) (Kd.R_base ho0) hb); replace HO282 := Aside0.mk (Kd.R_below (rU HO282) hb); replace HO286 := Aside0.mk (Kd.R_elder' (rU HO286) (Kd.R_base ho0) hb); replace HO289 := Aside0.mk (Kd.R_elder' (rU HO289) (Kd.R_base ho0) hb); replace HO295 := Aside0.mk (Kd.R_below (rU HO295) hb); replace HO299 := Aside0.mk (Kd.R_elder' (rU HO299) (Kd.R_base ho0) hb); replace HO312 := Aside0.mk (Kd.R_below (rU HO312) hb); replace BK266 := bS BK266 hb; replace BK283 := bS BK283 hb; replace HB := hS HB hb; (try clear hb); (try clear hb2); (try clear hk); (try clear hi); (try clear ho0); obtain ⟨Ao77, co77, eo77⟩ := Kd.R_slice HO312.out; subst eo77; obtain ⟨Ao78, co78, eo78⟩ := Kd.R_slice HO315.out; subst eo78) | ((with_reducible refine gate_callee (f := 14) rfl ?_); refine goC (N := some 97) Try.func14 #[.agg #[.int .i64 t309, .slice Ao77 t310.length co77], .slice Ao78 t313.length co78] rfl ?_; (with_reducible refine (impl_MendSeats.calls k t309 _ _ t310 _ _ t313 t316 t319 _ ?side1 ?side2 ?side3 ?side4 A36.out).mono ?_); (case side1 => exact cS (Kd.R_reads' HO312.out).2.2); (case side2 => exact (Kd.R_reads' HO312.out).2.1); (case side3 => exact cS (Kd.R_reads' HO315.out).2.2); (case side4 => exact (Kd.R_reads' HO315.out).2.1); rintro e w79 ⟨v317, rfl, ho0, hb⟩; refine ⟨_, rfl, ?_⟩; have HO318 := Aside0.mk (Kd.R_lower (Kd.R_new' (Kd.R_new' (Kd.R_new' (Kd.R_new' (Kd.R_new' (Kd.R_new' ho0 (Kd.R_lt (rU HO274))) (Kd.R_lt (rU HO277))) (Kd.R_lt (rU HO286))) (Kd.R_lt (rU HO289))) (Kd.R_lt (rU HO299))) (Kd.R_lt (rU HO315))) (below_size hB)); replace HO271 := Aside0.mk (Kd.R_below (rU HO271) hb); replace HO274 := Aside0.mk (Kd.R_elder' (rU HO274) (Kd.R_base ho0) hb); replace HO277 := Aside0.mk (Kd.R_elder' (rU HO277) (Kd.R_base ho0) hb); replace HO282 := Aside0.mk (Kd.R_below (rU HO282) hb); replace HO286 := Aside0.mk (Kd.R_elder' (rU HO286) (Kd.R_base ho0) hb); replace HO289 := Aside0.mk (Kd.R_elder' (rU HO289) (Kd.R_base ho0) hb); replace HO295 := Aside0.mk (Kd.R_below (rU HO295) hb); replace HO299 := Aside0.mk (Kd.R_elder' (rU HO299) (Kd.R_base ho0) hb); replace HO312 := Aside0.mk (Kd.R_below (rU HO312) hb); replace HO315 := Aside0.mk (Kd.R_elder' (rU HO315) (Kd.R_base ho0) hb); replace BK266 := bS BK266 hb; replace BK283 := bS BK283 hb; replace HB := hS HB hb; (try clear hb); (try clear hb2); (try clear hk); (try clear hi); (try clear ho0); obtain ⟨Ao80, co80, eo80⟩ := Kd.R_slice HO318.out; subst eo80) | ((with_reducible refine gate_callee (f := 12) rfl ?_); refine goC (N := some 102) Try.func12 #[.slice Ao80 t316.length co80, .slice Ao63 t275.length co63] rfl ?_; (with_reducible refine (laws_eqIntS.calls k _ _ t316 _ _ t275 true _ ?side1 ?side2 ?side3 ?side4 A37.out).mono ?_); (case side1 => exact cS (Kd.R_reads' HO318.out).2.2); (case side2 => exact (Kd.R_reads' HO318.out).2.1); (case side3 => exact cS (Kd.R_reads' HO277.out).2.2); (case side4 => exact (Kd.R_reads' HO277.out).2.1); rintro e w' ⟨rfl, ⟨nd, rfl⟩⟩; refine ⟨_, rfl, ?_⟩) | ((with_reducible refine gate_callee (f := 17) rfl ?_); refine goesL_ (some 111) rfl rfl Try.func17 (by kernel_rfl) rfl #[.slice Ao62 t307.length co62, .int .i64 1] rfl (by (try simp only [List.map_toArray, List.map_cons, List.map_nil]); first | done | (rw [show t307.length = t287.length from (Kd.R_reads' HO289.out).1.symm] <;> rfl) | rfl | (simp only [List.length_drop, List.length_take]; rfl)) ?_; (with_reducible refine (laws_heldIntS.calls k _ _ t307 1 t321 _ ?side1 ?side2 A40.out).mono ?_); (case side1 => exact cS (Kd.R_reads' HO289.out).2.2); (case side2 => rw [show t307.length = t287.length from (Kd.R_reads' HO289.out).1.symm]; exact (Kd.R_reads' HO289.out).2.1); rintro e w' ⟨rfl, ⟨nd, rfl⟩⟩; refine ⟨_, rfl, ?_⟩))
               go_ret
               exact ⟨by first | rfl | (simp [errW_none, errW_some] <;> rfl) | (simp [*, errW_none, errW_some] <;> rfl), hB⟩
              ·rw [if_neg c42] at H
               exact absurd H (by simp)
           ·replace c38 := Bool.eq_false_iff.mpr c38
            subst c38
            have H1 : (none) = some r := by rw [if_neg (show ¬ (false = true) by decide)] at H; exact H
            clear H
            have H := H1
            clear H1
            exact absurd H (by simp)
          ·rw [if_neg c33] at H
           exact absurd H (by simp)
        ·replace c29 := Bool.eq_false_iff.mpr c29
         subst c29
         have H1 : (none) = some r := by rw [if_neg (show ¬ (false = true) by decide)] at H; exact H
         clear H
         have H := H1
         clear H1
         exact absurd H (by simp)
      ·replace c24 := Bool.eq_false_iff.mpr c24
       subst c24
       have H1 : (none) = some r := by rw [if_neg (show ¬ (false = true) by decide)] at H; exact H
       clear H
       have H := H1
       clear H1
       exact absurd H (by simp)
     ·replace c21 := Bool.eq_false_iff.mpr c21
      subst c21
      have H1 : (none) = some r := by rw [if_neg (show ¬ (false = true) by decide)] at H; exact H
      clear H
      have H := H1
      clear H1
      exact absurd H (by simp)
   ·replace c17 := Bool.eq_false_iff.mpr c17
    subst c17
    have H1 : (none) = some r := by rw [if_neg (show ¬ (false = true) by decide)] at H; exact H
    clear H
    have H := H1
    clear H1
    exact absurd H (by simp)

end Go.Proofs.Ytjpfbkkikcpmhaa.PFnExactMendSeats
