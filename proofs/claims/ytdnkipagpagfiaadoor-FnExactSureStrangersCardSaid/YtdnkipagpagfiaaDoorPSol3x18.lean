-- Of this session's own program wip/gen/gen.py (it drives the kit's print): contracts of the functions that the law reaches.
import Derived.Test.YtdnkipagpagfiaaDoorPSol3x0
import Derived.Test.YtdnkipagpagfiaaDoorPSol3x2
import Derived.Test.YtdnkipagpagfiaaDoorPSol3x3
import Derived.Test.YtdnkipagpagfiaaDoorPSol3x13
import Derived.Test.YtdnkipagpagfiaaDoorPSol3x14
import Derived.Test.YtdnkipagpagfiaaDoorPSol3x15
namespace Go.Proofs.YtdnkipagpagfiaaDoor.PSol3
open Go.RowKit Go.Proofs.YtdnkipagpagfiaaDoorW.PrintWords Go.Proofs.YtdnkipagpagfiaaDoorW.PrintLast Go.Proofs.YtdnkipagpagfiaaDoorW.PrintMore Go.Proofs.YtdnkipagpagfiaaDoor.Base
attribute [local go_sem] max2_int min2_int max_two min_two max_three min_three max_four min_four   -- for this text's walks alone
set_option linter.unusedVariables false
set_option linter.unusedSimpArgs false

/-! ### spec_SureStrangers: function 54 -/
def spec_SureStrangers.f (k : Nat) (a0_0 : Int) (l0_1 : List (S30)) : Option ((List (S110)) × Bool) := (spec_pzSureOf.f k a0_0 l0_1 false).bind fun bt597 => (some (bt597.1, bt597.2))
theorem spec_SureStrangers.mono : ∀ a0 a1 k, LeO (spec_SureStrangers.f k a0 a1) (spec_SureStrangers.f (k + 1) a0 a1) := by
 intro a0 a1 k
 unfold spec_SureStrangers.f
 repeat' first
   | (with_reducible exact spec_pzSureOf.mono _ _ _ _)
   | (with_reducible exact LeO.refl _)
   | (with_reducible exact LeO.none _)
   | (with_reducible refine LeO.ite ?_ ?_)
   | (with_reducible refine LeO.bind ?_ (fun _ => ?_))
   | exact spec_pzSureOf.mono _ _ _ _
   | exact LeO.none _
   | refine LeO.ite ?_ ?_
   | refine LeO.bind ?_ (fun _ => ?_)
set_option maxHeartbeats 8000000 in
set_option maxRecDepth 100000 in
theorem spec_SureStrangers.calls (k : Nat) (a0_0 : Int) (A0_1 : Option Addr) (c0_1 : Nat) (l0_1 : List (S30)) (r1 : List (S110)) (r2 : Bool) (w : World) (hr0_1 : Kd.C k30 w A0_1 l0_1.length l0_1) (hc0_1 : l0_1.length ≤ c0_1) (h : spec_SureStrangers.f k a0_0 l0_1 = some (r1, r2)) :
  Calls Tryd.prog 54 #[.agg #[.int .i64 a0_0, .slice A0_1 l0_1.length c0_1]] w fun e w' => ∃ v0_ : Value, e = .returned (.tuple #[v0_, .bool r2]) ∧ Kd.R k110 110 w' w.heap.size (fun _ => True) v0_ r1 ∧ Below w.heap.size w w' := by
 have hu40 := Tryd.underlying40
 have HR0_1 := Aside0.mk hr0_1
 have HC0_1 := Aside0.mk hc0_1
 clear hr0_1 hc0_1
 have HB := Aside0.mk (Below.refl w.heap.size w)
 have H : ((spec_pzSureOf.f k a0_0 l0_1 false).bind fun bt597 => (some (bt597.1, bt597.2))) = some (r1, r2) := h
 clear h
 replace H := Option.bind_eq_some_iff.mp H
 obtain ⟨⟨t597, t600⟩, A20, H⟩ := H
 replace H : (some (t597, t600)) = some (r1, r2) := H
 have A2 := Aside0.mk A20
 clear A20
 simp only [Option.some.injEq, Prod.mk.injEq] at H
 obtain ⟨rfl, rfl⟩ := H
 go_enter Tryd.func54, Tryd.ntmps54
 go_wp2_with (first | ((with_reducible refine gate_dst (N := 1) rfl ?_); refine bxE 1 #[.int .i64 a0_0, .slice A0_1 l0_1.length c0_1] 40 rfl ?_; intro gb596 hg w3 hbox hb; have BK596 := Aside0.mk (hbox); have GW596 := gS HB hg; have GE596 := gS HB hg; replace HB := hS HB hb; clear hb hbox hg; have hcz4_0 := cz BK596 0; have hcz4_1 := cz BK596 1; have hfz4_0 := fz BK596 0; have hfz4_1 := fz BK596 1) | ((with_reducible refine gate_callee (f := 93) rfl ?_); refine goC (N := some 5) Tryd.func93 #[.agg #[.int .i64 a0_0, .slice A0_1 l0_1.length c0_1], .bool false] rfl ?_; (with_reducible refine (spec_pzSureOf.calls k a0_0 _ _ l0_1 false t597 t600 _ ?side1 ?side2 A2.out).mono ?_); (case side1 => exact cS (Kd.C_below HR0_1.out HB.out)); (case side2 => exact HC0_1.out); rintro e w5 ⟨v598, rfl, ho0, hb⟩; refine ⟨_, rfl, ?_⟩; have HO599 := Aside0.mk (Kd.R_lower ho0 (below_size hB)); replace BK596 := bS BK596 hb; replace HB := hS HB hb; (try clear hb); (try clear hb2); (try clear hk); (try clear hi); (try clear ho0)))
 go_ret2
 exact ⟨_, by first | rfl | (simp [errW_none, errW_some] <;> rfl) | (simp [*, errW_none, errW_some] <;> rfl), rU HO599, hB⟩

/-! ### impl_SureStrangers: function 55 -/
def impl_SureStrangers.f (k : Nat) (a0_0 : Int) (l0_1 : List (S30)) : Option ((List (S110)) × Bool) := (impl_sure.f k a0_0 l0_1 false).bind fun bt602 => (some (bt602.1, bt602.2))
theorem impl_SureStrangers.mono : ∀ a0 a1 k, LeO (impl_SureStrangers.f k a0 a1) (impl_SureStrangers.f (k + 1) a0 a1) := by
 intro a0 a1 k
 unfold impl_SureStrangers.f
 repeat' first
   | (with_reducible exact impl_sure.mono _ _ _ _)
   | (with_reducible exact LeO.refl _)
   | (with_reducible exact LeO.none _)
   | (with_reducible refine LeO.ite ?_ ?_)
   | (with_reducible refine LeO.bind ?_ (fun _ => ?_))
   | exact impl_sure.mono _ _ _ _
   | exact LeO.none _
   | refine LeO.ite ?_ ?_
   | refine LeO.bind ?_ (fun _ => ?_)
set_option maxHeartbeats 8000000 in
set_option maxRecDepth 100000 in
theorem impl_SureStrangers.calls (k : Nat) (a0_0 : Int) (A0_1 : Option Addr) (c0_1 : Nat) (l0_1 : List (S30)) (r1 : List (S110)) (r2 : Bool) (w : World) (hr0_1 : Kd.C k30 w A0_1 l0_1.length l0_1) (hc0_1 : l0_1.length ≤ c0_1) (h : impl_SureStrangers.f k a0_0 l0_1 = some (r1, r2)) (hG : GTab 0 w := by first | exact Aside0.out ‹Aside0 (GTab _ _)› | exact GTab.up (Aside0.out ‹Aside0 (GTab _ _)›) (by repeat (first | (with_reducible first | exact Below.refl _ _ | exact Aside0.out ‹Aside0 (Below _ _ _)› | apply below_alloc | apply pw_below_drewN | apply below_drew1 | refine below_set ?_ (Aside0.out (by assumption))) | exact Aside0.out ‹Aside0 (Below _ _ _)›))) :
  Calls Tryd.prog 55 #[.agg #[.int .i64 a0_0, .slice A0_1 l0_1.length c0_1]] w fun e w' => ∃ v0_ : Value, e = .returned (.tuple #[v0_, .bool r2]) ∧ Kd.R k110 110 w' w.heap.size (fun _ => True) v0_ r1 ∧ Below w.heap.size w w' := by
 have hu40 := Tryd.underlying40
 have HG := Aside0.mk (p := GTab _ _) hG
 clear hG
 have HR0_1 := Aside0.mk hr0_1
 have HC0_1 := Aside0.mk hc0_1
 clear hr0_1 hc0_1
 have HB := Aside0.mk (Below.refl w.heap.size w)
 have H : ((impl_sure.f k a0_0 l0_1 false).bind fun bt602 => (some (bt602.1, bt602.2))) = some (r1, r2) := h
 clear h
 replace H := Option.bind_eq_some_iff.mp H
 obtain ⟨⟨t602, t605⟩, A20, H⟩ := H
 replace H : (some (t602, t605)) = some (r1, r2) := H
 have A2 := Aside0.mk A20
 clear A20
 simp only [Option.some.injEq, Prod.mk.injEq] at H
 obtain ⟨rfl, rfl⟩ := H
 go_enter Tryd.func55, Tryd.ntmps55
 go_wp2_with (first | ((with_reducible refine gate_dst (N := 1) rfl ?_); refine bxE 1 #[.int .i64 a0_0, .slice A0_1 l0_1.length c0_1] 40 rfl ?_; intro gb601 hg w3 hbox hb; have BK601 := Aside0.mk (hbox); have GW601 := gS HB hg; have GE601 := gS HB hg; replace HB := hS HB hb; clear hb hbox hg; have hcz4_0 := cz BK601 0; have hcz4_1 := cz BK601 1; have hfz4_0 := fz BK601 0; have hfz4_1 := fz BK601 1) | ((with_reducible refine gate_callee (f := 94) rfl ?_); refine goC (N := some 5) Tryd.func94 #[.agg #[.int .i64 a0_0, .slice A0_1 l0_1.length c0_1], .bool false] rfl ?_; (with_reducible refine (impl_sure.calls k a0_0 _ _ l0_1 false t602 t605 _ ?side1 ?side2 A2.out).mono ?_); (case side1 => exact cS (Kd.C_below HR0_1.out HB.out)); (case side2 => exact HC0_1.out); rintro e w5 ⟨v603, rfl, ho0, hb⟩; refine ⟨_, rfl, ?_⟩; have HO604 := Aside0.mk (Kd.R_lower ho0 (below_size hB)); replace BK601 := bS BK601 hb; replace HB := hS HB hb; (try clear hb); (try clear hb2); (try clear hk); (try clear hi); (try clear ho0)))
 go_ret2
 exact ⟨_, by first | rfl | (simp [errW_none, errW_some] <;> rfl) | (simp [*, errW_none, errW_some] <;> rfl), rU HO604, hB⟩

/-! ### laws_FnExactSureStrangers: function 13 -/
def laws_FnExactSureStrangers.f (k : Nat) (a0_0 : Int) (l0_1 : List (S23)) : Option (Bool) := (laws_szPuzzle.f a0_0 l0_1 1048576).bind fun t607 => (if t607 < 0 then (some true) else ((laws_toPuzzle.f k a0_0 l0_1).bind fun bt608 => ((spec_SureStrangers.f k bt608.1 bt608.2).bind fun bt612 => ((laws_toPuzzle.f k a0_0 l0_1).bind fun bt616 => ((impl_SureStrangers.f k bt616.1 bt616.2).bind fun bt621 => ((laws_eqPairS.f k bt621.1 bt612.1).bind fun t625 => (if t625 = true then (if (bt621.2 != bt612.2) = true then (none) else ((laws_toPuzzle.f k a0_0 l0_1).bind fun bt626 => ((laws_eqPuzzle.f k bt616.1 bt616.2 bt626.1 bt626.2).bind fun t630 => (if t630 = true then ((laws_markPuzzle.f k bt616.1 bt616.2 1).bind fun bt631 => (if bt631.1 < 0 then (none) else ((laws_eqPairS.f k bt621.1 bt612.1).bind fun t633 => (if t633 = true then ((laws_markPairS.f k bt621.1 1).bind fun bt634 => ((laws_heldPairS.f k bt634.2 1).bind fun t636 => (if t636 < 0 then (none) else (if t636 = bt634.1 then ((laws_toPuzzle.f k a0_0 l0_1).bind fun bt637 => ((impl_SureStrangers.f k bt637.1 bt637.2).bind fun bt641 => ((laws_eqPairS.f k bt641.1 bt612.1).bind fun t645 => (if t645 = true then (if (bt641.2 != bt612.2) = true then (none) else ((laws_heldPairS.f k bt634.2 1).bind fun t646 => (if t646 < 0 then (none) else (if t646 = bt634.1 then (some true) else (none))))) else (none))))) else (none))))) else (none))))) else (none))))) else (none))))))))
theorem laws_FnExactSureStrangers.mono : ∀ a0 a1 k, LeO (laws_FnExactSureStrangers.f k a0 a1) (laws_FnExactSureStrangers.f (k + 1) a0 a1) := by
 intro a0 a1 k
 unfold laws_FnExactSureStrangers.f
 repeat' first
   | (with_reducible exact impl_SureStrangers.mono _ _ _)
   | (with_reducible exact laws_eqPairS.mono _ _ _)
   | (with_reducible exact laws_eqPuzzle.mono _ _ _ _ _)
   | (with_reducible exact laws_heldPairS.mono _ _ _)
   | (with_reducible exact laws_markPairS.mono _ _ _)
   | (with_reducible exact laws_markPuzzle.mono _ _ _ _)
   | (with_reducible exact laws_toPuzzle.mono _ _ _)
   | (with_reducible exact spec_SureStrangers.mono _ _ _)
   | (with_reducible exact LeO.refl _)
   | (with_reducible exact LeO.none _)
   | (with_reducible refine LeO.ite ?_ ?_)
   | (with_reducible refine LeO.bind ?_ (fun _ => ?_))
   | exact impl_SureStrangers.mono _ _ _
   | exact laws_eqPairS.mono _ _ _
   | exact laws_eqPuzzle.mono _ _ _ _ _
   | exact laws_heldPairS.mono _ _ _
   | exact laws_markPairS.mono _ _ _
   | exact laws_markPuzzle.mono _ _ _ _
   | exact laws_toPuzzle.mono _ _ _
   | exact spec_SureStrangers.mono _ _ _
   | exact LeO.none _
   | refine LeO.ite ?_ ?_
   | refine LeO.bind ?_ (fun _ => ?_)
set_option maxHeartbeats 8000000 in
set_option maxRecDepth 100000 in
theorem laws_FnExactSureStrangers.calls (k : Nat) (a0_0 : Int) (A0_1 : Option Addr) (c0_1 : Nat) (l0_1 : List (S23)) (r : Bool) (w : World) (hr0_1 : Kd.C k23 w A0_1 l0_1.length l0_1) (hc0_1 : l0_1.length ≤ c0_1) (h : laws_FnExactSureStrangers.f k a0_0 l0_1 = some r) (hG : GTab 0 w := by first | exact Aside0.out ‹Aside0 (GTab _ _)› | exact GTab.up (Aside0.out ‹Aside0 (GTab _ _)›) (by repeat (first | (with_reducible first | exact Below.refl _ _ | exact Aside0.out ‹Aside0 (Below _ _ _)› | apply below_alloc | apply pw_below_drewN | apply below_drew1 | refine below_set ?_ (Aside0.out (by assumption))) | exact Aside0.out ‹Aside0 (Below _ _ _)›))) :
  Calls Tryd.prog 13 #[.agg #[.int .i64 a0_0, .slice A0_1 l0_1.length c0_1]] w fun e w' => e = .returned (.bool r) ∧ Below w.heap.size w w' := by
 have hu49 := Tryd.underlying49
 have hu40 := Tryd.underlying40
 have HG := Aside0.mk (p := GTab _ _) hG
 clear hG
 have HR0_1 := Aside0.mk hr0_1
 have HC0_1 := Aside0.mk hc0_1
 clear hr0_1 hc0_1
 have HB := Aside0.mk (Below.refl w.heap.size w)
 have H : ((laws_szPuzzle.f a0_0 l0_1 1048576).bind fun t607 => (if t607 < 0 then (some true) else ((laws_toPuzzle.f k a0_0 l0_1).bind fun bt608 => ((spec_SureStrangers.f k bt608.1 bt608.2).bind fun bt612 => ((laws_toPuzzle.f k a0_0 l0_1).bind fun bt616 => ((impl_SureStrangers.f k bt616.1 bt616.2).bind fun bt621 => ((laws_eqPairS.f k bt621.1 bt612.1).bind fun t625 => (if t625 = true then (if (bt621.2 != bt612.2) = true then (none) else ((laws_toPuzzle.f k a0_0 l0_1).bind fun bt626 => ((laws_eqPuzzle.f k bt616.1 bt616.2 bt626.1 bt626.2).bind fun t630 => (if t630 = true then ((laws_markPuzzle.f k bt616.1 bt616.2 1).bind fun bt631 => (if bt631.1 < 0 then (none) else ((laws_eqPairS.f k bt621.1 bt612.1).bind fun t633 => (if t633 = true then ((laws_markPairS.f k bt621.1 1).bind fun bt634 => ((laws_heldPairS.f k bt634.2 1).bind fun t636 => (if t636 < 0 then (none) else (if t636 = bt634.1 then ((laws_toPuzzle.f k a0_0 l0_1).bind fun bt637 => ((impl_SureStrangers.f k bt637.1 bt637.2).bind fun bt641 => ((laws_eqPairS.f k bt641.1 bt612.1).bind fun t645 => (if t645 = true then (if (bt641.2 != bt612.2) = true then (none) else ((laws_heldPairS.f k bt634.2 1).bind fun t646 => (if t646 < 0 then (none) else (if t646 = bt634.1 then (some true) else (none))))) else (none))))) else (none))))) else (none))))) else (none))))) else (none))))))))) = some r := h
 clear h
 replace H := Option.bind_eq_some_iff.mp H
 obtain ⟨t607, A20, H⟩ := H
 try dsimp only at H
 have A2 := Aside0.mk A20
 clear A20
 by_cases c3 : t607 < 0
 ·rw [if_pos c3] at H
  have c3b0 : decide (t607 < 0) = true := decide_eq_true c3
  clear c3
  obtain rfl := Option.some.inj H
  go_enter Tryd.func13, Tryd.ntmps13
  go_wp2_with (first | ((with_reducible refine gate_dst (N := 1) rfl ?_); refine bxE 1 #[.int .i64 a0_0, .slice A0_1 l0_1.length c0_1] 49 rfl ?_; intro gb606 hg w4 hbox hb; have BK606 := Aside0.mk (hbox); have GW606 := gS HB hg; have GE606 := gS HB hg; replace HB := hS HB hb; clear hb hbox hg; have hcz5_0 := cz BK606 0; have hcz5_1 := cz BK606 1; have hfz5_0 := fz BK606 0; have hfz5_1 := fz BK606 1) | ((with_reducible refine gate_callee (f := 26) rfl ?_); refine goC (N := some 16) Tryd.func26 #[.agg #[.int .i64 a0_0, .slice A0_1 l0_1.length c0_1], .int .i64 1048576] rfl ?_; (with_reducible refine (laws_szPuzzle.calls a0_0 _ _ l0_1 1048576 t607 _ ?side1 ?side2 A2.out).mono ?_); (case side1 => exact cS (Kd.C_below HR0_1.out HB.out)); (case side2 => exact HC0_1.out); rintro e w6 ⟨rfl, hb⟩; refine ⟨_, rfl, ?_⟩; replace BK606 := bS BK606 hb; replace HB := hS HB hb; (try clear hb); (try clear hb2); (try clear hk); (try clear hi)))
  go_ret
  exact ⟨by first | rfl | (simp [errW_none, errW_some] <;> rfl) | (simp [*, errW_none, errW_some] <;> rfl), hB⟩
 ·rw [if_neg c3] at H
  have c3b0 : decide (t607 < 0) = false := decide_eq_false c3
  clear c3
  replace H := Option.bind_eq_some_iff.mp H
  obtain ⟨⟨t608, t609⟩, A70, H⟩ := H
  try dsimp only at H
  have A7 := Aside0.mk A70
  clear A70
  replace H := Option.bind_eq_some_iff.mp H
  obtain ⟨⟨t612, t615⟩, A80, H⟩ := H
  try dsimp only at H
  have A8 := Aside0.mk A80
  clear A80
  replace H := Option.bind_eq_some_iff.mp H
  obtain ⟨⟨t616, t617⟩, A90, H⟩ := H
  try dsimp only at H
  have A9 := Aside0.mk A90
  clear A90
  replace H := Option.bind_eq_some_iff.mp H
  obtain ⟨⟨t621, t624⟩, A100, H⟩ := H
  try dsimp only at H
  have A10 := Aside0.mk A100
  clear A100
  replace H := Option.bind_eq_some_iff.mp H
  obtain ⟨t625, A110, H⟩ := H
  try dsimp only at H
  have A11 := Aside0.mk A110
  clear A110
  by_cases c12 : t625 = true
  ·subst c12
   rw [if_pos rfl] at H
   by_cases c13 : (t624 != t615) = true
   ·rw [if_pos c13] at H
    exact absurd H (by simp)
   ·rw [if_neg c13] at H
    have c13b0 : (t624 != t615) = false := by simpa using c13
    (try (have c13b1 : decide (t624 = t615) = true := by simpa using c13))
    (try (have c13b2 : (t624 == t615) = true := by simpa using c13))
    clear c13
    replace H := Option.bind_eq_some_iff.mp H
    obtain ⟨⟨t626, t627⟩, A140, H⟩ := H
    try dsimp only at H
    have A14 := Aside0.mk A140
    clear A140
    replace H := Option.bind_eq_some_iff.mp H
    obtain ⟨t630, A150, H⟩ := H
    try dsimp only at H
    have A15 := Aside0.mk A150
    clear A150
    by_cases c16 : t630 = true
    ·subst c16
     rw [if_pos rfl] at H
     replace H := Option.bind_eq_some_iff.mp H
     obtain ⟨⟨t631, t632⟩, A170, H⟩ := H
     try dsimp only at H
     have A17 := Aside0.mk A170
     clear A170
     by_cases c18 : t631 < 0
     ·rw [if_pos c18] at H
      exact absurd H (by simp)
     ·rw [if_neg c18] at H
      have c18b0 : decide (t631 < 0) = false := decide_eq_false c18
      clear c18
      replace H := Option.bind_eq_some_iff.mp H
      obtain ⟨t633, A190, H⟩ := H
      try dsimp only at H
      have A19 := Aside0.mk A190
      clear A190
      by_cases c20 : t633 = true
      ·subst c20
       rw [if_pos rfl] at H
       replace H := Option.bind_eq_some_iff.mp H
       obtain ⟨⟨t634, t635⟩, A210, H⟩ := H
       try dsimp only at H
       have A21 := Aside0.mk A210
       clear A210
       replace H := Option.bind_eq_some_iff.mp H
       obtain ⟨t636, A220, H⟩ := H
       try dsimp only at H
       have A22 := Aside0.mk A220
       clear A220
       by_cases c23 : t636 < 0
       ·rw [if_pos c23] at H
        exact absurd H (by simp)
       ·rw [if_neg c23] at H
        have c23b0 : decide (t636 < 0) = false := decide_eq_false c23
        clear c23
        by_cases c24 : t636 = t634
        ·rw [if_pos c24] at H
         have c24b0 : (t636 == t634) = true := beq_iff_eq.mpr c24
         have c24b1 : (t636 != t634) = false := bne_eq_false_iff_eq.mpr c24
         clear c24
         replace H := Option.bind_eq_some_iff.mp H
         obtain ⟨⟨t637, t638⟩, A250, H⟩ := H
         try dsimp only at H
         have A25 := Aside0.mk A250
         clear A250
         replace H := Option.bind_eq_some_iff.mp H
         obtain ⟨⟨t641, t644⟩, A260, H⟩ := H
         try dsimp only at H
         have A26 := Aside0.mk A260
         clear A260
         replace H := Option.bind_eq_some_iff.mp H
         obtain ⟨t645, A270, H⟩ := H
         try dsimp only at H
         have A27 := Aside0.mk A270
         clear A270
         by_cases c28 : t645 = true
         ·subst c28
          rw [if_pos rfl] at H
          by_cases c29 : (t644 != t615) = true
          ·rw [if_pos c29] at H
           exact absurd H (by simp)
          ·rw [if_neg c29] at H
           have c29b0 : (t644 != t615) = false := by simpa using c29
           (try (have c29b1 : decide (t644 = t615) = true := by simpa using c29))
           (try (have c29b2 : (t644 == t615) = true := by simpa using c29))
           clear c29
           replace H := Option.bind_eq_some_iff.mp H
           obtain ⟨t646, A300, H⟩ := H
           try dsimp only at H
           have A30 := Aside0.mk A300
           clear A300
           by_cases c31 : t646 < 0
           ·rw [if_pos c31] at H
            exact absurd H (by simp)
           ·rw [if_neg c31] at H
            have c31b0 : decide (t646 < 0) = false := decide_eq_false c31
            clear c31
            by_cases c32 : t646 = t634
            ·rw [if_pos c32] at H
             have c32b0 : (t646 == t634) = true := beq_iff_eq.mpr c32
             have c32b1 : (t646 != t634) = false := bne_eq_false_iff_eq.mpr c32
             clear c32
             obtain rfl := Option.some.inj H
             go_enter Tryd.func13, Tryd.ntmps13
             try go_wp2_with (first | ((with_reducible refine gate_dst (N := 1) rfl ?_); refine bxE 1 #[.int .i64 a0_0, .slice A0_1 l0_1.length c0_1] 49 rfl ?_; intro gb606 hg w33 hbox hb; have BK606 := Aside0.mk (hbox); have GW606 := gS HB hg; have GE606 := gS HB hg; replace HB := hS HB hb; clear hb hbox hg; have hcz34_0 := cz BK606 0; have hcz34_1 := cz BK606 1; have hfz34_0 := fz BK606 0; have hfz34_1 := fz BK606 1) | ((with_reducible refine gate_callee (f := 26) rfl ?_); refine goC (N := some 16) Tryd.func26 #[.agg #[.int .i64 a0_0, .slice A0_1 l0_1.length c0_1], .int .i64 1048576] rfl ?_; (with_reducible refine (laws_szPuzzle.calls a0_0 _ _ l0_1 1048576 t607 _ ?side1 ?side2 A2.out).mono ?_); (case side1 => exact cS (Kd.C_below HR0_1.out HB.out)); (case side2 => exact HC0_1.out); rintro e w35 ⟨rfl, hb⟩; refine ⟨_, rfl, ?_⟩; replace BK606 := bS BK606 hb; replace HB := hS HB hb; (try clear hb); (try clear hb2); (try clear hk); (try clear hi); have hcz36_0 := cz BK606 0; have hcz36_1 := cz BK606 1; have hfz36_0 := fz BK606 0; have hfz36_1 := fz BK606 1) | ((with_reducible refine gate_callee (f := 28) rfl ?_); refine goC (N := some 21) Tryd.func28 #[.agg #[.int .i64 a0_0, .slice A0_1 l0_1.length c0_1]] rfl ?_; (with_reducible refine (laws_toPuzzle.calls k a0_0 _ _ l0_1 t608 t609 _ ?side1 ?side2 A7.out).mono ?_); (case side1 => exact cS (Kd.C_below HR0_1.out HB.out)); (case side2 => exact HC0_1.out); rintro e w37 ⟨v610, rfl, ho0, hb⟩; refine ⟨_, rfl, ?_⟩; have HO611 := Aside0.mk (Kd.R_lower ho0 (below_size hB)); replace BK606 := bS BK606 hb; replace HB := hS HB hb; (try clear hb); (try clear hb2); (try clear hk); (try clear hi); (try clear ho0); obtain ⟨Ao38, co38, eo38⟩ := Kd.R_slice HO611.out; subst eo38) | ((with_reducible refine gate_callee (f := 54) rfl ?_); refine goC (N := some 22) Tryd.func54 #[.agg #[.int .i64 t608, .slice Ao38 t609.length co38]] rfl ?_; (with_reducible refine (spec_SureStrangers.calls k t608 _ _ t609 t612 t615 _ ?side1 ?side2 A8.out).mono ?_); (case side1 => exact cS (Kd.R_reads' HO611.out).2.2); (case side2 => exact (Kd.R_reads' HO611.out).2.1); rintro e w39 ⟨v613, rfl, ho0, hb⟩; refine ⟨_, rfl, ?_⟩; have HO614 := Aside0.mk (Kd.R_lower ho0 (below_size hB)); replace HO611 := Aside0.mk (Kd.R_below (rU HO611) hb); replace BK606 := bS BK606 hb; replace HB := hS HB hb; (try clear hb); (try clear hb2); (try clear hk); (try clear hi); (try clear ho0); have hcz40_0 := cz BK606 0; have hcz40_1 := cz BK606 1; have hfz40_0 := fz BK606 0; have hfz40_1 := fz BK606 1) | ((with_reducible refine gate_callee (f := 28) rfl ?_); refine goC (N := some 26) Tryd.func28 #[.agg #[.int .i64 a0_0, .slice A0_1 l0_1.length c0_1]] rfl ?_; (with_reducible refine (laws_toPuzzle.calls k a0_0 _ _ l0_1 t616 t617 _ ?side1 ?side2 A9.out).mono ?_); (case side1 => exact cS (Kd.C_below HR0_1.out HB.out)); (case side2 => exact HC0_1.out); rintro e w41 ⟨v618, rfl, ho0, hb⟩; refine ⟨_, rfl, ?_⟩; have HO619 := Aside0.mk (Kd.R_lower (Kd.R_new' ho0 (Kd.R_lt (rU HO611))) (below_size hB)); replace HO611 := Aside0.mk (Kd.R_elder' (rU HO611) (Kd.R_base ho0) hb); replace HO614 := Aside0.mk (Kd.R_below (rU HO614) hb); replace BK606 := bS BK606 hb; replace HB := hS HB hb; (try clear hb); (try clear hb2); (try clear hk); (try clear hi); (try clear ho0)) | ((with_reducible refine gate_dst (N := 6) rfl ?_); refine bxE 6 #[.int .i64 0, .slice none 0 0] 40 rfl ?_; intro gb620 hg w42 hbox hb; have BK620 := Aside0.mk (hbox); have GW620 := gS HB hg; have GE620 := gS HB hg; have NB606_620 := nL BK606 hg; have NB620_606 := nG BK606 hg; replace HO611 := Aside0.mk (Kd.R_below (rU HO611) hb); replace HO614 := Aside0.mk (Kd.R_below (rU HO614) hb); replace HO619 := Aside0.mk (Kd.R_below (rU HO619) hb); replace BK606 := bS BK606 hb; replace HB := hS HB hb; clear hb hbox hg; have hnb43 := NB620_606.out; have hnc43 := NB606_620.out; have hcz44_0 := cz BK620 0; have hcz44_1 := cz BK620 1; have hfz44_0 := fz BK620 0; have hfz44_1 := fz BK620 1; obtain ⟨Ao45, co45, eo45⟩ := Kd.R_slice HO619.out; subst eo45) | ((with_reducible refine gate_callee (f := 55) rfl ?_); refine goC (N := some 29) Tryd.func55 #[.agg #[.int .i64 t616, .slice Ao45 t617.length co45]] rfl ?_; (with_reducible refine (impl_SureStrangers.calls k t616 _ _ t617 t621 t624 _ ?side1 ?side2 A10.out).mono ?_); (case side1 => refine (Kd.R_reads' (e := 30) (base := w.heap.size) (ok := fun k_ => (True ∧ some k_ ≠ (.slice Ao38 t609.length co38 : Value).ownBlock)) (n := t617.length) (c := co45) ?_).2.2; exact (by (with_reducible repeat (first | apply Kd.R_alloc | apply Kd.R_drewN | apply Kd.R_drew)); exact (Kd.R_mono (Kd.R_far (p := ⟨gb620, 1, none⟩) (Kd.R_far (p := ⟨gb620, 0, none⟩) (Kd.R_types HO619.out BK620.out (by decide)) (fun _ hk => hk.2) (.int .i64 t616)) (fun _ hk => hk.2) (.slice Ao45 t617.length co45)) (fun _ h_ => h_.1)))); (case side2 => exact (Kd.R_reads' HO619.out).2.1); rintro e w46 ⟨v622, rfl, ho0, hb⟩; refine ⟨_, rfl, ?_⟩; have HO623 := Aside0.mk (Kd.R_lower (Kd.R_new' ho0 (Kd.R_lt (by (with_reducible repeat (first | apply Kd.R_alloc | apply Kd.R_drewN | apply Kd.R_drew)); exact (Kd.R_mono (Kd.R_far (p := ⟨gb620, 1, none⟩) (Kd.R_far (p := ⟨gb620, 0, none⟩) (Kd.R_types HO614.out BK620.out (by decide)) (fun _ hk => hk.2) (.int .i64 t616)) (fun _ hk => hk.2) (.slice Ao45 t617.length co45)) (fun _ h_ => h_.1))))) (below_size hB)); replace HO611 := Aside0.mk (Kd.R_below (by (with_reducible repeat (first | apply Kd.R_alloc | apply Kd.R_drewN | apply Kd.R_drew)); exact (Kd.R_mono (Kd.R_far (p := ⟨gb620, 1, none⟩) (Kd.R_far (p := ⟨gb620, 0, none⟩) (Kd.R_types HO611.out BK620.out (by decide)) (fun _ hk => hk.2) (.int .i64 t616)) (fun _ hk => hk.2) (.slice Ao45 t617.length co45)) (fun _ h_ => h_.1))) hb); replace HO614 := Aside0.mk (Kd.R_elder' (by (with_reducible repeat (first | apply Kd.R_alloc | apply Kd.R_drewN | apply Kd.R_drew)); exact (Kd.R_mono (Kd.R_far (p := ⟨gb620, 1, none⟩) (Kd.R_far (p := ⟨gb620, 0, none⟩) (Kd.R_types HO614.out BK620.out (by decide)) (fun _ hk => hk.2) (.int .i64 t616)) (fun _ hk => hk.2) (.slice Ao45 t617.length co45)) (fun _ h_ => h_.1))) (Kd.R_base ho0) hb); replace HO619 := Aside0.mk (Kd.R_below (by (with_reducible repeat (first | apply Kd.R_alloc | apply Kd.R_drewN | apply Kd.R_drew)); exact (Kd.R_mono (Kd.R_far (p := ⟨gb620, 1, none⟩) (Kd.R_far (p := ⟨gb620, 0, none⟩) (Kd.R_types HO619.out BK620.out (by decide)) (fun _ hk => hk.2) (.int .i64 t616)) (fun _ hk => hk.2) (.slice Ao45 t617.length co45)) (fun _ h_ => h_.1))) hb); replace BK606 := Aside0.mk (blk_below (g := gb606) (o := .cells #[.int .i64 a0_0, .slice A0_1 l0_1.length c0_1] 49 (0, 0)) (by (with_reducible repeat (first | refine blk_drewN ?_ _ | refine blk_drew ?_ | refine blk_alloc ?_ _)); refine blk_far ?_ NB606_620.out _; (with_reducible repeat (first | refine blk_drewN ?_ _ | refine blk_drew ?_ | refine blk_alloc ?_ _)); refine blk_far ?_ NB606_620.out _; (with_reducible repeat (first | refine blk_drewN ?_ _ | refine blk_drew ?_ | refine blk_alloc ?_ _)); exact BK606.out) hb); replace BK620 := Aside0.mk (blk_below (g := gb620) (o := .cells #[.int .i64 t616, .slice Ao45 t617.length co45] 40 (0, 0)) (by (with_reducible repeat (first | refine blk_drewN ?_ _ | refine blk_drew ?_ | refine blk_alloc ?_ _)); refine blk_put (cs := #[.int .i64 t616, .slice none 0 0]) ?_ 1 _ rfl; (with_reducible repeat (first | refine blk_drewN ?_ _ | refine blk_drew ?_ | refine blk_alloc ?_ _)); refine blk_put (cs := #[.int .i64 0, .slice none 0 0]) ?_ 0 _ rfl; (with_reducible repeat (first | refine blk_drewN ?_ _ | refine blk_drew ?_ | refine blk_alloc ?_ _)); exact BK620.out) hb); replace HB := hS HB hb; (try clear hb); (try clear hb2); (try clear hk); (try clear hi); (try clear ho0); obtain ⟨Ao47, co47, eo47⟩ := Kd.R_slice HO623.out; subst eo47; obtain ⟨Ao48, co48, eo48⟩ := Kd.R_slice HO614.out; subst eo48) | ((with_reducible refine gate_callee (f := 51) rfl ?_); refine goC (N := some 34) Tryd.func51 #[.slice Ao47 t621.length co47, .slice Ao48 t612.length co48] rfl ?_; (with_reducible refine (laws_eqPairS.calls k _ _ t621 _ _ t612 true _ ?side1 ?side2 ?side3 ?side4 A11.out).mono ?_); (case side1 => exact cS (Kd.R_reads' HO623.out).2.2); (case side2 => exact (Kd.R_reads' HO623.out).2.1); (case side3 => exact cS (Kd.R_reads' HO614.out).2.2); (case side4 => exact (Kd.R_reads' HO614.out).2.1); rintro e w49 ⟨rfl, hb⟩; refine ⟨_, rfl, ?_⟩; replace HO611 := Aside0.mk (Kd.R_below (rU HO611) hb); replace HO614 := Aside0.mk (Kd.R_below (rU HO614) hb); replace HO619 := Aside0.mk (Kd.R_below (rU HO619) hb); replace HO623 := Aside0.mk (Kd.R_below (rU HO623) hb); replace BK606 := bS BK606 hb; replace BK620 := bS BK620 hb; replace HB := hS HB hb; (try clear hb); (try clear hb2); (try clear hk); (try clear hi)))
             replace HO611 := Aside0.mk (Kd.R_drew HO611.out)
             replace HO614 := Aside0.mk (Kd.R_drew HO614.out)
             replace HO619 := Aside0.mk (Kd.R_drew HO619.out)
             replace HO623 := Aside0.mk (Kd.R_drew HO623.out)
             replace BK606 := Aside0.mk (blk_drew BK606.out)
             replace BK620 := Aside0.mk (blk_drew BK620.out)
             replace HB := Aside0.mk (below_drew1 HB.out)
             refine start_ (n := 5) (S := fun w' => w'.cell? ⟨gb620, 0, none⟩ = some (.int .i64 t616) ∧ w'.cell? ⟨gb620, 1, none⟩ = some (.slice Ao45 t617.length co45) ∧ w'.cell? ⟨gb606, 0, none⟩ = some (.int .i64 a0_0) ∧ w'.cell? ⟨gb606, 1, none⟩ = some (.slice A0_1 l0_1.length c0_1)) (ds := []) (bz 5 0) (by kernel_rfl) rfl rfl ⟨(blk_cell BK620.out 0).trans rfl, (blk_cell BK620.out 1).trans rfl, (blk_cell BK606.out 0).trans rfl, (blk_cell BK606.out 1).trans rfl⟩ (fun hHeld => ?_)
             generalize w49.drew = w50 at HO611 HO614 HO619 HO623 BK606 BK620 HB hHeld ⊢
             refine run_ [(1, 0, 1, some 41), (1, 1, 3, some 42)] ?_
             repeat ((apply tag1; refine run_t (v := ?_) (a' := ?_) rfl rfl (by kernel_rfl) (fun _ _ _ h => h) (by rfl) ?_ hHeld ?_ ?_; rotate_left 2; (rintro w' ⟨s0, s1, s2, s3⟩; go_simp; with_reducible rfl); (first | (simp only [Act.put, List.setIfInBounds_toArray, List.set_cons_zero, List.set_cons_succ, i64_w, i32_w]; rfl) | rfl)))
             refine run_nil ?_
             refine one_ (i := 2) (N := some 43) (bz 5 7) rfl rfl (by kernel_rfl) (by decide) (fun K hK => ?_)
             refine goes_ Tryd.func28 (by kernel_rfl) rfl #[.agg #[.int .i64 a0_0, .slice A0_1 l0_1.length c0_1]] (by rfl) rfl rfl mapT ?_
             with_reducible refine (laws_toPuzzle.calls k a0_0 _ _ l0_1 t626 t627 _ ?side1 ?side2 A14.out).mono ?_
             (case side1 => exact cS (Kd.C_below HR0_1.out HB.out))
             (case side2 => exact HC0_1.out)
             rintro e w51 ⟨v628, rfl, ho0, hb⟩
             refine ⟨_, rfl, ?_⟩
             have HO629 := Aside0.mk (Kd.R_lower (Kd.R_new' (Kd.R_new' ho0 (Kd.R_lt (rU HO611))) (Kd.R_lt (rU HO619))) (below_size hB))
             replace HO611 := Aside0.mk (Kd.R_elder' (rU HO611) (Kd.R_base ho0) hb)
             replace HO614 := Aside0.mk (Kd.R_below (rU HO614) hb)
             replace HO619 := Aside0.mk (Kd.R_elder' (rU HO619) (Kd.R_base ho0) hb)
             replace HO623 := Aside0.mk (Kd.R_below (rU HO623) hb)
             replace BK606 := bS BK606 hb
             replace BK620 := bS BK620 hb
             replace HB := hS HB hb
             (try clear hb)
             (try clear hb2)
             (try clear hk)
             (try clear hi)
             (try clear ho0)
             obtain ⟨Ao52, co52, eo52⟩ := Kd.R_slice HO629.out
             (first | subst eo52 | (injection eo52 with f1_ f2_ f3_; have f4_ := f1_.symm; have f5_ := f3_.symm; clear f1_ f2_ f3_; subst f4_; subst f5_))
             refine hK.out _ _ ⟨(blk_cell BK620.out 0).trans rfl, (blk_cell BK620.out 1).trans rfl, (blk_cell BK606.out 0).trans rfl, (blk_cell BK606.out 1).trans rfl⟩ (fun hHeld => ?_)
             clear hK K
             refine norm_ (a' := ?_) ?_ ?_
             rotate_left
             ·show Act.put _ (some 43) _ = _
              simp only [Act.put, List.setIfInBounds_toArray, List.set_cons_zero, List.set_cons_succ, i64_w, i32_w]
              rfl
             refine one_ (i := 3) (N := some 44) (bz 5 15) rfl rfl (by kernel_rfl) (by decide) (fun K hK => ?_)
             refine goes_ Tryd.func22 (by kernel_rfl) rfl #[.agg #[.int .i64 t616, .slice Ao45 t617.length co45], .agg #[.int .i64 t626, .slice Ao52 t627.length co52]] (by rfl) rfl rfl mapT ?_
             with_reducible refine (laws_eqPuzzle.calls k t616 _ _ t617 t626 _ _ t627 true _ ?side1 ?side2 ?side3 ?side4 A15.out).mono ?_
             (case side1 => exact cS (Kd.R_reads' HO619.out).2.2)
             (case side2 => exact (Kd.R_reads' HO619.out).2.1)
             (case side3 => exact cS (Kd.R_reads' HO629.out).2.2)
             (case side4 => exact (Kd.R_reads' HO629.out).2.1)
             rintro e w53 ⟨rfl, hb⟩
             refine ⟨_, rfl, ?_⟩
             replace HO611 := Aside0.mk (Kd.R_below (rU HO611) hb)
             replace HO614 := Aside0.mk (Kd.R_below (rU HO614) hb)
             replace HO619 := Aside0.mk (Kd.R_below (rU HO619) hb)
             replace HO623 := Aside0.mk (Kd.R_below (rU HO623) hb)
             replace HO629 := Aside0.mk (Kd.R_below (rU HO629) hb)
             replace BK606 := bS BK606 hb
             replace BK620 := bS BK620 hb
             replace HB := hS HB hb
             (try clear hb)
             (try clear hb2)
             (try clear hk)
             (try clear hi)
             refine hK.out _ _ ⟨(blk_cell BK620.out 0).trans rfl, (blk_cell BK620.out 1).trans rfl, (blk_cell BK606.out 0).trans rfl, (blk_cell BK606.out 1).trans rfl⟩ (fun hHeld => ?_)
             clear hK K
             refine norm_ (a' := ?_) ?_ ?_
             rotate_left
             ·show Act.put _ (some 44) _ = _
              simp only [Act.put, List.setIfInBounds_toArray, List.set_cons_zero, List.set_cons_succ, i64_w, i32_w]
              rfl
             refine run_ [(0, 4, 31, some 45)] ?_
             repeat ((apply tag0; refine run_p (v := ?_) (a' := ?_) rfl rfl (by kernel_rfl) (fun _ _ _ h => h) (by rfl) ?_ ?_ ?_; rotate_left 2; (intro w'; go_simp; with_reducible rfl); (first | (simp only [Act.put, List.setIfInBounds_toArray, List.set_cons_zero, List.set_cons_succ, i64_w, i32_w]; rfl) | rfl)))
             refine run_nil ?_
             refine done_ (by kernel_rfl) ?_
             have hcz54_0 := cz BK620 0
             have hcz54_1 := cz BK620 1
             have hfz54_0 := fz BK620 0
             have hfz54_1 := fz BK620 1
             try go_wp2_with (first | ((with_reducible refine gate_callee (f := 24) rfl ?_); refine goC (N := some 48) Tryd.func24 #[.agg #[.int .i64 t616, .slice Ao45 t617.length co45], .int .i64 1] rfl ?_; (with_reducible refine (laws_markPuzzle.calls k t616 (fun k_ => some k_ = (.slice Ao45 t617.length co45 : Value).ownBlock) (.slice Ao45 t617.length co45) t617 1 t631 t632 w _ ?side1 ?side2 A17.out).mono ?_); (case side1 => repeat (first | (with_reducible first | exact HB.out | apply below_alloc | apply pw_below_drewN | apply below_drew1 | refine below_set ?_ GE606.out | refine below_set ?_ GE620.out) | exact HB.out)); (case side2 => exact Kd.R_tight rfl (rU HO619)); rintro e w55 ⟨rfl, hy0, hb, hkp⟩; refine ⟨_, rfl, ?_⟩; have n0_ := Aside0.mk (blk_kept bK hkp (fun hs_ => (fun e_ => (Kd.R_ne HO619.out BK606.out (by decide)) e_) hs_)); have n1_ := Aside0.mk (Kd.R_mono (ok' := fun k_ => some k_ ≠ (.slice Ao45 t617.length co45 : Value).ownBlock ∧ some k_ ≠ (.slice Ao52 t627.length co52 : Value).ownBlock) (Kd.R_keptB (rU HO611) hkp (fun k_ hk_ hs_ => pjn hk_ hs_)) (fun k_ hk_ => pj hk_)); have n2_ := Aside0.mk (Kd.R_mono (ok' := fun k_ => some k_ ≠ (.slice Ao47 t621.length co47 : Value).ownBlock) (Kd.R_keptB ((Kd.R_apart' (rU HO614) (Kd.R_typed (rU HO619)) (by decide))) hkp (fun k_ hk_ hs_ => pjn hk_ hs_)) (fun k_ hk_ => pj hk_)); have n3_ := Aside0.mk (Kd.R_reok rfl hy0 (fun k_ e_ => HO619.out.1 k_ e_)); have n4_ := Aside0.mk (blk_kept bK hkp (fun hs_ => (fun e_ => (Kd.R_ne HO619.out BK620.out (by decide)) e_) hs_)); have n5_ := Aside0.mk (Kd.R_mono (ok' := fun k_ => some k_ ≠ (.slice Ao48 t612.length co48 : Value).ownBlock) (Kd.R_keptB ((Kd.R_apart' (rU HO623) (Kd.R_typed (rU HO619)) (by decide))) hkp (fun k_ hk_ hs_ => pjn hk_ hs_)) (fun k_ hk_ => pj hk_)); have n6_ := Aside0.mk (Kd.R_mono (ok' := fun k_ => some k_ ≠ (.slice Ao38 t609.length co38 : Value).ownBlock ∧ some k_ ≠ (.slice Ao45 t617.length co45 : Value).ownBlock) (Kd.R_keptB (rU HO629) hkp (fun k_ hk_ hs_ => pjn hk_ hs_)) (fun k_ hk_ => pj hk_)); have n7_ := Aside0.mk (hb); clear BK606; clear HO611; clear HO614; clear HO619; clear BK620; clear HO623; clear HO629; clear HB; have BK606 := n0_; have HO611 := n1_; have HO614 := n2_; have HO619 := n3_; have BK620 := n4_; have HO623 := n5_; have HO629 := n6_; have HB := n7_; clear n0_ n1_ n2_ n3_ n4_ n5_ n6_ n7_; (try clear hb); (try clear hkp); (try clear hy0)) | (go_at_call 51; (with_reducible refine (laws_eqPairS.calls k _ _ t621 _ _ t612 true _ ?side1 ?side2 ?side3 ?side4 A19.out).mono ?_); (case side1 => exact cS (Kd.R_reads' HO623.out).2.2); (case side2 => exact (Kd.R_reads' HO623.out).2.1); (case side3 => exact cS (Kd.R_reads' HO614.out).2.2); (case side4 => exact (Kd.R_reads' HO614.out).2.1); rintro e w56 ⟨rfl, hb⟩; replace HO611 := Aside0.mk (Kd.R_below (rU HO611) hb); replace HO614 := Aside0.mk (Kd.R_below (rU HO614) hb); replace HO619 := Aside0.mk (Kd.R_below (rU HO619) hb); replace HO623 := Aside0.mk (Kd.R_below (rU HO623) hb); replace HO629 := Aside0.mk (Kd.R_below (rU HO629) hb); replace BK606 := bS BK606 hb; replace BK620 := bS BK620 hb; replace HB := hS HB hb; (try clear hb); (try clear hb2); (try clear hk); (try clear hi)) | ((with_reducible refine gate_callee (f := 52) rfl ?_); refine goC (N := some 64) Tryd.func52 #[.slice Ao47 t621.length co47, .int .i64 1] rfl ?_; (with_reducible refine (laws_markPairS.calls k (fun k_ => some k_ = (.slice Ao47 t621.length co47 : Value).ownBlock) (.slice Ao47 t621.length co47) t621 1 t634 t635 w _ ?side1 ?side2 A21.out).mono ?_); (case side1 => repeat (first | (with_reducible first | exact HB.out | apply below_alloc | apply pw_below_drewN | apply below_drew1 | refine below_set ?_ GE606.out | refine below_set ?_ GE620.out) | exact HB.out)); (case side2 => exact Kd.R_tight rfl (rU HO623)); rintro e w57 ⟨rfl, hy0, hb, hkp⟩; refine ⟨_, rfl, ?_⟩; have n0_ := Aside0.mk (blk_kept bK hkp (fun hs_ => (fun e_ => (Kd.R_ne HO623.out BK606.out (by decide)) e_) hs_)); have n1_ := Aside0.mk (Kd.R_mono (ok' := fun k_ => some k_ ≠ (.slice Ao45 t617.length co45 : Value).ownBlock ∧ some k_ ≠ (.slice Ao52 t627.length co52 : Value).ownBlock) (Kd.R_keptB ((Kd.R_apart' (rU HO611) (Kd.R_typed (rU HO623)) (by decide))) hkp (fun k_ hk_ hs_ => pjn hk_ hs_)) (fun k_ hk_ => pj hk_)); have n2_ := Aside0.mk (Kd.R_mono (ok' := fun k_ => some k_ ≠ (.slice Ao47 t621.length co47 : Value).ownBlock) (Kd.R_keptB (rU HO614) hkp (fun k_ hk_ hs_ => pjn hk_ hs_)) (fun k_ hk_ => pj hk_)); have n3_ := Aside0.mk (Kd.R_mono (ok' := fun k_ => some k_ ≠ (.slice Ao38 t609.length co38 : Value).ownBlock ∧ some k_ ≠ (.slice Ao52 t627.length co52 : Value).ownBlock) (Kd.R_keptB ((Kd.R_apart' (rU HO619) (Kd.R_typed (rU HO623)) (by decide))) hkp (fun k_ hk_ hs_ => pjn hk_ hs_)) (fun k_ hk_ => pj hk_)); have n4_ := Aside0.mk (blk_kept bK hkp (fun hs_ => (fun e_ => (Kd.R_ne HO623.out BK620.out (by decide)) e_) hs_)); have n5_ := Aside0.mk (Kd.R_reok rfl hy0 (fun k_ e_ => HO623.out.1 k_ e_)); have n6_ := Aside0.mk (Kd.R_mono (ok' := fun k_ => some k_ ≠ (.slice Ao38 t609.length co38 : Value).ownBlock ∧ some k_ ≠ (.slice Ao45 t617.length co45 : Value).ownBlock) (Kd.R_keptB ((Kd.R_apart' (rU HO629) (Kd.R_typed (rU HO623)) (by decide))) hkp (fun k_ hk_ hs_ => pjn hk_ hs_)) (fun k_ hk_ => pj hk_)); have n7_ := Aside0.mk (hb); clear BK606; clear HO611; clear HO614; clear HO619; clear BK620; clear HO623; clear HO629; clear HB; have BK606 := n0_; have HO611 := n1_; have HO614 := n2_; have HO619 := n3_; have BK620 := n4_; have HO623 := n5_; have HO629 := n6_; have HB := n7_; clear n0_ n1_ n2_ n3_ n4_ n5_ n6_ n7_; (try clear hb); (try clear hkp); (try clear hy0)) | ((with_reducible refine gate_callee (f := 53) rfl ?_); refine goesL_ (some 67) rfl rfl Tryd.func53 (by kernel_rfl) rfl #[.slice Ao47 t635.length co47, .int .i64 1] rfl (by (try simp only [List.map_toArray, List.map_cons, List.map_nil]); first | done | (rw [show t635.length = t621.length from (Kd.R_reads' HO623.out).1.symm] <;> rfl) | rfl | (simp only [List.length_drop, List.length_take]; rfl)) ?_; (with_reducible refine (laws_heldPairS.calls k _ _ t635 1 t636 _ ?side1 ?side2 A22.out).mono ?_); (case side1 => exact cS (Kd.R_reads' HO623.out).2.2); (case side2 => rw [show t635.length = t621.length from (Kd.R_reads' HO623.out).1.symm]; exact (Kd.R_reads' HO623.out).2.1); rintro e w' ⟨rfl, ⟨nd, rfl⟩⟩; refine ⟨_, rfl, ?_⟩; have hcz58_0 := cz BK606 0; have hcz58_1 := cz BK606 1; have hfz58_0 := fz BK606 0; have hfz58_1 := fz BK606 1) | ((with_reducible refine gate_callee (f := 28) rfl ?_); refine goC (N := some 75) Tryd.func28 #[.agg #[.int .i64 a0_0, .slice A0_1 l0_1.length c0_1]] rfl ?_; (with_reducible refine (laws_toPuzzle.calls k a0_0 _ _ l0_1 t637 t638 _ ?side1 ?side2 A25.out).mono ?_); (case side1 => repeat (first | exact (Kd.C_below HR0_1.out hB) | (with_reducible refine Kd.C_alloc ?_ _) | (with_reducible refine Kd.C_drewN ?_ _) | (with_reducible refine Kd.C_drew ?_))); (case side2 => exact HC0_1.out); rintro e w59 ⟨v639, rfl, ho0, hb⟩; refine ⟨_, rfl, ?_⟩; have HO640 := Aside0.mk (Kd.R_lower (Kd.R_new' (Kd.R_new' (Kd.R_new' ho0 (Kd.R_lt (rU HO611))) (Kd.R_lt (rU HO619))) (Kd.R_lt (rU HO629))) (below_size hB)); replace HO611 := Aside0.mk (Kd.R_elder' (rU HO611) (Kd.R_base ho0) hb); replace HO614 := Aside0.mk (Kd.R_below (rU HO614) hb); replace HO619 := Aside0.mk (Kd.R_elder' (rU HO619) (Kd.R_base ho0) hb); replace HO623 := Aside0.mk (Kd.R_below (rU HO623) hb); replace HO629 := Aside0.mk (Kd.R_elder' (rU HO629) (Kd.R_base ho0) hb); replace BK606 := bS BK606 hb; replace BK620 := bS BK620 hb; replace HB := hS HB hb; (try clear hb); (try clear hb2); (try clear hk); (try clear hi); (try clear ho0); obtain ⟨Ao60, co60, eo60⟩ := Kd.R_slice HO640.out; subst eo60) | ((with_reducible refine gate_callee (f := 55) rfl ?_); refine goC (N := some 76) Tryd.func55 #[.agg #[.int .i64 t637, .slice Ao60 t638.length co60]] rfl ?_; (with_reducible refine (impl_SureStrangers.calls k t637 _ _ t638 t641 t644 _ ?side1 ?side2 A26.out).mono ?_); (case side1 => exact cS (Kd.R_reads' HO640.out).2.2); (case side2 => exact (Kd.R_reads' HO640.out).2.1); rintro e w61 ⟨v642, rfl, ho0, hb⟩; refine ⟨_, rfl, ?_⟩; have HO643 := Aside0.mk (Kd.R_lower (Kd.R_new' (Kd.R_new' ho0 (Kd.R_lt (rU HO614))) (Kd.R_lt (rU HO623))) (below_size hB)); replace HO611 := Aside0.mk (Kd.R_below (rU HO611) hb); replace HO614 := Aside0.mk (Kd.R_elder' (rU HO614) (Kd.R_base ho0) hb); replace HO619 := Aside0.mk (Kd.R_below (rU HO619) hb); replace HO623 := Aside0.mk (Kd.R_elder' (rU HO623) (Kd.R_base ho0) hb); replace HO629 := Aside0.mk (Kd.R_below (rU HO629) hb); replace HO640 := Aside0.mk (Kd.R_below (rU HO640) hb); replace BK606 := bS BK606 hb; replace BK620 := bS BK620 hb; replace HB := hS HB hb; (try clear hb); (try clear hb2); (try clear hk); (try clear hi); (try clear ho0); obtain ⟨Ao62, co62, eo62⟩ := Kd.R_slice HO643.out; subst eo62) | ((with_reducible refine gate_callee (f := 51) rfl ?_); refine goC (N := some 81) Tryd.func51 #[.slice Ao62 t641.length co62, .slice Ao48 t612.length co48] rfl ?_; (with_reducible refine (laws_eqPairS.calls k _ _ t641 _ _ t612 true _ ?side1 ?side2 ?side3 ?side4 A27.out).mono ?_); (case side1 => exact cS (Kd.R_reads' HO643.out).2.2); (case side2 => exact (Kd.R_reads' HO643.out).2.1); (case side3 => exact cS (Kd.R_reads' HO614.out).2.2); (case side4 => exact (Kd.R_reads' HO614.out).2.1); rintro e w63 ⟨rfl, hb⟩; refine ⟨_, rfl, ?_⟩; replace HO611 := Aside0.mk (Kd.R_below (rU HO611) hb); replace HO614 := Aside0.mk (Kd.R_below (rU HO614) hb); replace HO619 := Aside0.mk (Kd.R_below (rU HO619) hb); replace HO623 := Aside0.mk (Kd.R_below (rU HO623) hb); replace HO629 := Aside0.mk (Kd.R_below (rU HO629) hb); replace HO640 := Aside0.mk (Kd.R_below (rU HO640) hb); replace HO643 := Aside0.mk (Kd.R_below (rU HO643) hb); replace BK606 := bS BK606 hb; replace BK620 := bS BK620 hb; replace HB := hS HB hb; (try clear hb); (try clear hb2); (try clear hk); (try clear hi)) | ((with_reducible refine gate_callee (f := 53) rfl ?_); refine goesL_ (some 90) rfl rfl Tryd.func53 (by kernel_rfl) rfl #[.slice Ao47 t635.length co47, .int .i64 1] rfl (by (try simp only [List.map_toArray, List.map_cons, List.map_nil]); first | done | (rw [show t635.length = t621.length from (Kd.R_reads' HO623.out).1.symm] <;> rfl) | rfl | (simp only [List.length_drop, List.length_take]; rfl)) ?_; (with_reducible refine (laws_heldPairS.calls k _ _ t635 1 t646 _ ?side1 ?side2 A30.out).mono ?_); (case side1 => exact cS (Kd.R_reads' HO623.out).2.2); (case side2 => rw [show t635.length = t621.length from (Kd.R_reads' HO623.out).1.symm]; exact (Kd.R_reads' HO623.out).2.1); rintro e w' ⟨rfl, ⟨nd, rfl⟩⟩; refine ⟨_, rfl, ?_⟩))
             go_ret
             exact ⟨by first | rfl | (simp [errW_none, errW_some] <;> rfl) | (simp [*, errW_none, errW_some] <;> rfl), hB⟩
            ·rw [if_neg c32] at H
             exact absurd H (by simp)
         ·replace c28 := Bool.eq_false_iff.mpr c28
          subst c28
          have H1 : (none) = some r := by rw [if_neg (show ¬ (false = true) by decide)] at H; exact H
          clear H
          have H := H1
          clear H1
          exact absurd H (by simp)
        ·rw [if_neg c24] at H
         exact absurd H (by simp)
      ·replace c20 := Bool.eq_false_iff.mpr c20
       subst c20
       have H1 : (none) = some r := by rw [if_neg (show ¬ (false = true) by decide)] at H; exact H
       clear H
       have H := H1
       clear H1
       exact absurd H (by simp)
    ·replace c16 := Bool.eq_false_iff.mpr c16
     subst c16
     have H1 : (none) = some r := by rw [if_neg (show ¬ (false = true) by decide)] at H; exact H
     clear H
     have H := H1
     clear H1
     exact absurd H (by simp)
  ·replace c12 := Bool.eq_false_iff.mpr c12
   subst c12
   have H1 : (none) = some r := by rw [if_neg (show ¬ (false = true) by decide)] at H; exact H
   clear H
   have H := H1
   clear H1
   exact absurd H (by simp)

end Go.Proofs.YtdnkipagpagfiaaDoor.PSol3
