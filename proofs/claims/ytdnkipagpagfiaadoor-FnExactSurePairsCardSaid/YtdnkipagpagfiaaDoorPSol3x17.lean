-- Of this session's own program wip/gen/gen.py (it drives the kit's print): contracts of the functions that the law reaches.
import Derived.Test.YtdnkipagpagfiaaDoorPSol3x0
import Derived.Test.YtdnkipagpagfiaaDoorPSol3x2
import Derived.Test.YtdnkipagpagfiaaDoorPSol3x3
import Derived.Test.YtdnkipagpagfiaaDoorPSol3x13
import Derived.Test.YtdnkipagpagfiaaDoorPSol3x14
import Derived.Test.YtdnkipagpagfiaaDoorPSol3x15
namespace Go.Proofs.YtdnkipagpagfiaaDoor.PSol3
open Go.RowKit Go.Proofs.YtdnkipagpagfiaaDoorW.PrintWords Go.Proofs.YtdnkipagpagfiaaDoorW.PrintLast Go.Proofs.YtdnkipagpagfiaaDoorW.PrintMore Go.Proofs.YtdnkipagpagfiaaDoor.Base
attribute [local go_sem] max2_int min2_int max_two min_two max_three min_three max_four min_four   -- for this text's walks alone
set_option linter.unusedVariables false
set_option linter.unusedSimpArgs false

/-! ### spec_SurePairs: function 49 -/
def spec_SurePairs.f (k : Nat) (a0_0 : Int) (l0_1 : List (S30)) : Option ((List (S110)) × Bool) := (spec_pzSureOf.f k a0_0 l0_1 true).bind fun bt542 => (some (bt542.1, bt542.2))
theorem spec_SurePairs.mono : ∀ a0 a1 k, LeO (spec_SurePairs.f k a0 a1) (spec_SurePairs.f (k + 1) a0 a1) := by
 intro a0 a1 k
 unfold spec_SurePairs.f
 repeat' first
   | (with_reducible exact spec_pzSureOf.mono _ _ _ _)
   | (with_reducible exact LeO.refl _)
   | (with_reducible exact LeO.none _)
   | (with_reducible refine LeO.ite ?_ ?_)
   | (with_reducible refine LeO.bind ?_ (fun _ => ?_))
   | exact spec_pzSureOf.mono _ _ _ _
   | exact LeO.none _
   | refine LeO.ite ?_ ?_
   | refine LeO.bind ?_ (fun _ => ?_)
set_option maxHeartbeats 8000000 in
set_option maxRecDepth 100000 in
theorem spec_SurePairs.calls (k : Nat) (a0_0 : Int) (A0_1 : Option Addr) (c0_1 : Nat) (l0_1 : List (S30)) (r1 : List (S110)) (r2 : Bool) (w : World) (hr0_1 : Kd.C k30 w A0_1 l0_1.length l0_1) (hc0_1 : l0_1.length ≤ c0_1) (h : spec_SurePairs.f k a0_0 l0_1 = some (r1, r2)) :
  Calls Tryd.prog 49 #[.agg #[.int .i64 a0_0, .slice A0_1 l0_1.length c0_1]] w fun e w' => ∃ v0_ : Value, e = .returned (.tuple #[v0_, .bool r2]) ∧ Kd.R k110 110 w' w.heap.size (fun _ => True) v0_ r1 ∧ Below w.heap.size w w' := by
 have hu40 := Tryd.underlying40
 have HR0_1 := Aside0.mk hr0_1
 have HC0_1 := Aside0.mk hc0_1
 clear hr0_1 hc0_1
 have HB := Aside0.mk (Below.refl w.heap.size w)
 have H : ((spec_pzSureOf.f k a0_0 l0_1 true).bind fun bt542 => (some (bt542.1, bt542.2))) = some (r1, r2) := h
 clear h
 replace H := Option.bind_eq_some_iff.mp H
 obtain ⟨⟨t542, t545⟩, A20, H⟩ := H
 replace H : (some (t542, t545)) = some (r1, r2) := H
 have A2 := Aside0.mk A20
 clear A20
 simp only [Option.some.injEq, Prod.mk.injEq] at H
 obtain ⟨rfl, rfl⟩ := H
 go_enter Tryd.func49, Tryd.ntmps49
 go_wp2_with (first | ((with_reducible refine gate_dst (N := 1) rfl ?_); refine bxE 1 #[.int .i64 a0_0, .slice A0_1 l0_1.length c0_1] 40 rfl ?_; intro gb541 hg w3 hbox hb; have BK541 := Aside0.mk (hbox); have GW541 := gS HB hg; have GE541 := gS HB hg; replace HB := hS HB hb; clear hb hbox hg; have hcz4_0 := cz BK541 0; have hcz4_1 := cz BK541 1; have hfz4_0 := fz BK541 0; have hfz4_1 := fz BK541 1) | ((with_reducible refine gate_callee (f := 93) rfl ?_); refine goC (N := some 5) Tryd.func93 #[.agg #[.int .i64 a0_0, .slice A0_1 l0_1.length c0_1], .bool true] rfl ?_; (with_reducible refine (spec_pzSureOf.calls k a0_0 _ _ l0_1 true t542 t545 _ ?side1 ?side2 A2.out).mono ?_); (case side1 => exact cS (Kd.C_below HR0_1.out HB.out)); (case side2 => exact HC0_1.out); rintro e w5 ⟨v543, rfl, ho0, hb⟩; refine ⟨_, rfl, ?_⟩; have HO544 := Aside0.mk (Kd.R_lower ho0 (below_size hB)); replace BK541 := bS BK541 hb; replace HB := hS HB hb; (try clear hb); (try clear hb2); (try clear hk); (try clear hi); (try clear ho0)))
 go_ret2
 exact ⟨_, by first | rfl | (simp [errW_none, errW_some] <;> rfl) | (simp [*, errW_none, errW_some] <;> rfl), rU HO544, hB⟩

/-! ### impl_SurePairs: function 50 -/
def impl_SurePairs.f (k : Nat) (a0_0 : Int) (l0_1 : List (S30)) : Option ((List (S110)) × Bool) := (impl_sure.f k a0_0 l0_1 true).bind fun bt551 => (some (bt551.1, bt551.2))
theorem impl_SurePairs.mono : ∀ a0 a1 k, LeO (impl_SurePairs.f k a0 a1) (impl_SurePairs.f (k + 1) a0 a1) := by
 intro a0 a1 k
 unfold impl_SurePairs.f
 repeat' first
   | (with_reducible exact impl_sure.mono _ _ _ _)
   | (with_reducible exact LeO.refl _)
   | (with_reducible exact LeO.none _)
   | (with_reducible refine LeO.ite ?_ ?_)
   | (with_reducible refine LeO.bind ?_ (fun _ => ?_))
   | exact impl_sure.mono _ _ _ _
   | exact LeO.none _
   | refine LeO.ite ?_ ?_
   | refine LeO.bind ?_ (fun _ => ?_)
set_option maxHeartbeats 8000000 in
set_option maxRecDepth 100000 in
theorem impl_SurePairs.calls (k : Nat) (a0_0 : Int) (A0_1 : Option Addr) (c0_1 : Nat) (l0_1 : List (S30)) (r1 : List (S110)) (r2 : Bool) (w : World) (hr0_1 : Kd.C k30 w A0_1 l0_1.length l0_1) (hc0_1 : l0_1.length ≤ c0_1) (h : impl_SurePairs.f k a0_0 l0_1 = some (r1, r2)) (hG : GTab 0 w := by first | exact Aside0.out ‹Aside0 (GTab _ _)› | exact GTab.up (Aside0.out ‹Aside0 (GTab _ _)›) (by repeat (first | (with_reducible first | exact Below.refl _ _ | exact Aside0.out ‹Aside0 (Below _ _ _)› | apply below_alloc | apply pw_below_drewN | apply below_drew1 | refine below_set ?_ (Aside0.out (by assumption))) | exact Aside0.out ‹Aside0 (Below _ _ _)›))) :
  Calls Tryd.prog 50 #[.agg #[.int .i64 a0_0, .slice A0_1 l0_1.length c0_1]] w fun e w' => ∃ v0_ : Value, e = .returned (.tuple #[v0_, .bool r2]) ∧ Kd.R k110 110 w' w.heap.size (fun _ => True) v0_ r1 ∧ Below w.heap.size w w' := by
 have hu40 := Tryd.underlying40
 have HG := Aside0.mk (p := GTab _ _) hG
 clear hG
 have HR0_1 := Aside0.mk hr0_1
 have HC0_1 := Aside0.mk hc0_1
 clear hr0_1 hc0_1
 have HB := Aside0.mk (Below.refl w.heap.size w)
 have H : ((impl_sure.f k a0_0 l0_1 true).bind fun bt551 => (some (bt551.1, bt551.2))) = some (r1, r2) := h
 clear h
 replace H := Option.bind_eq_some_iff.mp H
 obtain ⟨⟨t551, t554⟩, A20, H⟩ := H
 replace H : (some (t551, t554)) = some (r1, r2) := H
 have A2 := Aside0.mk A20
 clear A20
 simp only [Option.some.injEq, Prod.mk.injEq] at H
 obtain ⟨rfl, rfl⟩ := H
 go_enter Tryd.func50, Tryd.ntmps50
 go_wp2_with (first | ((with_reducible refine gate_dst (N := 1) rfl ?_); refine bxE 1 #[.int .i64 a0_0, .slice A0_1 l0_1.length c0_1] 40 rfl ?_; intro gb550 hg w3 hbox hb; have BK550 := Aside0.mk (hbox); have GW550 := gS HB hg; have GE550 := gS HB hg; replace HB := hS HB hb; clear hb hbox hg; have hcz4_0 := cz BK550 0; have hcz4_1 := cz BK550 1; have hfz4_0 := fz BK550 0; have hfz4_1 := fz BK550 1) | ((with_reducible refine gate_callee (f := 94) rfl ?_); refine goC (N := some 5) Tryd.func94 #[.agg #[.int .i64 a0_0, .slice A0_1 l0_1.length c0_1], .bool true] rfl ?_; (with_reducible refine (impl_sure.calls k a0_0 _ _ l0_1 true t551 t554 _ ?side1 ?side2 A2.out).mono ?_); (case side1 => exact cS (Kd.C_below HR0_1.out HB.out)); (case side2 => exact HC0_1.out); rintro e w5 ⟨v552, rfl, ho0, hb⟩; refine ⟨_, rfl, ?_⟩; have HO553 := Aside0.mk (Kd.R_lower ho0 (below_size hB)); replace BK550 := bS BK550 hb; replace HB := hS HB hb; (try clear hb); (try clear hb2); (try clear hk); (try clear hi); (try clear ho0)))
 go_ret2
 exact ⟨_, by first | rfl | (simp [errW_none, errW_some] <;> rfl) | (simp [*, errW_none, errW_some] <;> rfl), rU HO553, hB⟩

/-! ### laws_FnExactSurePairs: function 12 -/
def laws_FnExactSurePairs.f (k : Nat) (a0_0 : Int) (l0_1 : List (S23)) : Option (Bool) := (laws_szPuzzle.f a0_0 l0_1 1048576).bind fun t556 => (if t556 < 0 then (some true) else ((laws_toPuzzle.f k a0_0 l0_1).bind fun bt557 => ((spec_SurePairs.f k bt557.1 bt557.2).bind fun bt561 => ((laws_toPuzzle.f k a0_0 l0_1).bind fun bt565 => ((impl_SurePairs.f k bt565.1 bt565.2).bind fun bt570 => ((laws_eqPairS.f k bt570.1 bt561.1).bind fun t574 => (if t574 = true then (if (bt570.2 != bt561.2) = true then (none) else ((laws_toPuzzle.f k a0_0 l0_1).bind fun bt575 => ((laws_eqPuzzle.f k bt565.1 bt565.2 bt575.1 bt575.2).bind fun t579 => (if t579 = true then ((laws_markPuzzle.f k bt565.1 bt565.2 1).bind fun bt580 => (if bt580.1 < 0 then (none) else ((laws_eqPairS.f k bt570.1 bt561.1).bind fun t582 => (if t582 = true then ((laws_markPairS.f k bt570.1 1).bind fun bt583 => ((laws_heldPairS.f k bt583.2 1).bind fun t585 => (if t585 < 0 then (none) else (if t585 = bt583.1 then ((laws_toPuzzle.f k a0_0 l0_1).bind fun bt586 => ((impl_SurePairs.f k bt586.1 bt586.2).bind fun bt590 => ((laws_eqPairS.f k bt590.1 bt561.1).bind fun t594 => (if t594 = true then (if (bt590.2 != bt561.2) = true then (none) else ((laws_heldPairS.f k bt583.2 1).bind fun t595 => (if t595 < 0 then (none) else (if t595 = bt583.1 then (some true) else (none))))) else (none))))) else (none))))) else (none))))) else (none))))) else (none))))))))
theorem laws_FnExactSurePairs.mono : ∀ a0 a1 k, LeO (laws_FnExactSurePairs.f k a0 a1) (laws_FnExactSurePairs.f (k + 1) a0 a1) := by
 intro a0 a1 k
 unfold laws_FnExactSurePairs.f
 repeat' first
   | (with_reducible exact impl_SurePairs.mono _ _ _)
   | (with_reducible exact laws_eqPairS.mono _ _ _)
   | (with_reducible exact laws_eqPuzzle.mono _ _ _ _ _)
   | (with_reducible exact laws_heldPairS.mono _ _ _)
   | (with_reducible exact laws_markPairS.mono _ _ _)
   | (with_reducible exact laws_markPuzzle.mono _ _ _ _)
   | (with_reducible exact laws_toPuzzle.mono _ _ _)
   | (with_reducible exact spec_SurePairs.mono _ _ _)
   | (with_reducible exact LeO.refl _)
   | (with_reducible exact LeO.none _)
   | (with_reducible refine LeO.ite ?_ ?_)
   | (with_reducible refine LeO.bind ?_ (fun _ => ?_))
   | exact impl_SurePairs.mono _ _ _
   | exact laws_eqPairS.mono _ _ _
   | exact laws_eqPuzzle.mono _ _ _ _ _
   | exact laws_heldPairS.mono _ _ _
   | exact laws_markPairS.mono _ _ _
   | exact laws_markPuzzle.mono _ _ _ _
   | exact laws_toPuzzle.mono _ _ _
   | exact spec_SurePairs.mono _ _ _
   | exact LeO.none _
   | refine LeO.ite ?_ ?_
   | refine LeO.bind ?_ (fun _ => ?_)
set_option maxHeartbeats 8000000 in
set_option maxRecDepth 100000 in
theorem laws_FnExactSurePairs.calls (k : Nat) (a0_0 : Int) (A0_1 : Option Addr) (c0_1 : Nat) (l0_1 : List (S23)) (r : Bool) (w : World) (hr0_1 : Kd.C k23 w A0_1 l0_1.length l0_1) (hc0_1 : l0_1.length ≤ c0_1) (h : laws_FnExactSurePairs.f k a0_0 l0_1 = some r) (hG : GTab 0 w := by first | exact Aside0.out ‹Aside0 (GTab _ _)› | exact GTab.up (Aside0.out ‹Aside0 (GTab _ _)›) (by repeat (first | (with_reducible first | exact Below.refl _ _ | exact Aside0.out ‹Aside0 (Below _ _ _)› | apply below_alloc | apply pw_below_drewN | apply below_drew1 | refine below_set ?_ (Aside0.out (by assumption))) | exact Aside0.out ‹Aside0 (Below _ _ _)›))) :
  Calls Tryd.prog 12 #[.agg #[.int .i64 a0_0, .slice A0_1 l0_1.length c0_1]] w fun e w' => e = .returned (.bool r) ∧ Below w.heap.size w w' := by
 have hu49 := Tryd.underlying49
 have hu40 := Tryd.underlying40
 have HG := Aside0.mk (p := GTab _ _) hG
 clear hG
 have HR0_1 := Aside0.mk hr0_1
 have HC0_1 := Aside0.mk hc0_1
 clear hr0_1 hc0_1
 have HB := Aside0.mk (Below.refl w.heap.size w)
 have H : ((laws_szPuzzle.f a0_0 l0_1 1048576).bind fun t556 => (if t556 < 0 then (some true) else ((laws_toPuzzle.f k a0_0 l0_1).bind fun bt557 => ((spec_SurePairs.f k bt557.1 bt557.2).bind fun bt561 => ((laws_toPuzzle.f k a0_0 l0_1).bind fun bt565 => ((impl_SurePairs.f k bt565.1 bt565.2).bind fun bt570 => ((laws_eqPairS.f k bt570.1 bt561.1).bind fun t574 => (if t574 = true then (if (bt570.2 != bt561.2) = true then (none) else ((laws_toPuzzle.f k a0_0 l0_1).bind fun bt575 => ((laws_eqPuzzle.f k bt565.1 bt565.2 bt575.1 bt575.2).bind fun t579 => (if t579 = true then ((laws_markPuzzle.f k bt565.1 bt565.2 1).bind fun bt580 => (if bt580.1 < 0 then (none) else ((laws_eqPairS.f k bt570.1 bt561.1).bind fun t582 => (if t582 = true then ((laws_markPairS.f k bt570.1 1).bind fun bt583 => ((laws_heldPairS.f k bt583.2 1).bind fun t585 => (if t585 < 0 then (none) else (if t585 = bt583.1 then ((laws_toPuzzle.f k a0_0 l0_1).bind fun bt586 => ((impl_SurePairs.f k bt586.1 bt586.2).bind fun bt590 => ((laws_eqPairS.f k bt590.1 bt561.1).bind fun t594 => (if t594 = true then (if (bt590.2 != bt561.2) = true then (none) else ((laws_heldPairS.f k bt583.2 1).bind fun t595 => (if t595 < 0 then (none) else (if t595 = bt583.1 then (some true) else (none))))) else (none))))) else (none))))) else (none))))) else (none))))) else (none))))))))) = some r := h
 clear h
 replace H := Option.bind_eq_some_iff.mp H
 obtain ⟨t556, A20, H⟩ := H
 try dsimp only at H
 have A2 := Aside0.mk A20
 clear A20
 by_cases c3 : t556 < 0
 ·rw [if_pos c3] at H
  have c3b0 : decide (t556 < 0) = true := decide_eq_true c3
  clear c3
  obtain rfl := Option.some.inj H
  go_enter Tryd.func12, Tryd.ntmps12
  go_wp2_with (first | ((with_reducible refine gate_dst (N := 1) rfl ?_); refine bxE 1 #[.int .i64 a0_0, .slice A0_1 l0_1.length c0_1] 49 rfl ?_; intro gb555 hg w4 hbox hb; have BK555 := Aside0.mk (hbox); have GW555 := gS HB hg; have GE555 := gS HB hg; replace HB := hS HB hb; clear hb hbox hg; have hcz5_0 := cz BK555 0; have hcz5_1 := cz BK555 1; have hfz5_0 := fz BK555 0; have hfz5_1 := fz BK555 1) | ((with_reducible refine gate_callee (f := 26) rfl ?_); refine goC (N := some 16) Tryd.func26 #[.agg #[.int .i64 a0_0, .slice A0_1 l0_1.length c0_1], .int .i64 1048576] rfl ?_; (with_reducible refine (laws_szPuzzle.calls a0_0 _ _ l0_1 1048576 t556 _ ?side1 ?side2 A2.out).mono ?_); (case side1 => exact cS (Kd.C_below HR0_1.out HB.out)); (case side2 => exact HC0_1.out); rintro e w6 ⟨rfl, hb⟩; refine ⟨_, rfl, ?_⟩; replace BK555 := bS BK555 hb; replace HB := hS HB hb; (try clear hb); (try clear hb2); (try clear hk); (try clear hi)))
  go_ret
  exact ⟨by first | rfl | (simp [errW_none, errW_some] <;> rfl) | (simp [*, errW_none, errW_some] <;> rfl), hB⟩
 ·rw [if_neg c3] at H
  have c3b0 : decide (t556 < 0) = false := decide_eq_false c3
  clear c3
  replace H := Option.bind_eq_some_iff.mp H
  obtain ⟨⟨t557, t558⟩, A70, H⟩ := H
  try dsimp only at H
  have A7 := Aside0.mk A70
  clear A70
  replace H := Option.bind_eq_some_iff.mp H
  obtain ⟨⟨t561, t564⟩, A80, H⟩ := H
  try dsimp only at H
  have A8 := Aside0.mk A80
  clear A80
  replace H := Option.bind_eq_some_iff.mp H
  obtain ⟨⟨t565, t566⟩, A90, H⟩ := H
  try dsimp only at H
  have A9 := Aside0.mk A90
  clear A90
  replace H := Option.bind_eq_some_iff.mp H
  obtain ⟨⟨t570, t573⟩, A100, H⟩ := H
  try dsimp only at H
  have A10 := Aside0.mk A100
  clear A100
  replace H := Option.bind_eq_some_iff.mp H
  obtain ⟨t574, A110, H⟩ := H
  try dsimp only at H
  have A11 := Aside0.mk A110
  clear A110
  by_cases c12 : t574 = true
  ·subst c12
   rw [if_pos rfl] at H
   by_cases c13 : (t573 != t564) = true
   ·rw [if_pos c13] at H
    exact absurd H (by simp)
   ·rw [if_neg c13] at H
    have c13b0 : (t573 != t564) = false := by simpa using c13
    (try (have c13b1 : decide (t573 = t564) = true := by simpa using c13))
    (try (have c13b2 : (t573 == t564) = true := by simpa using c13))
    clear c13
    replace H := Option.bind_eq_some_iff.mp H
    obtain ⟨⟨t575, t576⟩, A140, H⟩ := H
    try dsimp only at H
    have A14 := Aside0.mk A140
    clear A140
    replace H := Option.bind_eq_some_iff.mp H
    obtain ⟨t579, A150, H⟩ := H
    try dsimp only at H
    have A15 := Aside0.mk A150
    clear A150
    by_cases c16 : t579 = true
    ·subst c16
     rw [if_pos rfl] at H
     replace H := Option.bind_eq_some_iff.mp H
     obtain ⟨⟨t580, t581⟩, A170, H⟩ := H
     try dsimp only at H
     have A17 := Aside0.mk A170
     clear A170
     by_cases c18 : t580 < 0
     ·rw [if_pos c18] at H
      exact absurd H (by simp)
     ·rw [if_neg c18] at H
      have c18b0 : decide (t580 < 0) = false := decide_eq_false c18
      clear c18
      replace H := Option.bind_eq_some_iff.mp H
      obtain ⟨t582, A190, H⟩ := H
      try dsimp only at H
      have A19 := Aside0.mk A190
      clear A190
      by_cases c20 : t582 = true
      ·subst c20
       rw [if_pos rfl] at H
       replace H := Option.bind_eq_some_iff.mp H
       obtain ⟨⟨t583, t584⟩, A210, H⟩ := H
       try dsimp only at H
       have A21 := Aside0.mk A210
       clear A210
       replace H := Option.bind_eq_some_iff.mp H
       obtain ⟨t585, A220, H⟩ := H
       try dsimp only at H
       have A22 := Aside0.mk A220
       clear A220
       by_cases c23 : t585 < 0
       ·rw [if_pos c23] at H
        exact absurd H (by simp)
       ·rw [if_neg c23] at H
        have c23b0 : decide (t585 < 0) = false := decide_eq_false c23
        clear c23
        by_cases c24 : t585 = t583
        ·rw [if_pos c24] at H
         have c24b0 : (t585 == t583) = true := beq_iff_eq.mpr c24
         have c24b1 : (t585 != t583) = false := bne_eq_false_iff_eq.mpr c24
         clear c24
         replace H := Option.bind_eq_some_iff.mp H
         obtain ⟨⟨t586, t587⟩, A250, H⟩ := H
         try dsimp only at H
         have A25 := Aside0.mk A250
         clear A250
         replace H := Option.bind_eq_some_iff.mp H
         obtain ⟨⟨t590, t593⟩, A260, H⟩ := H
         try dsimp only at H
         have A26 := Aside0.mk A260
         clear A260
         replace H := Option.bind_eq_some_iff.mp H
         obtain ⟨t594, A270, H⟩ := H
         try dsimp only at H
         have A27 := Aside0.mk A270
         clear A270
         by_cases c28 : t594 = true
         ·subst c28
          rw [if_pos rfl] at H
          by_cases c29 : (t593 != t564) = true
          ·rw [if_pos c29] at H
           exact absurd H (by simp)
          ·rw [if_neg c29] at H
           have c29b0 : (t593 != t564) = false := by simpa using c29
           (try (have c29b1 : decide (t593 = t564) = true := by simpa using c29))
           (try (have c29b2 : (t593 == t564) = true := by simpa using c29))
           clear c29
           replace H := Option.bind_eq_some_iff.mp H
           obtain ⟨t595, A300, H⟩ := H
           try dsimp only at H
           have A30 := Aside0.mk A300
           clear A300
           by_cases c31 : t595 < 0
           ·rw [if_pos c31] at H
            exact absurd H (by simp)
           ·rw [if_neg c31] at H
            have c31b0 : decide (t595 < 0) = false := decide_eq_false c31
            clear c31
            by_cases c32 : t595 = t583
            ·rw [if_pos c32] at H
             have c32b0 : (t595 == t583) = true := beq_iff_eq.mpr c32
             have c32b1 : (t595 != t583) = false := bne_eq_false_iff_eq.mpr c32
             clear c32
             obtain rfl := Option.some.inj H
             go_enter Tryd.func12, Tryd.ntmps12
             try go_wp2_with (first | ((with_reducible refine gate_dst (N := 1) rfl ?_); refine bxE 1 #[.int .i64 a0_0, .slice A0_1 l0_1.length c0_1] 49 rfl ?_; intro gb555 hg w33 hbox hb; have BK555 := Aside0.mk (hbox); have GW555 := gS HB hg; have GE555 := gS HB hg; replace HB := hS HB hb; clear hb hbox hg; have hcz34_0 := cz BK555 0; have hcz34_1 := cz BK555 1; have hfz34_0 := fz BK555 0; have hfz34_1 := fz BK555 1) | ((with_reducible refine gate_callee (f := 26) rfl ?_); refine goC (N := some 16) Tryd.func26 #[.agg #[.int .i64 a0_0, .slice A0_1 l0_1.length c0_1], .int .i64 1048576] rfl ?_; (with_reducible refine (laws_szPuzzle.calls a0_0 _ _ l0_1 1048576 t556 _ ?side1 ?side2 A2.out).mono ?_); (case side1 => exact cS (Kd.C_below HR0_1.out HB.out)); (case side2 => exact HC0_1.out); rintro e w35 ⟨rfl, hb⟩; refine ⟨_, rfl, ?_⟩; replace BK555 := bS BK555 hb; replace HB := hS HB hb; (try clear hb); (try clear hb2); (try clear hk); (try clear hi); have hcz36_0 := cz BK555 0; have hcz36_1 := cz BK555 1; have hfz36_0 := fz BK555 0; have hfz36_1 := fz BK555 1) | ((with_reducible refine gate_callee (f := 28) rfl ?_); refine goC (N := some 21) Tryd.func28 #[.agg #[.int .i64 a0_0, .slice A0_1 l0_1.length c0_1]] rfl ?_; (with_reducible refine (laws_toPuzzle.calls k a0_0 _ _ l0_1 t557 t558 _ ?side1 ?side2 A7.out).mono ?_); (case side1 => exact cS (Kd.C_below HR0_1.out HB.out)); (case side2 => exact HC0_1.out); rintro e w37 ⟨v559, rfl, ho0, hb⟩; refine ⟨_, rfl, ?_⟩; have HO560 := Aside0.mk (Kd.R_lower ho0 (below_size hB)); replace BK555 := bS BK555 hb; replace HB := hS HB hb; (try clear hb); (try clear hb2); (try clear hk); (try clear hi); (try clear ho0); obtain ⟨Ao38, co38, eo38⟩ := Kd.R_slice HO560.out; subst eo38) | ((with_reducible refine gate_callee (f := 49) rfl ?_); refine goC (N := some 22) Tryd.func49 #[.agg #[.int .i64 t557, .slice Ao38 t558.length co38]] rfl ?_; (with_reducible refine (spec_SurePairs.calls k t557 _ _ t558 t561 t564 _ ?side1 ?side2 A8.out).mono ?_); (case side1 => exact cS (Kd.R_reads' HO560.out).2.2); (case side2 => exact (Kd.R_reads' HO560.out).2.1); rintro e w39 ⟨v562, rfl, ho0, hb⟩; refine ⟨_, rfl, ?_⟩; have HO563 := Aside0.mk (Kd.R_lower ho0 (below_size hB)); replace HO560 := Aside0.mk (Kd.R_below (rU HO560) hb); replace BK555 := bS BK555 hb; replace HB := hS HB hb; (try clear hb); (try clear hb2); (try clear hk); (try clear hi); (try clear ho0); have hcz40_0 := cz BK555 0; have hcz40_1 := cz BK555 1; have hfz40_0 := fz BK555 0; have hfz40_1 := fz BK555 1) | ((with_reducible refine gate_callee (f := 28) rfl ?_); refine goC (N := some 26) Tryd.func28 #[.agg #[.int .i64 a0_0, .slice A0_1 l0_1.length c0_1]] rfl ?_; (with_reducible refine (laws_toPuzzle.calls k a0_0 _ _ l0_1 t565 t566 _ ?side1 ?side2 A9.out).mono ?_); (case side1 => exact cS (Kd.C_below HR0_1.out HB.out)); (case side2 => exact HC0_1.out); rintro e w41 ⟨v567, rfl, ho0, hb⟩; refine ⟨_, rfl, ?_⟩; have HO568 := Aside0.mk (Kd.R_lower (Kd.R_new' ho0 (Kd.R_lt (rU HO560))) (below_size hB)); replace HO560 := Aside0.mk (Kd.R_elder' (rU HO560) (Kd.R_base ho0) hb); replace HO563 := Aside0.mk (Kd.R_below (rU HO563) hb); replace BK555 := bS BK555 hb; replace HB := hS HB hb; (try clear hb); (try clear hb2); (try clear hk); (try clear hi); (try clear ho0)) | ((with_reducible refine gate_dst (N := 6) rfl ?_); refine bxE 6 #[.int .i64 0, .slice none 0 0] 40 rfl ?_; intro gb569 hg w42 hbox hb; have BK569 := Aside0.mk (hbox); have GW569 := gS HB hg; have GE569 := gS HB hg; have NB555_569 := nL BK555 hg; have NB569_555 := nG BK555 hg; replace HO560 := Aside0.mk (Kd.R_below (rU HO560) hb); replace HO563 := Aside0.mk (Kd.R_below (rU HO563) hb); replace HO568 := Aside0.mk (Kd.R_below (rU HO568) hb); replace BK555 := bS BK555 hb; replace HB := hS HB hb; clear hb hbox hg; have hnb43 := NB569_555.out; have hnc43 := NB555_569.out; have hcz44_0 := cz BK569 0; have hcz44_1 := cz BK569 1; have hfz44_0 := fz BK569 0; have hfz44_1 := fz BK569 1; obtain ⟨Ao45, co45, eo45⟩ := Kd.R_slice HO568.out; subst eo45) | ((with_reducible refine gate_callee (f := 50) rfl ?_); refine goC (N := some 29) Tryd.func50 #[.agg #[.int .i64 t565, .slice Ao45 t566.length co45]] rfl ?_; (with_reducible refine (impl_SurePairs.calls k t565 _ _ t566 t570 t573 _ ?side1 ?side2 A10.out).mono ?_); (case side1 => refine (Kd.R_reads' (e := 30) (base := w.heap.size) (ok := fun k_ => (True ∧ some k_ ≠ (.slice Ao38 t558.length co38 : Value).ownBlock)) (n := t566.length) (c := co45) ?_).2.2; exact (by (with_reducible repeat (first | apply Kd.R_alloc | apply Kd.R_drewN | apply Kd.R_drew)); exact (Kd.R_mono (Kd.R_far (p := ⟨gb569, 1, none⟩) (Kd.R_far (p := ⟨gb569, 0, none⟩) (Kd.R_types HO568.out BK569.out (by decide)) (fun _ hk => hk.2) (.int .i64 t565)) (fun _ hk => hk.2) (.slice Ao45 t566.length co45)) (fun _ h_ => h_.1)))); (case side2 => exact (Kd.R_reads' HO568.out).2.1); rintro e w46 ⟨v571, rfl, ho0, hb⟩; refine ⟨_, rfl, ?_⟩; have HO572 := Aside0.mk (Kd.R_lower (Kd.R_new' ho0 (Kd.R_lt (by (with_reducible repeat (first | apply Kd.R_alloc | apply Kd.R_drewN | apply Kd.R_drew)); exact (Kd.R_mono (Kd.R_far (p := ⟨gb569, 1, none⟩) (Kd.R_far (p := ⟨gb569, 0, none⟩) (Kd.R_types HO563.out BK569.out (by decide)) (fun _ hk => hk.2) (.int .i64 t565)) (fun _ hk => hk.2) (.slice Ao45 t566.length co45)) (fun _ h_ => h_.1))))) (below_size hB)); replace HO560 := Aside0.mk (Kd.R_below (by (with_reducible repeat (first | apply Kd.R_alloc | apply Kd.R_drewN | apply Kd.R_drew)); exact (Kd.R_mono (Kd.R_far (p := ⟨gb569, 1, none⟩) (Kd.R_far (p := ⟨gb569, 0, none⟩) (Kd.R_types HO560.out BK569.out (by decide)) (fun _ hk => hk.2) (.int .i64 t565)) (fun _ hk => hk.2) (.slice Ao45 t566.length co45)) (fun _ h_ => h_.1))) hb); replace HO563 := Aside0.mk (Kd.R_elder' (by (with_reducible repeat (first | apply Kd.R_alloc | apply Kd.R_drewN | apply Kd.R_drew)); exact (Kd.R_mono (Kd.R_far (p := ⟨gb569, 1, none⟩) (Kd.R_far (p := ⟨gb569, 0, none⟩) (Kd.R_types HO563.out BK569.out (by decide)) (fun _ hk => hk.2) (.int .i64 t565)) (fun _ hk => hk.2) (.slice Ao45 t566.length co45)) (fun _ h_ => h_.1))) (Kd.R_base ho0) hb); replace HO568 := Aside0.mk (Kd.R_below (by (with_reducible repeat (first | apply Kd.R_alloc | apply Kd.R_drewN | apply Kd.R_drew)); exact (Kd.R_mono (Kd.R_far (p := ⟨gb569, 1, none⟩) (Kd.R_far (p := ⟨gb569, 0, none⟩) (Kd.R_types HO568.out BK569.out (by decide)) (fun _ hk => hk.2) (.int .i64 t565)) (fun _ hk => hk.2) (.slice Ao45 t566.length co45)) (fun _ h_ => h_.1))) hb); replace BK555 := Aside0.mk (blk_below (g := gb555) (o := .cells #[.int .i64 a0_0, .slice A0_1 l0_1.length c0_1] 49 (0, 0)) (by (with_reducible repeat (first | refine blk_drewN ?_ _ | refine blk_drew ?_ | refine blk_alloc ?_ _)); refine blk_far ?_ NB555_569.out _; (with_reducible repeat (first | refine blk_drewN ?_ _ | refine blk_drew ?_ | refine blk_alloc ?_ _)); refine blk_far ?_ NB555_569.out _; (with_reducible repeat (first | refine blk_drewN ?_ _ | refine blk_drew ?_ | refine blk_alloc ?_ _)); exact BK555.out) hb); replace BK569 := Aside0.mk (blk_below (g := gb569) (o := .cells #[.int .i64 t565, .slice Ao45 t566.length co45] 40 (0, 0)) (by (with_reducible repeat (first | refine blk_drewN ?_ _ | refine blk_drew ?_ | refine blk_alloc ?_ _)); refine blk_put (cs := #[.int .i64 t565, .slice none 0 0]) ?_ 1 _ rfl; (with_reducible repeat (first | refine blk_drewN ?_ _ | refine blk_drew ?_ | refine blk_alloc ?_ _)); refine blk_put (cs := #[.int .i64 0, .slice none 0 0]) ?_ 0 _ rfl; (with_reducible repeat (first | refine blk_drewN ?_ _ | refine blk_drew ?_ | refine blk_alloc ?_ _)); exact BK569.out) hb); replace HB := hS HB hb; (try clear hb); (try clear hb2); (try clear hk); (try clear hi); (try clear ho0); obtain ⟨Ao47, co47, eo47⟩ := Kd.R_slice HO572.out; subst eo47; obtain ⟨Ao48, co48, eo48⟩ := Kd.R_slice HO563.out; subst eo48) | ((with_reducible refine gate_callee (f := 51) rfl ?_); refine goC (N := some 34) Tryd.func51 #[.slice Ao47 t570.length co47, .slice Ao48 t561.length co48] rfl ?_; (with_reducible refine (laws_eqPairS.calls k _ _ t570 _ _ t561 true _ ?side1 ?side2 ?side3 ?side4 A11.out).mono ?_); (case side1 => exact cS (Kd.R_reads' HO572.out).2.2); (case side2 => exact (Kd.R_reads' HO572.out).2.1); (case side3 => exact cS (Kd.R_reads' HO563.out).2.2); (case side4 => exact (Kd.R_reads' HO563.out).2.1); rintro e w49 ⟨rfl, hb⟩; refine ⟨_, rfl, ?_⟩; replace HO560 := Aside0.mk (Kd.R_below (rU HO560) hb); replace HO563 := Aside0.mk (Kd.R_below (rU HO563) hb); replace HO568 := Aside0.mk (Kd.R_below (rU HO568) hb); replace HO572 := Aside0.mk (Kd.R_below (rU HO572) hb); replace BK555 := bS BK555 hb; replace BK569 := bS BK569 hb; replace HB := hS HB hb; (try clear hb); (try clear hb2); (try clear hk); (try clear hi)))
             replace HO560 := Aside0.mk (Kd.R_drew HO560.out)
             replace HO563 := Aside0.mk (Kd.R_drew HO563.out)
             replace HO568 := Aside0.mk (Kd.R_drew HO568.out)
             replace HO572 := Aside0.mk (Kd.R_drew HO572.out)
             replace BK555 := Aside0.mk (blk_drew BK555.out)
             replace BK569 := Aside0.mk (blk_drew BK569.out)
             replace HB := Aside0.mk (below_drew1 HB.out)
             refine start_ (n := 5) (S := fun w' => w'.cell? ⟨gb569, 0, none⟩ = some (.int .i64 t565) ∧ w'.cell? ⟨gb569, 1, none⟩ = some (.slice Ao45 t566.length co45) ∧ w'.cell? ⟨gb555, 0, none⟩ = some (.int .i64 a0_0) ∧ w'.cell? ⟨gb555, 1, none⟩ = some (.slice A0_1 l0_1.length c0_1)) (ds := []) (bz 5 0) (by kernel_rfl) rfl rfl ⟨(blk_cell BK569.out 0).trans rfl, (blk_cell BK569.out 1).trans rfl, (blk_cell BK555.out 0).trans rfl, (blk_cell BK555.out 1).trans rfl⟩ (fun hHeld => ?_)
             generalize w49.drew = w50 at HO560 HO563 HO568 HO572 BK555 BK569 HB hHeld ⊢
             refine run_ [(1, 0, 1, some 41), (1, 1, 3, some 42)] ?_
             repeat ((apply tag1; refine run_t (v := ?_) (a' := ?_) rfl rfl (by kernel_rfl) (fun _ _ _ h => h) (by rfl) ?_ hHeld ?_ ?_; rotate_left 2; (rintro w' ⟨s0, s1, s2, s3⟩; go_simp; with_reducible rfl); (first | (simp only [Act.put, List.setIfInBounds_toArray, List.set_cons_zero, List.set_cons_succ, i64_w, i32_w]; rfl) | rfl)))
             refine run_nil ?_
             refine one_ (i := 2) (N := some 43) (bz 5 7) rfl rfl (by kernel_rfl) (by decide) (fun K hK => ?_)
             refine goes_ Tryd.func28 (by kernel_rfl) rfl #[.agg #[.int .i64 a0_0, .slice A0_1 l0_1.length c0_1]] (by rfl) rfl rfl mapT ?_
             with_reducible refine (laws_toPuzzle.calls k a0_0 _ _ l0_1 t575 t576 _ ?side1 ?side2 A14.out).mono ?_
             (case side1 => exact cS (Kd.C_below HR0_1.out HB.out))
             (case side2 => exact HC0_1.out)
             rintro e w51 ⟨v577, rfl, ho0, hb⟩
             refine ⟨_, rfl, ?_⟩
             have HO578 := Aside0.mk (Kd.R_lower (Kd.R_new' (Kd.R_new' ho0 (Kd.R_lt (rU HO560))) (Kd.R_lt (rU HO568))) (below_size hB))
             replace HO560 := Aside0.mk (Kd.R_elder' (rU HO560) (Kd.R_base ho0) hb)
             replace HO563 := Aside0.mk (Kd.R_below (rU HO563) hb)
             replace HO568 := Aside0.mk (Kd.R_elder' (rU HO568) (Kd.R_base ho0) hb)
             replace HO572 := Aside0.mk (Kd.R_below (rU HO572) hb)
             replace BK555 := bS BK555 hb
             replace BK569 := bS BK569 hb
             replace HB := hS HB hb
             (try clear hb)
             (try clear hb2)
             (try clear hk)
             (try clear hi)
             (try clear ho0)
             obtain ⟨Ao52, co52, eo52⟩ := Kd.R_slice HO578.out
             (first | subst eo52 | (injection eo52 with f1_ f2_ f3_; have f4_ := f1_.symm; have f5_ := f3_.symm; clear f1_ f2_ f3_; subst f4_; subst f5_))
             refine hK.out _ _ ⟨(blk_cell BK569.out 0).trans rfl, (blk_cell BK569.out 1).trans rfl, (blk_cell BK555.out 0).trans rfl, (blk_cell BK555.out 1).trans rfl⟩ (fun hHeld => ?_)
             clear hK K
             refine norm_ (a' := ?_) ?_ ?_
             rotate_left
             ·show Act.put _ (some 43) _ = _
              simp only [Act.put, List.setIfInBounds_toArray, List.set_cons_zero, List.set_cons_succ, i64_w, i32_w]
              rfl
             refine one_ (i := 3) (N := some 44) (bz 5 15) rfl rfl (by kernel_rfl) (by decide) (fun K hK => ?_)
             refine goes_ Tryd.func22 (by kernel_rfl) rfl #[.agg #[.int .i64 t565, .slice Ao45 t566.length co45], .agg #[.int .i64 t575, .slice Ao52 t576.length co52]] (by rfl) rfl rfl mapT ?_
             with_reducible refine (laws_eqPuzzle.calls k t565 _ _ t566 t575 _ _ t576 true _ ?side1 ?side2 ?side3 ?side4 A15.out).mono ?_
             (case side1 => exact cS (Kd.R_reads' HO568.out).2.2)
             (case side2 => exact (Kd.R_reads' HO568.out).2.1)
             (case side3 => exact cS (Kd.R_reads' HO578.out).2.2)
             (case side4 => exact (Kd.R_reads' HO578.out).2.1)
             rintro e w53 ⟨rfl, hb⟩
             refine ⟨_, rfl, ?_⟩
             replace HO560 := Aside0.mk (Kd.R_below (rU HO560) hb)
             replace HO563 := Aside0.mk (Kd.R_below (rU HO563) hb)
             replace HO568 := Aside0.mk (Kd.R_below (rU HO568) hb)
             replace HO572 := Aside0.mk (Kd.R_below (rU HO572) hb)
             replace HO578 := Aside0.mk (Kd.R_below (rU HO578) hb)
             replace BK555 := bS BK555 hb
             replace BK569 := bS BK569 hb
             replace HB := hS HB hb
             (try clear hb)
             (try clear hb2)
             (try clear hk)
             (try clear hi)
             refine hK.out _ _ ⟨(blk_cell BK569.out 0).trans rfl, (blk_cell BK569.out 1).trans rfl, (blk_cell BK555.out 0).trans rfl, (blk_cell BK555.out 1).trans rfl⟩ (fun hHeld => ?_)
             clear hK K
             refine norm_ (a' := ?_) ?_ ?_
             rotate_left
             ·show Act.put _ (some 44) _ = _
              simp only [Act.put, List.setIfInBounds_toArray, List.set_cons_zero, List.set_cons_succ, i64_w, i32_w]
              rfl
             refine run_ [(0, 4, 31, some 45)] ?_
             repeat ((apply tag0; refine run_p (v := ?_) (a' := ?_) rfl rfl (by kernel_rfl) (fun _ _ _ h => h) (by rfl) ?_ ?_ ?_; rotate_left 2; (intro w'; go_simp; with_reducible rfl); (first | (simp only [Act.put, List.setIfInBounds_toArray, List.set_cons_zero, List.set_cons_succ, i64_w, i32_w]; rfl) | rfl)))
             refine run_nil ?_
             refine done_ (by kernel_rfl) ?_
             have hcz54_0 := cz BK569 0
             have hcz54_1 := cz BK569 1
             have hfz54_0 := fz BK569 0
             have hfz54_1 := fz BK569 1
             try go_wp2_with (first | ((with_reducible refine gate_callee (f := 24) rfl ?_); refine goC (N := some 48) Tryd.func24 #[.agg #[.int .i64 t565, .slice Ao45 t566.length co45], .int .i64 1] rfl ?_; (with_reducible refine (laws_markPuzzle.calls k t565 (fun k_ => some k_ = (.slice Ao45 t566.length co45 : Value).ownBlock) (.slice Ao45 t566.length co45) t566 1 t580 t581 w _ ?side1 ?side2 A17.out).mono ?_); (case side1 => repeat (first | (with_reducible first | exact HB.out | apply below_alloc | apply pw_below_drewN | apply below_drew1 | refine below_set ?_ GE555.out | refine below_set ?_ GE569.out) | exact HB.out)); (case side2 => exact Kd.R_tight rfl (rU HO568)); rintro e w55 ⟨rfl, hy0, hb, hkp⟩; refine ⟨_, rfl, ?_⟩; have n0_ := Aside0.mk (blk_kept bK hkp (fun hs_ => (fun e_ => (Kd.R_ne HO568.out BK555.out (by decide)) e_) hs_)); have n1_ := Aside0.mk (Kd.R_mono (ok' := fun k_ => some k_ ≠ (.slice Ao45 t566.length co45 : Value).ownBlock ∧ some k_ ≠ (.slice Ao52 t576.length co52 : Value).ownBlock) (Kd.R_keptB (rU HO560) hkp (fun k_ hk_ hs_ => pjn hk_ hs_)) (fun k_ hk_ => pj hk_)); have n2_ := Aside0.mk (Kd.R_mono (ok' := fun k_ => some k_ ≠ (.slice Ao47 t570.length co47 : Value).ownBlock) (Kd.R_keptB ((Kd.R_apart' (rU HO563) (Kd.R_typed (rU HO568)) (by decide))) hkp (fun k_ hk_ hs_ => pjn hk_ hs_)) (fun k_ hk_ => pj hk_)); have n3_ := Aside0.mk (Kd.R_reok rfl hy0 (fun k_ e_ => HO568.out.1 k_ e_)); have n4_ := Aside0.mk (blk_kept bK hkp (fun hs_ => (fun e_ => (Kd.R_ne HO568.out BK569.out (by decide)) e_) hs_)); have n5_ := Aside0.mk (Kd.R_mono (ok' := fun k_ => some k_ ≠ (.slice Ao48 t561.length co48 : Value).ownBlock) (Kd.R_keptB ((Kd.R_apart' (rU HO572) (Kd.R_typed (rU HO568)) (by decide))) hkp (fun k_ hk_ hs_ => pjn hk_ hs_)) (fun k_ hk_ => pj hk_)); have n6_ := Aside0.mk (Kd.R_mono (ok' := fun k_ => some k_ ≠ (.slice Ao38 t558.length co38 : Value).ownBlock ∧ some k_ ≠ (.slice Ao45 t566.length co45 : Value).ownBlock) (Kd.R_keptB (rU HO578) hkp (fun k_ hk_ hs_ => pjn hk_ hs_)) (fun k_ hk_ => pj hk_)); have n7_ := Aside0.mk (hb); clear BK555; clear HO560; clear HO563; clear HO568; clear BK569; clear HO572; clear HO578; clear HB; have BK555 := n0_; have HO560 := n1_; have HO563 := n2_; have HO568 := n3_; have BK569 := n4_; have HO572 := n5_; have HO578 := n6_; have HB := n7_; clear n0_ n1_ n2_ n3_ n4_ n5_ n6_ n7_; (try clear hb); (try clear hkp); (try clear hy0)) | (go_at_call 51; (with_reducible refine (laws_eqPairS.calls k _ _ t570 _ _ t561 true _ ?side1 ?side2 ?side3 ?side4 A19.out).mono ?_); (case side1 => exact cS (Kd.R_reads' HO572.out).2.2); (case side2 => exact (Kd.R_reads' HO572.out).2.1); (case side3 => exact cS (Kd.R_reads' HO563.out).2.2); (case side4 => exact (Kd.R_reads' HO563.out).2.1); rintro e w56 ⟨rfl, hb⟩; replace HO560 := Aside0.mk (Kd.R_below (rU HO560) hb); replace HO563 := Aside0.mk (Kd.R_below (rU HO563) hb); replace HO568 := Aside0.mk (Kd.R_below (rU HO568) hb); replace HO572 := Aside0.mk (Kd.R_below (rU HO572) hb); replace HO578 := Aside0.mk (Kd.R_below (rU HO578) hb); replace BK555 := bS BK555 hb; replace BK569 := bS BK569 hb; replace HB := hS HB hb; (try clear hb); (try clear hb2); (try clear hk); (try clear hi)) | ((with_reducible refine gate_callee (f := 52) rfl ?_); refine goC (N := some 64) Tryd.func52 #[.slice Ao47 t570.length co47, .int .i64 1] rfl ?_; (with_reducible refine (laws_markPairS.calls k (fun k_ => some k_ = (.slice Ao47 t570.length co47 : Value).ownBlock) (.slice Ao47 t570.length co47) t570 1 t583 t584 w _ ?side1 ?side2 A21.out).mono ?_); (case side1 => repeat (first | (with_reducible first | exact HB.out | apply below_alloc | apply pw_below_drewN | apply below_drew1 | refine below_set ?_ GE555.out | refine below_set ?_ GE569.out) | exact HB.out)); (case side2 => exact Kd.R_tight rfl (rU HO572)); rintro e w57 ⟨rfl, hy0, hb, hkp⟩; refine ⟨_, rfl, ?_⟩; have n0_ := Aside0.mk (blk_kept bK hkp (fun hs_ => (fun e_ => (Kd.R_ne HO572.out BK555.out (by decide)) e_) hs_)); have n1_ := Aside0.mk (Kd.R_mono (ok' := fun k_ => some k_ ≠ (.slice Ao45 t566.length co45 : Value).ownBlock ∧ some k_ ≠ (.slice Ao52 t576.length co52 : Value).ownBlock) (Kd.R_keptB ((Kd.R_apart' (rU HO560) (Kd.R_typed (rU HO572)) (by decide))) hkp (fun k_ hk_ hs_ => pjn hk_ hs_)) (fun k_ hk_ => pj hk_)); have n2_ := Aside0.mk (Kd.R_mono (ok' := fun k_ => some k_ ≠ (.slice Ao47 t570.length co47 : Value).ownBlock) (Kd.R_keptB (rU HO563) hkp (fun k_ hk_ hs_ => pjn hk_ hs_)) (fun k_ hk_ => pj hk_)); have n3_ := Aside0.mk (Kd.R_mono (ok' := fun k_ => some k_ ≠ (.slice Ao38 t558.length co38 : Value).ownBlock ∧ some k_ ≠ (.slice Ao52 t576.length co52 : Value).ownBlock) (Kd.R_keptB ((Kd.R_apart' (rU HO568) (Kd.R_typed (rU HO572)) (by decide))) hkp (fun k_ hk_ hs_ => pjn hk_ hs_)) (fun k_ hk_ => pj hk_)); have n4_ := Aside0.mk (blk_kept bK hkp (fun hs_ => (fun e_ => (Kd.R_ne HO572.out BK569.out (by decide)) e_) hs_)); have n5_ := Aside0.mk (Kd.R_reok rfl hy0 (fun k_ e_ => HO572.out.1 k_ e_)); have n6_ := Aside0.mk (Kd.R_mono (ok' := fun k_ => some k_ ≠ (.slice Ao38 t558.length co38 : Value).ownBlock ∧ some k_ ≠ (.slice Ao45 t566.length co45 : Value).ownBlock) (Kd.R_keptB ((Kd.R_apart' (rU HO578) (Kd.R_typed (rU HO572)) (by decide))) hkp (fun k_ hk_ hs_ => pjn hk_ hs_)) (fun k_ hk_ => pj hk_)); have n7_ := Aside0.mk (hb); clear BK555; clear HO560; clear HO563; clear HO568; clear BK569; clear HO572; clear HO578; clear HB; have BK555 := n0_; have HO560 := n1_; have HO563 := n2_; have HO568 := n3_; have BK569 := n4_; have HO572 := n5_; have HO578 := n6_; have HB := n7_; clear n0_ n1_ n2_ n3_ n4_ n5_ n6_ n7_; (try clear hb); (try clear hkp); (try clear hy0)) | ((with_reducible refine gate_callee (f := 53) rfl ?_); refine goesL_ (some 67) rfl rfl Tryd.func53 (by kernel_rfl) rfl #[.slice Ao47 t584.length co47, .int .i64 1] rfl (by (try simp only [List.map_toArray, List.map_cons, List.map_nil]); first | done | (rw [show t584.length = t570.length from (Kd.R_reads' HO572.out).1.symm] <;> rfl) | rfl | (simp only [List.length_drop, List.length_take]; rfl)) ?_; (with_reducible refine (laws_heldPairS.calls k _ _ t584 1 t585 _ ?side1 ?side2 A22.out).mono ?_); (case side1 => exact cS (Kd.R_reads' HO572.out).2.2); (case side2 => rw [show t584.length = t570.length from (Kd.R_reads' HO572.out).1.symm]; exact (Kd.R_reads' HO572.out).2.1); rintro e w' ⟨rfl, ⟨nd, rfl⟩⟩; refine ⟨_, rfl, ?_⟩; have hcz58_0 := cz BK555 0; have hcz58_1 := cz BK555 1; have hfz58_0 := fz BK555 0; have hfz58_1 := fz BK555 1) | ((with_reducible refine gate_callee (f := 28) rfl ?_); refine goC (N := some 75) Tryd.func28 #[.agg #[.int .i64 a0_0, .slice A0_1 l0_1.length c0_1]] rfl ?_; (with_reducible refine (laws_toPuzzle.calls k a0_0 _ _ l0_1 t586 t587 _ ?side1 ?side2 A25.out).mono ?_); (case side1 => repeat (first | exact (Kd.C_below HR0_1.out hB) | (with_reducible refine Kd.C_alloc ?_ _) | (with_reducible refine Kd.C_drewN ?_ _) | (with_reducible refine Kd.C_drew ?_))); (case side2 => exact HC0_1.out); rintro e w59 ⟨v588, rfl, ho0, hb⟩; refine ⟨_, rfl, ?_⟩; have HO589 := Aside0.mk (Kd.R_lower (Kd.R_new' (Kd.R_new' (Kd.R_new' ho0 (Kd.R_lt (rU HO560))) (Kd.R_lt (rU HO568))) (Kd.R_lt (rU HO578))) (below_size hB)); replace HO560 := Aside0.mk (Kd.R_elder' (rU HO560) (Kd.R_base ho0) hb); replace HO563 := Aside0.mk (Kd.R_below (rU HO563) hb); replace HO568 := Aside0.mk (Kd.R_elder' (rU HO568) (Kd.R_base ho0) hb); replace HO572 := Aside0.mk (Kd.R_below (rU HO572) hb); replace HO578 := Aside0.mk (Kd.R_elder' (rU HO578) (Kd.R_base ho0) hb); replace BK555 := bS BK555 hb; replace BK569 := bS BK569 hb; replace HB := hS HB hb; (try clear hb); (try clear hb2); (try clear hk); (try clear hi); (try clear ho0); obtain ⟨Ao60, co60, eo60⟩ := Kd.R_slice HO589.out; subst eo60) | ((with_reducible refine gate_callee (f := 50) rfl ?_); refine goC (N := some 76) Tryd.func50 #[.agg #[.int .i64 t586, .slice Ao60 t587.length co60]] rfl ?_; (with_reducible refine (impl_SurePairs.calls k t586 _ _ t587 t590 t593 _ ?side1 ?side2 A26.out).mono ?_); (case side1 => exact cS (Kd.R_reads' HO589.out).2.2); (case side2 => exact (Kd.R_reads' HO589.out).2.1); rintro e w61 ⟨v591, rfl, ho0, hb⟩; refine ⟨_, rfl, ?_⟩; have HO592 := Aside0.mk (Kd.R_lower (Kd.R_new' (Kd.R_new' ho0 (Kd.R_lt (rU HO563))) (Kd.R_lt (rU HO572))) (below_size hB)); replace HO560 := Aside0.mk (Kd.R_below (rU HO560) hb); replace HO563 := Aside0.mk (Kd.R_elder' (rU HO563) (Kd.R_base ho0) hb); replace HO568 := Aside0.mk (Kd.R_below (rU HO568) hb); replace HO572 := Aside0.mk (Kd.R_elder' (rU HO572) (Kd.R_base ho0) hb); replace HO578 := Aside0.mk (Kd.R_below (rU HO578) hb); replace HO589 := Aside0.mk (Kd.R_below (rU HO589) hb); replace BK555 := bS BK555 hb; replace BK569 := bS BK569 hb; replace HB := hS HB hb; (try clear hb); (try clear hb2); (try clear hk); (try clear hi); (try clear ho0); obtain ⟨Ao62, co62, eo62⟩ := Kd.R_slice HO592.out; subst eo62) | ((with_reducible refine gate_callee (f := 51) rfl ?_); refine goC (N := some 81) Tryd.func51 #[.slice Ao62 t590.length co62, .slice Ao48 t561.length co48] rfl ?_; (with_reducible refine (laws_eqPairS.calls k _ _ t590 _ _ t561 true _ ?side1 ?side2 ?side3 ?side4 A27.out).mono ?_); (case side1 => exact cS (Kd.R_reads' HO592.out).2.2); (case side2 => exact (Kd.R_reads' HO592.out).2.1); (case side3 => exact cS (Kd.R_reads' HO563.out).2.2); (case side4 => exact (Kd.R_reads' HO563.out).2.1); rintro e w63 ⟨rfl, hb⟩; refine ⟨_, rfl, ?_⟩; replace HO560 := Aside0.mk (Kd.R_below (rU HO560) hb); replace HO563 := Aside0.mk (Kd.R_below (rU HO563) hb); replace HO568 := Aside0.mk (Kd.R_below (rU HO568) hb); replace HO572 := Aside0.mk (Kd.R_below (rU HO572) hb); replace HO578 := Aside0.mk (Kd.R_below (rU HO578) hb); replace HO589 := Aside0.mk (Kd.R_below (rU HO589) hb); replace HO592 := Aside0.mk (Kd.R_below (rU HO592) hb); replace BK555 := bS BK555 hb; replace BK569 := bS BK569 hb; replace HB := hS HB hb; (try clear hb); (try clear hb2); (try clear hk); (try clear hi)) | ((with_reducible refine gate_callee (f := 53) rfl ?_); refine goesL_ (some 90) rfl rfl Tryd.func53 (by kernel_rfl) rfl #[.slice Ao47 t584.length co47, .int .i64 1] rfl (by (try simp only [List.map_toArray, List.map_cons, List.map_nil]); first | done | (rw [show t584.length = t570.length from (Kd.R_reads' HO572.out).1.symm] <;> rfl) | rfl | (simp only [List.length_drop, List.length_take]; rfl)) ?_; (with_reducible refine (laws_heldPairS.calls k _ _ t584 1 t595 _ ?side1 ?side2 A30.out).mono ?_); (case side1 => exact cS (Kd.R_reads' HO572.out).2.2); (case side2 => rw [show t584.length = t570.length from (Kd.R_reads' HO572.out).1.symm]; exact (Kd.R_reads' HO572.out).2.1); rintro e w' ⟨rfl, ⟨nd, rfl⟩⟩; refine ⟨_, rfl, ?_⟩))
             go_ret
             exact ⟨by first | rfl | (simp [errW_none, errW_some] <;> rfl) | (simp [*, errW_none, errW_some] <;> rfl), hB⟩
            ·rw [if_neg c32] at H
             exact absurd H (by simp)
         ·replace c28 := Bool.eq_false_iff.mpr c28
          subst c28
          have H1 : (none) = some r := by rw [if_neg (show ¬ (false = true) by decide)] at H; exact H
          clear H
          have H := H1
          clear H1
          exact absurd H (by simp)
        ·rw [if_neg c24] at H
         exact absurd H (by simp)
      ·replace c20 := Bool.eq_false_iff.mpr c20
       subst c20
       have H1 : (none) = some r := by rw [if_neg (show ¬ (false = true) by decide)] at H; exact H
       clear H
       have H := H1
       clear H1
       exact absurd H (by simp)
    ·replace c16 := Bool.eq_false_iff.mpr c16
     subst c16
     have H1 : (none) = some r := by rw [if_neg (show ¬ (false = true) by decide)] at H; exact H
     clear H
     have H := H1
     clear H1
     exact absurd H (by simp)
  ·replace c12 := Bool.eq_false_iff.mpr c12
   subst c12
   have H1 : (none) = some r := by rw [if_neg (show ¬ (false = true) by decide)] at H; exact H
   clear H
   have H := H1
   clear H1
   exact absurd H (by simp)

end Go.Proofs.YtdnkipagpagfiaaDoor.PSol3
