-- Of this session's own program wip/gen/gen.py (it drives the kit's print): contracts of the functions that the law reaches.
import Derived.Test.YtdnkipagpagfiaaDoorPSol2x0
import Derived.Test.YtdnkipagpagfiaaDoorPSol2x2
import Derived.Test.YtdnkipagpagfiaaDoorPSol2x15
namespace Go.Proofs.YtdnkipagpagfiaaDoor.PSol2
open Go.RowKit Go.Proofs.YtdnkipagpagfiaaDoorW.PrintWords Go.Proofs.YtdnkipagpagfiaaDoorW.PrintLast Go.Proofs.YtdnkipagpagfiaaDoorW.PrintMore Go.Proofs.YtdnkipagpagfiaaDoor.Base
attribute [local go_sem] max2_int min2_int max_two min_two max_three min_three max_four min_four   -- for this text's walks alone
set_option linter.unusedVariables false
set_option linter.unusedSimpArgs false

/-! ### laws_FnExactHarderPuzzle: function 9 -/
def laws_FnExactHarderPuzzle.f (k : Nat) (a0_0 : Int) (l0_1 : List (S23)) : Option (Bool) := (laws_szPuzzle.f a0_0 l0_1 1048576).bind fun t574 => (if t574 < 0 then (some true) else ((laws_toPuzzle.f k a0_0 l0_1).bind fun bt575 => ((spec_HarderPuzzle.f k bt575.1 bt575.2).bind fun bt579 => ((laws_toPuzzle.f k a0_0 l0_1).bind fun bt585 => ((impl_HarderPuzzle.f k bt585.1 bt585.2).bind fun bt590 => ((laws_eqPuzzle.f k bt590.1 bt590.2.1 bt579.1 bt579.2.1).bind fun t596 => (if t596 = true then (if (bt590.2.2 != bt579.2.2) = true then (none) else ((laws_toPuzzle.f k a0_0 l0_1).bind fun bt597 => ((laws_eqPuzzle.f k bt585.1 bt585.2 bt597.1 bt597.2).bind fun t601 => (if t601 = true then ((laws_markPuzzle.f k bt585.1 bt585.2 1).bind fun bt602 => (if bt602.1 < 0 then (none) else ((laws_eqPuzzle.f k bt590.1 bt590.2.1 bt579.1 bt579.2.1).bind fun t604 => (if t604 = true then ((laws_markPuzzle.f k bt590.1 bt590.2.1 1).bind fun bt605 => ((laws_heldPuzzle.f k bt590.1 bt605.2 1).bind fun t607 => (if t607 < 0 then (none) else (if t607 = bt605.1 then ((laws_toPuzzle.f k a0_0 l0_1).bind fun bt608 => ((impl_HarderPuzzle.f k bt608.1 bt608.2).bind fun bt612 => ((laws_eqPuzzle.f k bt612.1 bt612.2.1 bt579.1 bt579.2.1).bind fun t618 => (if t618 = true then (if (bt612.2.2 != bt579.2.2) = true then (none) else ((laws_heldPuzzle.f k bt590.1 bt605.2 1).bind fun t619 => (if t619 < 0 then (none) else (if t619 = bt605.1 then (some true) else (none))))) else (none))))) else (none))))) else (none))))) else (none))))) else (none))))))))
theorem laws_FnExactHarderPuzzle.mono : ∀ a0 a1 k, LeO (laws_FnExactHarderPuzzle.f k a0 a1) (laws_FnExactHarderPuzzle.f (k + 1) a0 a1) := by
 intro a0 a1 k
 unfold laws_FnExactHarderPuzzle.f
 repeat' first
   | (with_reducible exact impl_HarderPuzzle.mono _ _ _)
   | (with_reducible exact laws_eqPuzzle.mono _ _ _ _ _)
   | (with_reducible exact laws_heldPuzzle.mono _ _ _ _)
   | (with_reducible exact laws_markPuzzle.mono _ _ _ _)
   | (with_reducible exact laws_toPuzzle.mono _ _ _)
   | (with_reducible exact spec_HarderPuzzle.mono _ _ _)
   | (with_reducible exact LeO.refl _)
   | (with_reducible exact LeO.none _)
   | (with_reducible refine LeO.ite ?_ ?_)
   | (with_reducible refine LeO.bind ?_ (fun _ => ?_))
   | exact impl_HarderPuzzle.mono _ _ _
   | exact laws_eqPuzzle.mono _ _ _ _ _
   | exact laws_heldPuzzle.mono _ _ _ _
   | exact laws_markPuzzle.mono _ _ _ _
   | exact laws_toPuzzle.mono _ _ _
   | exact spec_HarderPuzzle.mono _ _ _
   | exact LeO.none _
   | refine LeO.ite ?_ ?_
   | refine LeO.bind ?_ (fun _ => ?_)
set_option maxHeartbeats 8000000 in
set_option maxRecDepth 100000 in
theorem laws_FnExactHarderPuzzle.calls (k : Nat) (a0_0 : Int) (A0_1 : Option Addr) (c0_1 : Nat) (l0_1 : List (S23)) (r : Bool) (w : World) (hr0_1 : Kd.C k23 w A0_1 l0_1.length l0_1) (hc0_1 : l0_1.length ≤ c0_1) (h : laws_FnExactHarderPuzzle.f k a0_0 l0_1 = some r) (hG : GTab 0 w := by first | exact Aside0.out ‹Aside0 (GTab _ _)› | exact GTab.up (Aside0.out ‹Aside0 (GTab _ _)›) (by repeat (first | (with_reducible first | exact Below.refl _ _ | exact Aside0.out ‹Aside0 (Below _ _ _)› | apply below_alloc | apply pw_below_drewN | apply below_drew1 | refine below_set ?_ (Aside0.out (by assumption))) | exact Aside0.out ‹Aside0 (Below _ _ _)›))) :
  Calls Tryd.prog 9 #[.agg #[.int .i64 a0_0, .slice A0_1 l0_1.length c0_1]] w fun e w' => e = .returned (.bool r) ∧ Below w.heap.size w w' := by
 have hu49 := Tryd.underlying49
 have hu40 := Tryd.underlying40
 have HG := Aside0.mk (p := GTab _ _) hG
 clear hG
 have HR0_1 := Aside0.mk hr0_1
 have HC0_1 := Aside0.mk hc0_1
 clear hr0_1 hc0_1
 have HB := Aside0.mk (Below.refl w.heap.size w)
 have H : ((laws_szPuzzle.f a0_0 l0_1 1048576).bind fun t574 => (if t574 < 0 then (some true) else ((laws_toPuzzle.f k a0_0 l0_1).bind fun bt575 => ((spec_HarderPuzzle.f k bt575.1 bt575.2).bind fun bt579 => ((laws_toPuzzle.f k a0_0 l0_1).bind fun bt585 => ((impl_HarderPuzzle.f k bt585.1 bt585.2).bind fun bt590 => ((laws_eqPuzzle.f k bt590.1 bt590.2.1 bt579.1 bt579.2.1).bind fun t596 => (if t596 = true then (if (bt590.2.2 != bt579.2.2) = true then (none) else ((laws_toPuzzle.f k a0_0 l0_1).bind fun bt597 => ((laws_eqPuzzle.f k bt585.1 bt585.2 bt597.1 bt597.2).bind fun t601 => (if t601 = true then ((laws_markPuzzle.f k bt585.1 bt585.2 1).bind fun bt602 => (if bt602.1 < 0 then (none) else ((laws_eqPuzzle.f k bt590.1 bt590.2.1 bt579.1 bt579.2.1).bind fun t604 => (if t604 = true then ((laws_markPuzzle.f k bt590.1 bt590.2.1 1).bind fun bt605 => ((laws_heldPuzzle.f k bt590.1 bt605.2 1).bind fun t607 => (if t607 < 0 then (none) else (if t607 = bt605.1 then ((laws_toPuzzle.f k a0_0 l0_1).bind fun bt608 => ((impl_HarderPuzzle.f k bt608.1 bt608.2).bind fun bt612 => ((laws_eqPuzzle.f k bt612.1 bt612.2.1 bt579.1 bt579.2.1).bind fun t618 => (if t618 = true then (if (bt612.2.2 != bt579.2.2) = true then (none) else ((laws_heldPuzzle.f k bt590.1 bt605.2 1).bind fun t619 => (if t619 < 0 then (none) else (if t619 = bt605.1 then (some true) else (none))))) else (none))))) else (none))))) else (none))))) else (none))))) else (none))))))))) = some r := h
 clear h
 replace H := Option.bind_eq_some_iff.mp H
 obtain ⟨t574, A20, H⟩ := H
 try dsimp only at H
 have A2 := Aside0.mk A20
 clear A20
 by_cases c3 : t574 < 0
 ·rw [if_pos c3] at H
  have c3b0 : decide (t574 < 0) = true := decide_eq_true c3
  clear c3
  obtain rfl := Option.some.inj H
  go_enter Tryd.func9, Tryd.ntmps9
  go_wp2_with (first | ((with_reducible refine gate_dst (N := 1) rfl ?_); refine bxE 1 #[.int .i64 a0_0, .slice A0_1 l0_1.length c0_1] 49 rfl ?_; intro gb573 hg w4 hbox hb; have BK573 := Aside0.mk (hbox); have GW573 := gS HB hg; have GE573 := gS HB hg; replace HB := hS HB hb; clear hb hbox hg; have hcz5_0 := cz BK573 0; have hcz5_1 := cz BK573 1; have hfz5_0 := fz BK573 0; have hfz5_1 := fz BK573 1) | ((with_reducible refine gate_callee (f := 26) rfl ?_); refine goC (N := some 16) Tryd.func26 #[.agg #[.int .i64 a0_0, .slice A0_1 l0_1.length c0_1], .int .i64 1048576] rfl ?_; (with_reducible refine (laws_szPuzzle.calls a0_0 _ _ l0_1 1048576 t574 _ ?side1 ?side2 A2.out).mono ?_); (case side1 => exact cS (Kd.C_below HR0_1.out HB.out)); (case side2 => exact HC0_1.out); rintro e w6 ⟨rfl, hb⟩; refine ⟨_, rfl, ?_⟩; replace BK573 := bS BK573 hb; replace HB := hS HB hb; (try clear hb); (try clear hb2); (try clear hk); (try clear hi)))
  go_ret
  exact ⟨by first | rfl | (simp [errW_none, errW_some] <;> rfl) | (simp [*, errW_none, errW_some] <;> rfl), hB⟩
 ·rw [if_neg c3] at H
  have c3b0 : decide (t574 < 0) = false := decide_eq_false c3
  clear c3
  replace H := Option.bind_eq_some_iff.mp H
  obtain ⟨⟨t575, t576⟩, A70, H⟩ := H
  try dsimp only at H
  have A7 := Aside0.mk A70
  clear A70
  replace H := Option.bind_eq_some_iff.mp H
  obtain ⟨⟨t579, t580, t583⟩, A80, H⟩ := H
  try dsimp only at H
  have A8 := Aside0.mk A80
  clear A80
  replace H := Option.bind_eq_some_iff.mp H
  obtain ⟨⟨t585, t586⟩, A90, H⟩ := H
  try dsimp only at H
  have A9 := Aside0.mk A90
  clear A90
  replace H := Option.bind_eq_some_iff.mp H
  obtain ⟨⟨t590, t591, t594⟩, A100, H⟩ := H
  try dsimp only at H
  have A10 := Aside0.mk A100
  clear A100
  replace H := Option.bind_eq_some_iff.mp H
  obtain ⟨t596, A110, H⟩ := H
  try dsimp only at H
  have A11 := Aside0.mk A110
  clear A110
  by_cases c12 : t596 = true
  ·subst c12
   rw [if_pos rfl] at H
   by_cases c13 : (t594 != t583) = true
   ·rw [if_pos c13] at H
    exact absurd H (by simp)
   ·rw [if_neg c13] at H
    have c13b0 : (t594 != t583) = false := by simpa using c13
    (try (have c13b1 : decide (t594 = t583) = true := by simpa using c13))
    (try (have c13b2 : (t594 == t583) = true := by simpa using c13))
    clear c13
    replace H := Option.bind_eq_some_iff.mp H
    obtain ⟨⟨t597, t598⟩, A140, H⟩ := H
    try dsimp only at H
    have A14 := Aside0.mk A140
    clear A140
    replace H := Option.bind_eq_some_iff.mp H
    obtain ⟨t601, A150, H⟩ := H
    try dsimp only at H
    have A15 := Aside0.mk A150
    clear A150
    by_cases c16 : t601 = true
    ·subst c16
     rw [if_pos rfl] at H
     replace H := Option.bind_eq_some_iff.mp H
     obtain ⟨⟨t602, t603⟩, A170, H⟩ := H
     try dsimp only at H
     have A17 := Aside0.mk A170
     clear A170
     by_cases c18 : t602 < 0
     ·rw [if_pos c18] at H
      exact absurd H (by simp)
     ·rw [if_neg c18] at H
      have c18b0 : decide (t602 < 0) = false := decide_eq_false c18
      clear c18
      replace H := Option.bind_eq_some_iff.mp H
      obtain ⟨t604, A190, H⟩ := H
      try dsimp only at H
      have A19 := Aside0.mk A190
      clear A190
      by_cases c20 : t604 = true
      ·subst c20
       rw [if_pos rfl] at H
       replace H := Option.bind_eq_some_iff.mp H
       obtain ⟨⟨t605, t606⟩, A210, H⟩ := H
       try dsimp only at H
       have A21 := Aside0.mk A210
       clear A210
       replace H := Option.bind_eq_some_iff.mp H
       obtain ⟨t607, A220, H⟩ := H
       try dsimp only at H
       have A22 := Aside0.mk A220
       clear A220
       by_cases c23 : t607 < 0
       ·rw [if_pos c23] at H
        exact absurd H (by simp)
       ·rw [if_neg c23] at H
        have c23b0 : decide (t607 < 0) = false := decide_eq_false c23
        clear c23
        by_cases c24 : t607 = t605
        ·rw [if_pos c24] at H
         have c24b0 : (t607 == t605) = true := beq_iff_eq.mpr c24
         have c24b1 : (t607 != t605) = false := bne_eq_false_iff_eq.mpr c24
         clear c24
         replace H := Option.bind_eq_some_iff.mp H
         obtain ⟨⟨t608, t609⟩, A250, H⟩ := H
         try dsimp only at H
         have A25 := Aside0.mk A250
         clear A250
         replace H := Option.bind_eq_some_iff.mp H
         obtain ⟨⟨t612, t613, t616⟩, A260, H⟩ := H
         try dsimp only at H
         have A26 := Aside0.mk A260
         clear A260
         replace H := Option.bind_eq_some_iff.mp H
         obtain ⟨t618, A270, H⟩ := H
         try dsimp only at H
         have A27 := Aside0.mk A270
         clear A270
         by_cases c28 : t618 = true
         ·subst c28
          rw [if_pos rfl] at H
          by_cases c29 : (t616 != t583) = true
          ·rw [if_pos c29] at H
           exact absurd H (by simp)
          ·rw [if_neg c29] at H
           have c29b0 : (t616 != t583) = false := by simpa using c29
           (try (have c29b1 : decide (t616 = t583) = true := by simpa using c29))
           (try (have c29b2 : (t616 == t583) = true := by simpa using c29))
           clear c29
           replace H := Option.bind_eq_some_iff.mp H
           obtain ⟨t619, A300, H⟩ := H
           try dsimp only at H
           have A30 := Aside0.mk A300
           clear A300
           by_cases c31 : t619 < 0
           ·rw [if_pos c31] at H
            exact absurd H (by simp)
           ·rw [if_neg c31] at H
            have c31b0 : decide (t619 < 0) = false := decide_eq_false c31
            clear c31
            by_cases c32 : t619 = t605
            ·rw [if_pos c32] at H
             have c32b0 : (t619 == t605) = true := beq_iff_eq.mpr c32
             have c32b1 : (t619 != t605) = false := bne_eq_false_iff_eq.mpr c32
             clear c32
             obtain rfl := Option.some.inj H
             go_enter Tryd.func9, Tryd.ntmps9
             try go_wp2_with (first | ((with_reducible refine gate_dst (N := 1) rfl ?_); refine bxE 1 #[.int .i64 a0_0, .slice A0_1 l0_1.length c0_1] 49 rfl ?_; intro gb573 hg w33 hbox hb; have BK573 := Aside0.mk (hbox); have GW573 := gS HB hg; have GE573 := gS HB hg; replace HB := hS HB hb; clear hb hbox hg; have hcz34_0 := cz BK573 0; have hcz34_1 := cz BK573 1; have hfz34_0 := fz BK573 0; have hfz34_1 := fz BK573 1) | ((with_reducible refine gate_callee (f := 26) rfl ?_); refine goC (N := some 16) Tryd.func26 #[.agg #[.int .i64 a0_0, .slice A0_1 l0_1.length c0_1], .int .i64 1048576] rfl ?_; (with_reducible refine (laws_szPuzzle.calls a0_0 _ _ l0_1 1048576 t574 _ ?side1 ?side2 A2.out).mono ?_); (case side1 => exact cS (Kd.C_below HR0_1.out HB.out)); (case side2 => exact HC0_1.out); rintro e w35 ⟨rfl, hb⟩; refine ⟨_, rfl, ?_⟩; replace BK573 := bS BK573 hb; replace HB := hS HB hb; (try clear hb); (try clear hb2); (try clear hk); (try clear hi); have hcz36_0 := cz BK573 0; have hcz36_1 := cz BK573 1; have hfz36_0 := fz BK573 0; have hfz36_1 := fz BK573 1) | ((with_reducible refine gate_callee (f := 28) rfl ?_); refine goC (N := some 21) Tryd.func28 #[.agg #[.int .i64 a0_0, .slice A0_1 l0_1.length c0_1]] rfl ?_; (with_reducible refine (laws_toPuzzle.calls k a0_0 _ _ l0_1 t575 t576 _ ?side1 ?side2 A7.out).mono ?_); (case side1 => exact cS (Kd.C_below HR0_1.out HB.out)); (case side2 => exact HC0_1.out); rintro e w37 ⟨v577, rfl, ho0, hb⟩; refine ⟨_, rfl, ?_⟩; have HO578 := Aside0.mk (Kd.R_lower ho0 (below_size hB)); replace BK573 := bS BK573 hb; replace HB := hS HB hb; (try clear hb); (try clear hb2); (try clear hk); (try clear hi); (try clear ho0); obtain ⟨Ao38, co38, eo38⟩ := Kd.R_slice HO578.out; subst eo38) | ((with_reducible refine gate_callee (f := 39) rfl ?_); refine goC (N := some 22) Tryd.func39 #[.agg #[.int .i64 t575, .slice Ao38 t576.length co38]] rfl ?_; (with_reducible refine (spec_HarderPuzzle.calls k t575 _ _ t576 t579 t580 t583 _ ?side1 ?side2 A8.out).mono ?_); (case side1 => exact cS (Kd.R_reads' HO578.out).2.2); (case side2 => exact (Kd.R_reads' HO578.out).2.1); rintro e w39 ⟨v581, rfl, ho0, hb⟩; refine ⟨_, rfl, ?_⟩; have HO582 := Aside0.mk (Kd.R_lower (Kd.R_new' ho0 (Kd.R_lt (rU HO578))) (below_size hB)); replace HO578 := Aside0.mk (Kd.R_elder' (rU HO578) (Kd.R_base ho0) hb); replace BK573 := bS BK573 hb; replace HB := hS HB hb; (try clear hb); (try clear hb2); (try clear hk); (try clear hi); (try clear ho0)) | ((with_reducible refine gate_dst (N := 4) rfl ?_); refine bxE 4 #[.int .i64 0, .slice none 0 0] 40 rfl ?_; intro gb584 hg w40 hbox hb; have BK584 := Aside0.mk (hbox); have GW584 := gS HB hg; have GE584 := gS HB hg; have NB573_584 := nL BK573 hg; have NB584_573 := nG BK573 hg; replace HO578 := Aside0.mk (Kd.R_below (rU HO578) hb); replace HO582 := Aside0.mk (Kd.R_below (rU HO582) hb); replace BK573 := bS BK573 hb; replace HB := hS HB hb; clear hb hbox hg; have hnb41 := NB584_573.out; have hnc41 := NB573_584.out; have hcz42_0 := cz BK584 0; have hcz42_1 := cz BK584 1; have hfz42_0 := fz BK584 0; have hfz42_1 := fz BK584 1; obtain ⟨Ao43, co43, eo43⟩ := Kd.R_slice HO582.out; subst eo43; have hcz44_0 := cz BK573 0; have hcz44_1 := cz BK573 1; have hfz44_0 := fz BK573 0; have hfz44_1 := fz BK573 1) | ((with_reducible refine gate_callee (f := 28) rfl ?_); refine goC (N := some 26) Tryd.func28 #[.agg #[.int .i64 a0_0, .slice A0_1 l0_1.length c0_1]] rfl ?_; (with_reducible refine (laws_toPuzzle.calls k a0_0 _ _ l0_1 t585 t586 _ ?side1 ?side2 A9.out).mono ?_); (case side1 => exact Kd.C_below HR0_1.out hB); (case side2 => exact HC0_1.out); rintro e w45 ⟨v587, rfl, ho0, hb⟩; refine ⟨_, rfl, ?_⟩; have HO588 := Aside0.mk (Kd.R_lower (Kd.R_new' (Kd.R_new' ho0 (Kd.R_lt (by (with_reducible repeat (first | apply Kd.R_alloc | apply Kd.R_drewN | apply Kd.R_drew)); exact (Kd.R_mono (Kd.R_far (p := ⟨gb584, 1, none⟩) (Kd.R_far (p := ⟨gb584, 0, none⟩) (Kd.R_types HO578.out BK584.out (by decide)) (fun _ hk => hk.2) (.int .i64 t579)) (fun _ hk => hk.2) (.slice Ao43 t580.length co43)) (fun _ h_ => h_.1))))) (Kd.R_lt (by (with_reducible repeat (first | apply Kd.R_alloc | apply Kd.R_drewN | apply Kd.R_drew)); exact (Kd.R_mono (Kd.R_far (p := ⟨gb584, 1, none⟩) (Kd.R_far (p := ⟨gb584, 0, none⟩) (Kd.R_types HO582.out BK584.out (by decide)) (fun _ hk => hk.2) (.int .i64 t579)) (fun _ hk => hk.2) (.slice Ao43 t580.length co43)) (fun _ h_ => h_.1))))) (below_size hB)); replace HO578 := Aside0.mk (Kd.R_elder' (by (with_reducible repeat (first | apply Kd.R_alloc | apply Kd.R_drewN | apply Kd.R_drew)); exact (Kd.R_mono (Kd.R_far (p := ⟨gb584, 1, none⟩) (Kd.R_far (p := ⟨gb584, 0, none⟩) (Kd.R_types HO578.out BK584.out (by decide)) (fun _ hk => hk.2) (.int .i64 t579)) (fun _ hk => hk.2) (.slice Ao43 t580.length co43)) (fun _ h_ => h_.1))) (Kd.R_base ho0) hb); replace HO582 := Aside0.mk (Kd.R_elder' (by (with_reducible repeat (first | apply Kd.R_alloc | apply Kd.R_drewN | apply Kd.R_drew)); exact (Kd.R_mono (Kd.R_far (p := ⟨gb584, 1, none⟩) (Kd.R_far (p := ⟨gb584, 0, none⟩) (Kd.R_types HO582.out BK584.out (by decide)) (fun _ hk => hk.2) (.int .i64 t579)) (fun _ hk => hk.2) (.slice Ao43 t580.length co43)) (fun _ h_ => h_.1))) (Kd.R_base ho0) hb); replace BK573 := Aside0.mk (blk_below (g := gb573) (o := .cells #[.int .i64 a0_0, .slice A0_1 l0_1.length c0_1] 49 (0, 0)) (by (with_reducible repeat (first | refine blk_drewN ?_ _ | refine blk_drew ?_ | refine blk_alloc ?_ _)); refine blk_far ?_ NB573_584.out _; (with_reducible repeat (first | refine blk_drewN ?_ _ | refine blk_drew ?_ | refine blk_alloc ?_ _)); refine blk_far ?_ NB573_584.out _; (with_reducible repeat (first | refine blk_drewN ?_ _ | refine blk_drew ?_ | refine blk_alloc ?_ _)); exact BK573.out) hb); replace BK584 := Aside0.mk (blk_below (g := gb584) (o := .cells #[.int .i64 t579, .slice Ao43 t580.length co43] 40 (0, 0)) (by (with_reducible repeat (first | refine blk_drewN ?_ _ | refine blk_drew ?_ | refine blk_alloc ?_ _)); refine blk_put (cs := #[.int .i64 t579, .slice none 0 0]) ?_ 1 _ rfl; (with_reducible repeat (first | refine blk_drewN ?_ _ | refine blk_drew ?_ | refine blk_alloc ?_ _)); refine blk_put (cs := #[.int .i64 0, .slice none 0 0]) ?_ 0 _ rfl; (with_reducible repeat (first | refine blk_drewN ?_ _ | refine blk_drew ?_ | refine blk_alloc ?_ _)); exact BK584.out) hb); replace HB := hS HB hb; (try clear hb); (try clear hb2); (try clear hk); (try clear hi); (try clear ho0)) | ((with_reducible refine gate_dst (N := 6) rfl ?_); refine bxE 6 #[.int .i64 0, .slice none 0 0] 40 rfl ?_; intro gb589 hg w46 hbox hb; have BK589 := Aside0.mk (hbox); have GW589 := gS HB hg; have GE589 := gS HB hg; have NB573_589 := nL BK573 hg; have NB589_573 := nG BK573 hg; have NB584_589 := nL BK584 hg; have NB589_584 := nG BK584 hg; replace HO578 := Aside0.mk (Kd.R_below (rU HO578) hb); replace HO582 := Aside0.mk (Kd.R_below (rU HO582) hb); replace HO588 := Aside0.mk (Kd.R_below (rU HO588) hb); replace BK573 := bS BK573 hb; replace BK584 := bS BK584 hb; replace HB := hS HB hb; clear hb hbox hg; have hnb47 := NB589_573.out; have hnc47 := NB573_589.out; have hnb48 := NB589_584.out; have hnc48 := NB584_589.out; have hcz49_0 := cz BK589 0; have hcz49_1 := cz BK589 1; have hfz49_0 := fz BK589 0; have hfz49_1 := fz BK589 1; obtain ⟨Ao50, co50, eo50⟩ := Kd.R_slice HO588.out; subst eo50) | ((with_reducible refine gate_callee (f := 40) rfl ?_); refine goC (N := some 29) Tryd.func40 #[.agg #[.int .i64 t585, .slice Ao50 t586.length co50]] rfl ?_; (with_reducible refine (impl_HarderPuzzle.calls k t585 _ _ t586 t590 t591 t594 _ ?side1 ?side2 A10.out).mono ?_); (case side1 => refine (Kd.R_reads' (e := 30) (base := w.heap.size) (ok := fun k_ => ((True ∧ some k_ ≠ (.slice Ao38 t576.length co38 : Value).ownBlock) ∧ some k_ ≠ (.slice Ao43 t580.length co43 : Value).ownBlock)) (n := t586.length) (c := co50) ?_).2.2; exact (by (with_reducible repeat (first | apply Kd.R_alloc | apply Kd.R_drewN | apply Kd.R_drew)); exact (Kd.R_mono (Kd.R_far (p := ⟨gb589, 1, none⟩) (Kd.R_far (p := ⟨gb589, 0, none⟩) (Kd.R_types HO588.out BK589.out (by decide)) (fun _ hk => hk.2) (.int .i64 t585)) (fun _ hk => hk.2) (.slice Ao50 t586.length co50)) (fun _ h_ => h_.1)))); (case side2 => exact (Kd.R_reads' HO588.out).2.1); rintro e w51 ⟨v592, rfl, ho0, hb⟩; refine ⟨_, rfl, ?_⟩; have HO593 := Aside0.mk (Kd.R_lower (Kd.R_new' (Kd.R_new' (Kd.R_new' ho0 (Kd.R_lt (by (with_reducible repeat (first | apply Kd.R_alloc | apply Kd.R_drewN | apply Kd.R_drew)); exact (Kd.R_mono (Kd.R_far (p := ⟨gb589, 1, none⟩) (Kd.R_far (p := ⟨gb589, 0, none⟩) (Kd.R_types HO578.out BK589.out (by decide)) (fun _ hk => hk.2) (.int .i64 t585)) (fun _ hk => hk.2) (.slice Ao50 t586.length co50)) (fun _ h_ => h_.1))))) (Kd.R_lt (by (with_reducible repeat (first | apply Kd.R_alloc | apply Kd.R_drewN | apply Kd.R_drew)); exact (Kd.R_mono (Kd.R_far (p := ⟨gb589, 1, none⟩) (Kd.R_far (p := ⟨gb589, 0, none⟩) (Kd.R_types HO582.out BK589.out (by decide)) (fun _ hk => hk.2) (.int .i64 t585)) (fun _ hk => hk.2) (.slice Ao50 t586.length co50)) (fun _ h_ => h_.1))))) (Kd.R_lt (by (with_reducible repeat (first | apply Kd.R_alloc | apply Kd.R_drewN | apply Kd.R_drew)); exact (Kd.R_mono (Kd.R_far (p := ⟨gb589, 1, none⟩) (Kd.R_far (p := ⟨gb589, 0, none⟩) (Kd.R_types HO588.out BK589.out (by decide)) (fun _ hk => hk.2) (.int .i64 t585)) (fun _ hk => hk.2) (.slice Ao50 t586.length co50)) (fun _ h_ => h_.1))))) (below_size hB)); replace HO578 := Aside0.mk (Kd.R_elder' (by (with_reducible repeat (first | apply Kd.R_alloc | apply Kd.R_drewN | apply Kd.R_drew)); exact (Kd.R_mono (Kd.R_far (p := ⟨gb589, 1, none⟩) (Kd.R_far (p := ⟨gb589, 0, none⟩) (Kd.R_types HO578.out BK589.out (by decide)) (fun _ hk => hk.2) (.int .i64 t585)) (fun _ hk => hk.2) (.slice Ao50 t586.length co50)) (fun _ h_ => h_.1))) (Kd.R_base ho0) hb); replace HO582 := Aside0.mk (Kd.R_elder' (by (with_reducible repeat (first | apply Kd.R_alloc | apply Kd.R_drewN | apply Kd.R_drew)); exact (Kd.R_mono (Kd.R_far (p := ⟨gb589, 1, none⟩) (Kd.R_far (p := ⟨gb589, 0, none⟩) (Kd.R_types HO582.out BK589.out (by decide)) (fun _ hk => hk.2) (.int .i64 t585)) (fun _ hk => hk.2) (.slice Ao50 t586.length co50)) (fun _ h_ => h_.1))) (Kd.R_base ho0) hb); replace HO588 := Aside0.mk (Kd.R_elder' (by (with_reducible repeat (first | apply Kd.R_alloc | apply Kd.R_drewN | apply Kd.R_drew)); exact (Kd.R_mono (Kd.R_far (p := ⟨gb589, 1, none⟩) (Kd.R_far (p := ⟨gb589, 0, none⟩) (Kd.R_types HO588.out BK589.out (by decide)) (fun _ hk => hk.2) (.int .i64 t585)) (fun _ hk => hk.2) (.slice Ao50 t586.length co50)) (fun _ h_ => h_.1))) (Kd.R_base ho0) hb); replace BK573 := Aside0.mk (blk_below (g := gb573) (o := .cells #[.int .i64 a0_0, .slice A0_1 l0_1.length c0_1] 49 (0, 0)) (by (with_reducible repeat (first | refine blk_drewN ?_ _ | refine blk_drew ?_ | refine blk_alloc ?_ _)); refine blk_far ?_ NB573_589.out _; (with_reducible repeat (first | refine blk_drewN ?_ _ | refine blk_drew ?_ | refine blk_alloc ?_ _)); refine blk_far ?_ NB573_589.out _; (with_reducible repeat (first | refine blk_drewN ?_ _ | refine blk_drew ?_ | refine blk_alloc ?_ _)); exact BK573.out) hb); replace BK584 := Aside0.mk (blk_below (g := gb584) (o := .cells #[.int .i64 t579, .slice Ao43 t580.length co43] 40 (0, 0)) (by (with_reducible repeat (first | refine blk_drewN ?_ _ | refine blk_drew ?_ | refine blk_alloc ?_ _)); refine blk_far ?_ NB584_589.out _; (with_reducible repeat (first | refine blk_drewN ?_ _ | refine blk_drew ?_ | refine blk_alloc ?_ _)); refine blk_far ?_ NB584_589.out _; (with_reducible repeat (first | refine blk_drewN ?_ _ | refine blk_drew ?_ | refine blk_alloc ?_ _)); exact BK584.out) hb); replace BK589 := Aside0.mk (blk_below (g := gb589) (o := .cells #[.int .i64 t585, .slice Ao50 t586.length co50] 40 (0, 0)) (by (with_reducible repeat (first | refine blk_drewN ?_ _ | refine blk_drew ?_ | refine blk_alloc ?_ _)); refine blk_put (cs := #[.int .i64 t585, .slice none 0 0]) ?_ 1 _ rfl; (with_reducible repeat (first | refine blk_drewN ?_ _ | refine blk_drew ?_ | refine blk_alloc ?_ _)); refine blk_put (cs := #[.int .i64 0, .slice none 0 0]) ?_ 0 _ rfl; (with_reducible repeat (first | refine blk_drewN ?_ _ | refine blk_drew ?_ | refine blk_alloc ?_ _)); exact BK589.out) hb); replace HB := hS HB hb; (try clear hb); (try clear hb2); (try clear hk); (try clear hi); (try clear ho0)) | ((with_reducible refine gate_dst (N := 7) rfl ?_); refine bxE 7 #[.int .i64 0, .slice none 0 0] 40 rfl ?_; intro gb595 hg w52 hbox hb; have BK595 := Aside0.mk (hbox); have GW595 := gS HB hg; have GE595 := gS HB hg; have NB573_595 := nL BK573 hg; have NB595_573 := nG BK573 hg; have NB584_595 := nL BK584 hg; have NB595_584 := nG BK584 hg; have NB589_595 := nL BK589 hg; have NB595_589 := nG BK589 hg; replace HO578 := Aside0.mk (Kd.R_below (rU HO578) hb); replace HO582 := Aside0.mk (Kd.R_below (rU HO582) hb); replace HO588 := Aside0.mk (Kd.R_below (rU HO588) hb); replace HO593 := Aside0.mk (Kd.R_below (rU HO593) hb); replace BK573 := bS BK573 hb; replace BK584 := bS BK584 hb; replace BK589 := bS BK589 hb; replace HB := hS HB hb; clear hb hbox hg; have hnb53 := NB595_573.out; have hnc53 := NB573_595.out; have hnb54 := NB595_584.out; have hnc54 := NB584_595.out; have hnb55 := NB595_589.out; have hnc55 := NB589_595.out; have hcz56_0 := cz BK595 0; have hcz56_1 := cz BK595 1; have hfz56_0 := fz BK595 0; have hfz56_1 := fz BK595 1; obtain ⟨Ao57, co57, eo57⟩ := Kd.R_slice HO593.out; subst eo57; have hcz58_0 := cz BK584 0; have hcz58_1 := cz BK584 1; have hfz58_0 := fz BK584 0; have hfz58_1 := fz BK584 1) | ((with_reducible refine gate_callee (f := 22) rfl ?_); refine goC (N := some 34) Tryd.func22 #[.agg #[.int .i64 t590, .slice Ao57 t591.length co57], .agg #[.int .i64 t579, .slice Ao43 t580.length co43]] rfl ?_; (with_reducible refine (laws_eqPuzzle.calls k t590 _ _ t591 t579 _ _ t580 true _ ?side1 ?side2 ?side3 ?side4 A11.out).mono ?_); (case side1 => refine (Kd.R_reads' (e := 30) (base := w.heap.size) (ok := fun k_ => (((True ∧ some k_ ≠ (.slice Ao38 t576.length co38 : Value).ownBlock) ∧ some k_ ≠ (.slice Ao43 t580.length co43 : Value).ownBlock) ∧ some k_ ≠ (.slice Ao50 t586.length co50 : Value).ownBlock)) (n := t591.length) (c := co57) ?_).2.2; exact (by (with_reducible repeat (first | apply Kd.R_alloc | apply Kd.R_drewN | apply Kd.R_drew)); exact (Kd.R_mono (Kd.R_far (p := ⟨gb595, 1, none⟩) (Kd.R_far (p := ⟨gb595, 0, none⟩) (Kd.R_types HO593.out BK595.out (by decide)) (fun _ hk => hk.2) (.int .i64 t590)) (fun _ hk => hk.2) (.slice Ao57 t591.length co57)) (fun _ h_ => h_.1)))); (case side2 => exact (Kd.R_reads' HO593.out).2.1); (case side3 => refine (Kd.R_reads' (e := 30) (base := w.heap.size) (ok := fun k_ => (((True ∧ some k_ ≠ (.slice Ao38 t576.length co38 : Value).ownBlock) ∧ some k_ ≠ (.slice Ao50 t586.length co50 : Value).ownBlock) ∧ some k_ ≠ (.slice Ao57 t591.length co57 : Value).ownBlock)) (n := t580.length) (c := co43) ?_).2.2; exact (by (with_reducible repeat (first | apply Kd.R_alloc | apply Kd.R_drewN | apply Kd.R_drew)); exact (Kd.R_mono (Kd.R_far (p := ⟨gb595, 1, none⟩) (Kd.R_far (p := ⟨gb595, 0, none⟩) (Kd.R_types HO582.out BK595.out (by decide)) (fun _ hk => hk.2) (.int .i64 t590)) (fun _ hk => hk.2) (.slice Ao57 t591.length co57)) (fun _ h_ => h_.1)))); (case side4 => exact (Kd.R_reads' HO582.out).2.1); rintro e w59 ⟨rfl, hb⟩; refine ⟨_, rfl, ?_⟩; replace HO578 := Aside0.mk (Kd.R_below (by (with_reducible repeat (first | apply Kd.R_alloc | apply Kd.R_drewN | apply Kd.R_drew)); exact (Kd.R_mono (Kd.R_far (p := ⟨gb595, 1, none⟩) (Kd.R_far (p := ⟨gb595, 0, none⟩) (Kd.R_types HO578.out BK595.out (by decide)) (fun _ hk => hk.2) (.int .i64 t590)) (fun _ hk => hk.2) (.slice Ao57 t591.length co57)) (fun _ h_ => h_.1))) hb); replace HO582 := Aside0.mk (Kd.R_below (by (with_reducible repeat (first | apply Kd.R_alloc | apply Kd.R_drewN | apply Kd.R_drew)); exact (Kd.R_mono (Kd.R_far (p := ⟨gb595, 1, none⟩) (Kd.R_far (p := ⟨gb595, 0, none⟩) (Kd.R_types HO582.out BK595.out (by decide)) (fun _ hk => hk.2) (.int .i64 t590)) (fun _ hk => hk.2) (.slice Ao57 t591.length co57)) (fun _ h_ => h_.1))) hb); replace HO588 := Aside0.mk (Kd.R_below (by (with_reducible repeat (first | apply Kd.R_alloc | apply Kd.R_drewN | apply Kd.R_drew)); exact (Kd.R_mono (Kd.R_far (p := ⟨gb595, 1, none⟩) (Kd.R_far (p := ⟨gb595, 0, none⟩) (Kd.R_types HO588.out BK595.out (by decide)) (fun _ hk => hk.2) (.int .i64 t590)) (fun _ hk => hk.2) (.slice Ao57 t591.length co57)) (fun _ h_ => h_.1))) hb); replace HO593 := Aside0.mk (Kd.R_below (by (with_reducible repeat (first | apply Kd.R_alloc | apply Kd.R_drewN | apply Kd.R_drew)); exact (Kd.R_mono (Kd.R_far (p := ⟨gb595, 1, none⟩) (Kd.R_far (p := ⟨gb595, 0, none⟩) (Kd.R_types HO593.out BK595.out (by decide)) (fun _ hk => hk.2) (.int .i64 t590)) (fun _ hk => hk.2) (.slice Ao57 t591.length co57)) (fun _ h_ => h_.1))) hb); replace BK573 := Aside0.mk (blk_below (g := gb573) (o := .cells #[.int .i64 a0_0, .slice A0_1 l0_1.length c0_1] 49 (0, 0)) (by (with_reducible repeat (first | refine blk_drewN ?_ _ | refine blk_drew ?_ | refine blk_alloc ?_ _)); refine blk_far ?_ NB573_595.out _; (with_reducible repeat (first | refine blk_drewN ?_ _ | refine blk_drew ?_ | refine blk_alloc ?_ _)); refine blk_far ?_ NB573_595.out _; (with_reducible repeat (first | refine blk_drewN ?_ _ | refine blk_drew ?_ | refine blk_alloc ?_ _)); exact BK573.out) hb); replace BK584 := Aside0.mk (blk_below (g := gb584) (o := .cells #[.int .i64 t579, .slice Ao43 t580.length co43] 40 (0, 0)) (by (with_reducible repeat (first | refine blk_drewN ?_ _ | refine blk_drew ?_ | refine blk_alloc ?_ _)); refine blk_far ?_ NB584_595.out _; (with_reducible repeat (first | refine blk_drewN ?_ _ | refine blk_drew ?_ | refine blk_alloc ?_ _)); refine blk_far ?_ NB584_595.out _; (with_reducible repeat (first | refine blk_drewN ?_ _ | refine blk_drew ?_ | refine blk_alloc ?_ _)); exact BK584.out) hb); replace BK589 := Aside0.mk (blk_below (g := gb589) (o := .cells #[.int .i64 t585, .slice Ao50 t586.length co50] 40 (0, 0)) (by (with_reducible repeat (first | refine blk_drewN ?_ _ | refine blk_drew ?_ | refine blk_alloc ?_ _)); refine blk_far ?_ NB589_595.out _; (with_reducible repeat (first | refine blk_drewN ?_ _ | refine blk_drew ?_ | refine blk_alloc ?_ _)); refine blk_far ?_ NB589_595.out _; (with_reducible repeat (first | refine blk_drewN ?_ _ | refine blk_drew ?_ | refine blk_alloc ?_ _)); exact BK589.out) hb); replace BK595 := Aside0.mk (blk_below (g := gb595) (o := .cells #[.int .i64 t590, .slice Ao57 t591.length co57] 40 (0, 0)) (by (with_reducible repeat (first | refine blk_drewN ?_ _ | refine blk_drew ?_ | refine blk_alloc ?_ _)); refine blk_put (cs := #[.int .i64 t590, .slice none 0 0]) ?_ 1 _ rfl; (with_reducible repeat (first | refine blk_drewN ?_ _ | refine blk_drew ?_ | refine blk_alloc ?_ _)); refine blk_put (cs := #[.int .i64 0, .slice none 0 0]) ?_ 0 _ rfl; (with_reducible repeat (first | refine blk_drewN ?_ _ | refine blk_drew ?_ | refine blk_alloc ?_ _)); exact BK595.out) hb); replace HB := hS HB hb; (try clear hb); (try clear hb2); (try clear hk); (try clear hi)))
             replace HO578 := Aside0.mk (Kd.R_drew HO578.out)
             replace HO582 := Aside0.mk (Kd.R_drew HO582.out)
             replace HO588 := Aside0.mk (Kd.R_drew HO588.out)
             replace HO593 := Aside0.mk (Kd.R_drew HO593.out)
             replace BK573 := Aside0.mk (blk_drew BK573.out)
             replace BK584 := Aside0.mk (blk_drew BK584.out)
             replace BK589 := Aside0.mk (blk_drew BK589.out)
             replace BK595 := Aside0.mk (blk_drew BK595.out)
             replace HB := Aside0.mk (below_drew1 HB.out)
             refine start_ (n := 5) (S := fun w' => w'.cell? ⟨gb589, 0, none⟩ = some (.int .i64 t585) ∧ w'.cell? ⟨gb589, 1, none⟩ = some (.slice Ao50 t586.length co50) ∧ w'.cell? ⟨gb573, 0, none⟩ = some (.int .i64 a0_0) ∧ w'.cell? ⟨gb573, 1, none⟩ = some (.slice A0_1 l0_1.length c0_1)) (ds := []) (bz 5 0) (by kernel_rfl) rfl rfl ⟨(blk_cell BK589.out 0).trans rfl, (blk_cell BK589.out 1).trans rfl, (blk_cell BK573.out 0).trans rfl, (blk_cell BK573.out 1).trans rfl⟩ (fun hHeld => ?_)
             generalize w59.drew = w60 at HO578 HO582 HO588 HO593 BK573 BK584 BK589 BK595 HB hHeld ⊢
             refine run_ [(1, 0, 1, some 41), (1, 1, 3, some 42)] ?_
             repeat ((apply tag1; refine run_t (v := ?_) (a' := ?_) rfl rfl (by kernel_rfl) (fun _ _ _ h => h) (by rfl) ?_ hHeld ?_ ?_; rotate_left 2; (rintro w' ⟨s0, s1, s2, s3⟩; go_simp; with_reducible rfl); (first | (simp only [Act.put, List.setIfInBounds_toArray, List.set_cons_zero, List.set_cons_succ, i64_w, i32_w]; rfl) | rfl)))
             refine run_nil ?_
             refine one_ (i := 2) (N := some 43) (bz 5 7) rfl rfl (by kernel_rfl) (by decide) (fun K hK => ?_)
             refine goes_ Tryd.func28 (by kernel_rfl) rfl #[.agg #[.int .i64 a0_0, .slice A0_1 l0_1.length c0_1]] (by rfl) rfl rfl mapT ?_
             with_reducible refine (laws_toPuzzle.calls k a0_0 _ _ l0_1 t597 t598 _ ?side1 ?side2 A14.out).mono ?_
             (case side1 => exact cS (Kd.C_below HR0_1.out HB.out))
             (case side2 => exact HC0_1.out)
             rintro e w61 ⟨v599, rfl, ho0, hb⟩
             refine ⟨_, rfl, ?_⟩
             have HO600 := Aside0.mk (Kd.R_lower (Kd.R_new' (Kd.R_new' (Kd.R_new' (Kd.R_new' ho0 (Kd.R_lt (rU HO578))) (Kd.R_lt (rU HO582))) (Kd.R_lt (rU HO588))) (Kd.R_lt (rU HO593))) (below_size hB))
             replace HO578 := Aside0.mk (Kd.R_elder' (rU HO578) (Kd.R_base ho0) hb)
             replace HO582 := Aside0.mk (Kd.R_elder' (rU HO582) (Kd.R_base ho0) hb)
             replace HO588 := Aside0.mk (Kd.R_elder' (rU HO588) (Kd.R_base ho0) hb)
             replace HO593 := Aside0.mk (Kd.R_elder' (rU HO593) (Kd.R_base ho0) hb)
             replace BK573 := bS BK573 hb
             replace BK584 := bS BK584 hb
             replace BK589 := bS BK589 hb
             replace BK595 := bS BK595 hb
             replace HB := hS HB hb
             (try clear hb)
             (try clear hb2)
             (try clear hk)
             (try clear hi)
             (try clear ho0)
             obtain ⟨Ao62, co62, eo62⟩ := Kd.R_slice HO600.out
             (first | subst eo62 | (injection eo62 with f1_ f2_ f3_; have f4_ := f1_.symm; have f5_ := f3_.symm; clear f1_ f2_ f3_; subst f4_; subst f5_))
             refine hK.out _ _ ⟨(blk_cell BK589.out 0).trans rfl, (blk_cell BK589.out 1).trans rfl, (blk_cell BK573.out 0).trans rfl, (blk_cell BK573.out 1).trans rfl⟩ (fun hHeld => ?_)
             clear hK K
             refine norm_ (a' := ?_) ?_ ?_
             rotate_left
             ·show Act.put _ (some 43) _ = _
              simp only [Act.put, List.setIfInBounds_toArray, List.set_cons_zero, List.set_cons_succ, i64_w, i32_w]
              rfl
             refine one_ (i := 3) (N := some 44) (bz 5 15) rfl rfl (by kernel_rfl) (by decide) (fun K hK => ?_)
             refine goes_ Tryd.func22 (by kernel_rfl) rfl #[.agg #[.int .i64 t585, .slice Ao50 t586.length co50], .agg #[.int .i64 t597, .slice Ao62 t598.length co62]] (by rfl) rfl rfl mapT ?_
             with_reducible refine (laws_eqPuzzle.calls k t585 _ _ t586 t597 _ _ t598 true _ ?side1 ?side2 ?side3 ?side4 A15.out).mono ?_
             (case side1 => exact cS (Kd.R_reads' HO588.out).2.2)
             (case side2 => exact (Kd.R_reads' HO588.out).2.1)
             (case side3 => exact cS (Kd.R_reads' HO600.out).2.2)
             (case side4 => exact (Kd.R_reads' HO600.out).2.1)
             rintro e w63 ⟨rfl, hb⟩
             refine ⟨_, rfl, ?_⟩
             replace HO578 := Aside0.mk (Kd.R_below (rU HO578) hb)
             replace HO582 := Aside0.mk (Kd.R_below (rU HO582) hb)
             replace HO588 := Aside0.mk (Kd.R_below (rU HO588) hb)
             replace HO593 := Aside0.mk (Kd.R_below (rU HO593) hb)
             replace HO600 := Aside0.mk (Kd.R_below (rU HO600) hb)
             replace BK573 := bS BK573 hb
             replace BK584 := bS BK584 hb
             replace BK589 := bS BK589 hb
             replace BK595 := bS BK595 hb
             replace HB := hS HB hb
             (try clear hb)
             (try clear hb2)
             (try clear hk)
             (try clear hi)
             refine hK.out _ _ ⟨(blk_cell BK589.out 0).trans rfl, (blk_cell BK589.out 1).trans rfl, (blk_cell BK573.out 0).trans rfl, (blk_cell BK573.out 1).trans rfl⟩ (fun hHeld => ?_)
             clear hK K
             refine norm_ (a' := ?_) ?_ ?_
             rotate_left
             ·show Act.put _ (some 44) _ = _
              simp only [Act.put, List.setIfInBounds_toArray, List.set_cons_zero, List.set_cons_succ, i64_w, i32_w]
              rfl
             refine run_ [(0, 4, 31, some 45)] ?_
             repeat ((apply tag0; refine run_p (v := ?_) (a' := ?_) rfl rfl (by kernel_rfl) (fun _ _ _ h => h) (by rfl) ?_ ?_ ?_; rotate_left 2; (intro w'; go_simp; with_reducible rfl); (first | (simp only [Act.put, List.setIfInBounds_toArray, List.set_cons_zero, List.set_cons_succ, i64_w, i32_w]; rfl) | rfl)))
             refine run_nil ?_
             refine done_ (by kernel_rfl) ?_
             have hcz64_0 := cz BK589 0
             have hcz64_1 := cz BK589 1
             have hfz64_0 := fz BK589 0
             have hfz64_1 := fz BK589 1
             try go_wp2_with (first | ((with_reducible refine gate_callee (f := 24) rfl ?_); refine goC (N := some 48) Tryd.func24 #[.agg #[.int .i64 t585, .slice Ao50 t586.length co50], .int .i64 1] rfl ?_; (with_reducible refine (laws_markPuzzle.calls k t585 (fun k_ => some k_ = (.slice Ao50 t586.length co50 : Value).ownBlock) (.slice Ao50 t586.length co50) t586 1 t602 t603 w _ ?side1 ?side2 A17.out).mono ?_); (case side1 => repeat (first | (with_reducible first | exact HB.out | apply below_alloc | apply pw_below_drewN | apply below_drew1 | refine below_set ?_ GE573.out | refine below_set ?_ GE584.out | refine below_set ?_ GE589.out | refine below_set ?_ GE595.out) | exact HB.out)); (case side2 => exact Kd.R_tight rfl (rU HO588)); rintro e w65 ⟨rfl, hy0, hb, hkp⟩; refine ⟨_, rfl, ?_⟩; have n0_ := Aside0.mk (blk_kept bK hkp (fun hs_ => (fun e_ => (Kd.R_ne HO588.out BK573.out (by decide)) e_) hs_)); have n1_ := Aside0.mk (Kd.R_mono (ok' := fun k_ => some k_ ≠ (.slice Ao43 t580.length co43 : Value).ownBlock ∧ some k_ ≠ (.slice Ao50 t586.length co50 : Value).ownBlock ∧ some k_ ≠ (.slice Ao57 t591.length co57 : Value).ownBlock ∧ some k_ ≠ (.slice Ao62 t598.length co62 : Value).ownBlock) (Kd.R_keptB (rU HO578) hkp (fun k_ hk_ hs_ => pjn hk_ hs_)) (fun k_ hk_ => pj hk_)); have n2_ := Aside0.mk (Kd.R_mono (ok' := fun k_ => some k_ ≠ (.slice Ao38 t576.length co38 : Value).ownBlock ∧ some k_ ≠ (.slice Ao50 t586.length co50 : Value).ownBlock ∧ some k_ ≠ (.slice Ao57 t591.length co57 : Value).ownBlock ∧ some k_ ≠ (.slice Ao62 t598.length co62 : Value).ownBlock) (Kd.R_keptB (rU HO582) hkp (fun k_ hk_ hs_ => pjn hk_ hs_)) (fun k_ hk_ => pj hk_)); have n3_ := Aside0.mk (blk_kept bK hkp (fun hs_ => (fun e_ => (Kd.R_ne HO588.out BK584.out (by decide)) e_) hs_)); have n4_ := Aside0.mk (Kd.R_reok rfl hy0 (fun k_ e_ => HO588.out.1 k_ e_)); have n5_ := Aside0.mk (blk_kept bK hkp (fun hs_ => (fun e_ => (Kd.R_ne HO588.out BK589.out (by decide)) e_) hs_)); have n6_ := Aside0.mk (Kd.R_mono (ok' := fun k_ => some k_ ≠ (.slice Ao38 t576.length co38 : Value).ownBlock ∧ some k_ ≠ (.slice Ao43 t580.length co43 : Value).ownBlock ∧ some k_ ≠ (.slice Ao50 t586.length co50 : Value).ownBlock ∧ some k_ ≠ (.slice Ao62 t598.length co62 : Value).ownBlock) (Kd.R_keptB (rU HO593) hkp (fun k_ hk_ hs_ => pjn hk_ hs_)) (fun k_ hk_ => pj hk_)); have n7_ := Aside0.mk (blk_kept bK hkp (fun hs_ => (fun e_ => (Kd.R_ne HO588.out BK595.out (by decide)) e_) hs_)); have n8_ := Aside0.mk (Kd.R_mono (ok' := fun k_ => some k_ ≠ (.slice Ao38 t576.length co38 : Value).ownBlock ∧ some k_ ≠ (.slice Ao43 t580.length co43 : Value).ownBlock ∧ some k_ ≠ (.slice Ao50 t586.length co50 : Value).ownBlock ∧ some k_ ≠ (.slice Ao57 t591.length co57 : Value).ownBlock) (Kd.R_keptB (rU HO600) hkp (fun k_ hk_ hs_ => pjn hk_ hs_)) (fun k_ hk_ => pj hk_)); have n9_ := Aside0.mk (hb); clear BK573; clear HO578; clear HO582; clear BK584; clear HO588; clear BK589; clear HO593; clear BK595; clear HO600; clear HB; have BK573 := n0_; have HO578 := n1_; have HO582 := n2_; have BK584 := n3_; have HO588 := n4_; have BK589 := n5_; have HO593 := n6_; have BK595 := n7_; have HO600 := n8_; have HB := n9_; clear n0_ n1_ n2_ n3_ n4_ n5_ n6_ n7_ n8_ n9_; (try clear hb); (try clear hkp); (try clear hy0); have hcz66_0 := cz BK595 0; have hcz66_1 := cz BK595 1; have hfz66_0 := fz BK595 0; have hfz66_1 := fz BK595 1; have hcz67_0 := cz BK584 0; have hcz67_1 := cz BK584 1; have hfz67_0 := fz BK584 0; have hfz67_1 := fz BK584 1) | (go_at_call 22; (with_reducible refine (laws_eqPuzzle.calls k t590 _ _ t591 t579 _ _ t580 true _ ?side1 ?side2 ?side3 ?side4 A19.out).mono ?_); (case side1 => exact cS (Kd.R_reads' HO593.out).2.2); (case side2 => exact (Kd.R_reads' HO593.out).2.1); (case side3 => exact cS (Kd.R_reads' HO582.out).2.2); (case side4 => exact (Kd.R_reads' HO582.out).2.1); rintro e w68 ⟨rfl, hb⟩; replace HO578 := Aside0.mk (Kd.R_below (rU HO578) hb); replace HO582 := Aside0.mk (Kd.R_below (rU HO582) hb); replace HO588 := Aside0.mk (Kd.R_below (rU HO588) hb); replace HO593 := Aside0.mk (Kd.R_below (rU HO593) hb); replace HO600 := Aside0.mk (Kd.R_below (rU HO600) hb); replace BK573 := bS BK573 hb; replace BK584 := bS BK584 hb; replace BK589 := bS BK589 hb; replace BK595 := bS BK595 hb; replace HB := hS HB hb; (try clear hb); (try clear hb2); (try clear hk); (try clear hi); have hcz69_0 := cz BK595 0; have hcz69_1 := cz BK595 1; have hfz69_0 := fz BK595 0; have hfz69_1 := fz BK595 1) | ((with_reducible refine gate_callee (f := 24) rfl ?_); refine goC (N := some 64) Tryd.func24 #[.agg #[.int .i64 t590, .slice Ao57 t591.length co57], .int .i64 1] rfl ?_; (with_reducible refine (laws_markPuzzle.calls k t590 (fun k_ => some k_ = (.slice Ao57 t591.length co57 : Value).ownBlock) (.slice Ao57 t591.length co57) t591 1 t605 t606 w _ ?side1 ?side2 A21.out).mono ?_); (case side1 => repeat (first | (with_reducible first | exact HB.out | apply below_alloc | apply pw_below_drewN | apply below_drew1 | refine below_set ?_ GE573.out | refine below_set ?_ GE584.out | refine below_set ?_ GE589.out | refine below_set ?_ GE595.out) | exact HB.out)); (case side2 => exact Kd.R_tight rfl (rU HO593)); rintro e w70 ⟨rfl, hy0, hb, hkp⟩; refine ⟨_, rfl, ?_⟩; have n0_ := Aside0.mk (blk_kept bK hkp (fun hs_ => (fun e_ => (Kd.R_ne HO593.out BK573.out (by decide)) e_) hs_)); have n1_ := Aside0.mk (Kd.R_mono (ok' := fun k_ => some k_ ≠ (.slice Ao43 t580.length co43 : Value).ownBlock ∧ some k_ ≠ (.slice Ao50 t586.length co50 : Value).ownBlock ∧ some k_ ≠ (.slice Ao57 t591.length co57 : Value).ownBlock ∧ some k_ ≠ (.slice Ao62 t598.length co62 : Value).ownBlock) (Kd.R_keptB (rU HO578) hkp (fun k_ hk_ hs_ => pjn hk_ hs_)) (fun k_ hk_ => pj hk_)); have n2_ := Aside0.mk (Kd.R_mono (ok' := fun k_ => some k_ ≠ (.slice Ao38 t576.length co38 : Value).ownBlock ∧ some k_ ≠ (.slice Ao50 t586.length co50 : Value).ownBlock ∧ some k_ ≠ (.slice Ao57 t591.length co57 : Value).ownBlock ∧ some k_ ≠ (.slice Ao62 t598.length co62 : Value).ownBlock) (Kd.R_keptB (rU HO582) hkp (fun k_ hk_ hs_ => pjn hk_ hs_)) (fun k_ hk_ => pj hk_)); have n3_ := Aside0.mk (blk_kept bK hkp (fun hs_ => (fun e_ => (Kd.R_ne HO593.out BK584.out (by decide)) e_) hs_)); have n4_ := Aside0.mk (Kd.R_mono (ok' := fun k_ => some k_ ≠ (.slice Ao38 t576.length co38 : Value).ownBlock ∧ some k_ ≠ (.slice Ao43 t580.length co43 : Value).ownBlock ∧ some k_ ≠ (.slice Ao57 t591.length co57 : Value).ownBlock ∧ some k_ ≠ (.slice Ao62 t598.length co62 : Value).ownBlock) (Kd.R_keptB (rU HO588) hkp (fun k_ hk_ hs_ => pjn hk_ hs_)) (fun k_ hk_ => pj hk_)); have n5_ := Aside0.mk (blk_kept bK hkp (fun hs_ => (fun e_ => (Kd.R_ne HO593.out BK589.out (by decide)) e_) hs_)); have n6_ := Aside0.mk (Kd.R_reok rfl hy0 (fun k_ e_ => HO593.out.1 k_ e_)); have n7_ := Aside0.mk (blk_kept bK hkp (fun hs_ => (fun e_ => (Kd.R_ne HO593.out BK595.out (by decide)) e_) hs_)); have n8_ := Aside0.mk (Kd.R_mono (ok' := fun k_ => some k_ ≠ (.slice Ao38 t576.length co38 : Value).ownBlock ∧ some k_ ≠ (.slice Ao43 t580.length co43 : Value).ownBlock ∧ some k_ ≠ (.slice Ao50 t586.length co50 : Value).ownBlock ∧ some k_ ≠ (.slice Ao57 t591.length co57 : Value).ownBlock) (Kd.R_keptB (rU HO600) hkp (fun k_ hk_ hs_ => pjn hk_ hs_)) (fun k_ hk_ => pj hk_)); have n9_ := Aside0.mk (hb); clear BK573; clear HO578; clear HO582; clear BK584; clear HO588; clear BK589; clear HO593; clear BK595; clear HO600; clear HB; have BK573 := n0_; have HO578 := n1_; have HO582 := n2_; have BK584 := n3_; have HO588 := n4_; have BK589 := n5_; have HO593 := n6_; have BK595 := n7_; have HO600 := n8_; have HB := n9_; clear n0_ n1_ n2_ n3_ n4_ n5_ n6_ n7_ n8_ n9_; (try clear hb); (try clear hkp); (try clear hy0); have hcz71_0 := cz BK595 0; have hcz71_1 := cz BK595 1; have hfz71_0 := fz BK595 0; have hfz71_1 := fz BK595 1) | ((with_reducible refine gate_callee (f := 25) rfl ?_); refine goesL_ (some 67) rfl rfl Tryd.func25 (by kernel_rfl) rfl #[.agg #[.int .i64 t590, .slice Ao57 t606.length co57], .int .i64 1] rfl (by (try simp only [List.map_toArray, List.map_cons, List.map_nil]); first | done | (rw [show t606.length = t591.length from (Kd.R_reads' HO593.out).1.symm] <;> rfl) | rfl | (simp only [List.length_drop, List.length_take]; rfl)) ?_; (with_reducible refine (laws_heldPuzzle.calls k t590 _ _ t606 1 t607 _ ?side1 ?side2 A22.out).mono ?_); (case side1 => exact cS (Kd.R_reads' HO593.out).2.2); (case side2 => rw [show t606.length = t591.length from (Kd.R_reads' HO593.out).1.symm]; exact (Kd.R_reads' HO593.out).2.1); rintro e w72 ⟨rfl, hb⟩; refine ⟨_, rfl, ?_⟩; replace HO578 := Aside0.mk (Kd.R_below (rU HO578) hb); replace HO582 := Aside0.mk (Kd.R_below (rU HO582) hb); replace HO588 := Aside0.mk (Kd.R_below (rU HO588) hb); replace HO593 := Aside0.mk (Kd.R_below (rU HO593) hb); replace HO600 := Aside0.mk (Kd.R_below (rU HO600) hb); replace BK573 := bS BK573 hb; replace BK584 := bS BK584 hb; replace BK589 := bS BK589 hb; replace BK595 := bS BK595 hb; replace HB := hS HB hb; (try clear hb); (try clear hb2); (try clear hk); (try clear hi); have hcz73_0 := cz BK573 0; have hcz73_1 := cz BK573 1; have hfz73_0 := fz BK573 0; have hfz73_1 := fz BK573 1) | ((with_reducible refine gate_callee (f := 28) rfl ?_); refine goC (N := some 75) Tryd.func28 #[.agg #[.int .i64 a0_0, .slice A0_1 l0_1.length c0_1]] rfl ?_; (with_reducible refine (laws_toPuzzle.calls k a0_0 _ _ l0_1 t608 t609 _ ?side1 ?side2 A25.out).mono ?_); (case side1 => exact cS (Kd.C_below HR0_1.out HB.out)); (case side2 => exact HC0_1.out); rintro e w74 ⟨v610, rfl, ho0, hb⟩; refine ⟨_, rfl, ?_⟩; have HO611 := Aside0.mk (Kd.R_lower (Kd.R_new' (Kd.R_new' (Kd.R_new' (Kd.R_new' (Kd.R_new' ho0 (Kd.R_lt (rU HO578))) (Kd.R_lt (rU HO582))) (Kd.R_lt (rU HO588))) (Kd.R_lt (rU HO593))) (Kd.R_lt (rU HO600))) (below_size hB)); replace HO578 := Aside0.mk (Kd.R_elder' (rU HO578) (Kd.R_base ho0) hb); replace HO582 := Aside0.mk (Kd.R_elder' (rU HO582) (Kd.R_base ho0) hb); replace HO588 := Aside0.mk (Kd.R_elder' (rU HO588) (Kd.R_base ho0) hb); replace HO593 := Aside0.mk (Kd.R_elder' (rU HO593) (Kd.R_base ho0) hb); replace HO600 := Aside0.mk (Kd.R_elder' (rU HO600) (Kd.R_base ho0) hb); replace BK573 := bS BK573 hb; replace BK584 := bS BK584 hb; replace BK589 := bS BK589 hb; replace BK595 := bS BK595 hb; replace HB := hS HB hb; (try clear hb); (try clear hb2); (try clear hk); (try clear hi); (try clear ho0); obtain ⟨Ao75, co75, eo75⟩ := Kd.R_slice HO611.out; subst eo75) | ((with_reducible refine gate_callee (f := 40) rfl ?_); refine goC (N := some 76) Tryd.func40 #[.agg #[.int .i64 t608, .slice Ao75 t609.length co75]] rfl ?_; (with_reducible refine (impl_HarderPuzzle.calls k t608 _ _ t609 t612 t613 t616 _ ?side1 ?side2 A26.out).mono ?_); (case side1 => exact cS (Kd.R_reads' HO611.out).2.2); (case side2 => exact (Kd.R_reads' HO611.out).2.1); rintro e w76 ⟨v614, rfl, ho0, hb⟩; refine ⟨_, rfl, ?_⟩; have HO615 := Aside0.mk (Kd.R_lower (Kd.R_new' (Kd.R_new' (Kd.R_new' (Kd.R_new' (Kd.R_new' (Kd.R_new' ho0 (Kd.R_lt (rU HO578))) (Kd.R_lt (rU HO582))) (Kd.R_lt (rU HO588))) (Kd.R_lt (rU HO593))) (Kd.R_lt (rU HO600))) (Kd.R_lt (rU HO611))) (below_size hB)); replace HO578 := Aside0.mk (Kd.R_elder' (rU HO578) (Kd.R_base ho0) hb); replace HO582 := Aside0.mk (Kd.R_elder' (rU HO582) (Kd.R_base ho0) hb); replace HO588 := Aside0.mk (Kd.R_elder' (rU HO588) (Kd.R_base ho0) hb); replace HO593 := Aside0.mk (Kd.R_elder' (rU HO593) (Kd.R_base ho0) hb); replace HO600 := Aside0.mk (Kd.R_elder' (rU HO600) (Kd.R_base ho0) hb); replace HO611 := Aside0.mk (Kd.R_elder' (rU HO611) (Kd.R_base ho0) hb); replace BK573 := bS BK573 hb; replace BK584 := bS BK584 hb; replace BK589 := bS BK589 hb; replace BK595 := bS BK595 hb; replace HB := hS HB hb; (try clear hb); (try clear hb2); (try clear hk); (try clear hi); (try clear ho0)) | ((with_reducible refine gate_dst (N := 12) rfl ?_); refine bxE 12 #[.int .i64 0, .slice none 0 0] 40 rfl ?_; intro gb617 hg w77 hbox hb; have BK617 := Aside0.mk (hbox); have GW617 := gS HB hg; have GE617 := gS HB hg; have NB573_617 := nL BK573 hg; have NB617_573 := nG BK573 hg; have NB584_617 := nL BK584 hg; have NB617_584 := nG BK584 hg; have NB589_617 := nL BK589 hg; have NB617_589 := nG BK589 hg; have NB595_617 := nL BK595 hg; have NB617_595 := nG BK595 hg; replace HO578 := Aside0.mk (Kd.R_below (rU HO578) hb); replace HO582 := Aside0.mk (Kd.R_below (rU HO582) hb); replace HO588 := Aside0.mk (Kd.R_below (rU HO588) hb); replace HO593 := Aside0.mk (Kd.R_below (rU HO593) hb); replace HO600 := Aside0.mk (Kd.R_below (rU HO600) hb); replace HO611 := Aside0.mk (Kd.R_below (rU HO611) hb); replace HO615 := Aside0.mk (Kd.R_below (rU HO615) hb); replace BK573 := bS BK573 hb; replace BK584 := bS BK584 hb; replace BK589 := bS BK589 hb; replace BK595 := bS BK595 hb; replace HB := hS HB hb; clear hb hbox hg; have hnb78 := NB617_573.out; have hnc78 := NB573_617.out; have hnb79 := NB617_584.out; have hnc79 := NB584_617.out; have hnb80 := NB617_589.out; have hnc80 := NB589_617.out; have hnb81 := NB617_595.out; have hnc81 := NB595_617.out; have hcz82_0 := cz BK617 0; have hcz82_1 := cz BK617 1; have hfz82_0 := fz BK617 0; have hfz82_1 := fz BK617 1; obtain ⟨Ao83, co83, eo83⟩ := Kd.R_slice HO615.out; subst eo83; have hcz84_0 := cz BK584 0; have hcz84_1 := cz BK584 1; have hfz84_0 := fz BK584 0; have hfz84_1 := fz BK584 1) | ((with_reducible refine gate_callee (f := 22) rfl ?_); refine goC (N := some 81) Tryd.func22 #[.agg #[.int .i64 t612, .slice Ao83 t613.length co83], .agg #[.int .i64 t579, .slice Ao43 t580.length co43]] rfl ?_; (with_reducible refine (laws_eqPuzzle.calls k t612 _ _ t613 t579 _ _ t580 true _ ?side1 ?side2 ?side3 ?side4 A27.out).mono ?_); (case side1 => refine (Kd.R_reads' (e := 30) (base := w.heap.size) (ok := fun k_ => ((((((True ∧ some k_ ≠ (.slice Ao38 t576.length co38 : Value).ownBlock) ∧ some k_ ≠ (.slice Ao43 t580.length co43 : Value).ownBlock) ∧ some k_ ≠ (.slice Ao50 t586.length co50 : Value).ownBlock) ∧ some k_ ≠ (.slice Ao57 t591.length co57 : Value).ownBlock) ∧ some k_ ≠ (.slice Ao62 t598.length co62 : Value).ownBlock) ∧ some k_ ≠ (.slice Ao75 t609.length co75 : Value).ownBlock)) (n := t613.length) (c := co83) ?_).2.2; exact (by (with_reducible repeat (first | apply Kd.R_alloc | apply Kd.R_drewN | apply Kd.R_drew)); exact (Kd.R_mono (Kd.R_far (p := ⟨gb617, 1, none⟩) (Kd.R_far (p := ⟨gb617, 0, none⟩) (Kd.R_types HO615.out BK617.out (by decide)) (fun _ hk => hk.2) (.int .i64 t612)) (fun _ hk => hk.2) (.slice Ao83 t613.length co83)) (fun _ h_ => h_.1)))); (case side2 => exact (Kd.R_reads' HO615.out).2.1); (case side3 => refine (Kd.R_reads' (e := 30) (base := w.heap.size) (ok := fun k_ => (((some k_ ≠ (.slice Ao38 t576.length co38 : Value).ownBlock ∧ (some k_ ≠ (.slice Ao50 t586.length co50 : Value).ownBlock ∧ (some k_ ≠ (.slice Ao57 t591.length co57 : Value).ownBlock ∧ some k_ ≠ (.slice Ao62 t598.length co62 : Value).ownBlock))) ∧ some k_ ≠ (.slice Ao75 t609.length co75 : Value).ownBlock) ∧ some k_ ≠ (.slice Ao83 t613.length co83 : Value).ownBlock)) (n := t580.length) (c := co43) ?_).2.2; exact (by (with_reducible repeat (first | apply Kd.R_alloc | apply Kd.R_drewN | apply Kd.R_drew)); exact (Kd.R_mono (Kd.R_far (p := ⟨gb617, 1, none⟩) (Kd.R_far (p := ⟨gb617, 0, none⟩) (Kd.R_types HO582.out BK617.out (by decide)) (fun _ hk => hk.2) (.int .i64 t612)) (fun _ hk => hk.2) (.slice Ao83 t613.length co83)) (fun _ h_ => h_.1)))); (case side4 => exact (Kd.R_reads' HO582.out).2.1); rintro e w85 ⟨rfl, hb⟩; refine ⟨_, rfl, ?_⟩; replace HO578 := Aside0.mk (Kd.R_below (by (with_reducible repeat (first | apply Kd.R_alloc | apply Kd.R_drewN | apply Kd.R_drew)); exact (Kd.R_mono (Kd.R_far (p := ⟨gb617, 1, none⟩) (Kd.R_far (p := ⟨gb617, 0, none⟩) (Kd.R_types HO578.out BK617.out (by decide)) (fun _ hk => hk.2) (.int .i64 t612)) (fun _ hk => hk.2) (.slice Ao83 t613.length co83)) (fun _ h_ => h_.1))) hb); replace HO582 := Aside0.mk (Kd.R_below (by (with_reducible repeat (first | apply Kd.R_alloc | apply Kd.R_drewN | apply Kd.R_drew)); exact (Kd.R_mono (Kd.R_far (p := ⟨gb617, 1, none⟩) (Kd.R_far (p := ⟨gb617, 0, none⟩) (Kd.R_types HO582.out BK617.out (by decide)) (fun _ hk => hk.2) (.int .i64 t612)) (fun _ hk => hk.2) (.slice Ao83 t613.length co83)) (fun _ h_ => h_.1))) hb); replace HO588 := Aside0.mk (Kd.R_below (by (with_reducible repeat (first | apply Kd.R_alloc | apply Kd.R_drewN | apply Kd.R_drew)); exact (Kd.R_mono (Kd.R_far (p := ⟨gb617, 1, none⟩) (Kd.R_far (p := ⟨gb617, 0, none⟩) (Kd.R_types HO588.out BK617.out (by decide)) (fun _ hk => hk.2) (.int .i64 t612)) (fun _ hk => hk.2) (.slice Ao83 t613.length co83)) (fun _ h_ => h_.1))) hb); replace HO593 := Aside0.mk (Kd.R_below (by (with_reducible repeat (first | apply Kd.R_alloc | apply Kd.R_drewN | apply Kd.R_drew)); exact (Kd.R_mono (Kd.R_far (p := ⟨gb617, 1, none⟩) (Kd.R_far (p := ⟨gb617, 0, none⟩) (Kd.R_types HO593.out BK617.out (by decide)) (fun _ hk => hk.2) (.int .i64 t612)) (fun _ hk => hk.2) (.slice Ao83 t613.length co83)) (fun _ h_ => h_.1))) hb); replace HO600 := Aside0.mk (Kd.R_below (by (with_reducible repeat (first | apply Kd.R_alloc | apply Kd.R_drewN | apply Kd.R_drew)); exact (Kd.R_mono (Kd.R_far (p := ⟨gb617, 1, none⟩) (Kd.R_far (p := ⟨gb617, 0, none⟩) (Kd.R_types HO600.out BK617.out (by decide)) (fun _ hk => hk.2) (.int .i64 t612)) (fun _ hk => hk.2) (.slice Ao83 t613.length co83)) (fun _ h_ => h_.1))) hb); replace HO611 := Aside0.mk (Kd.R_below (by (with_reducible repeat (first | apply Kd.R_alloc | apply Kd.R_drewN | apply Kd.R_drew)); exact (Kd.R_mono (Kd.R_far (p := ⟨gb617, 1, none⟩) (Kd.R_far (p := ⟨gb617, 0, none⟩) (Kd.R_types HO611.out BK617.out (by decide)) (fun _ hk => hk.2) (.int .i64 t612)) (fun _ hk => hk.2) (.slice Ao83 t613.length co83)) (fun _ h_ => h_.1))) hb); replace HO615 := Aside0.mk (Kd.R_below (by (with_reducible repeat (first | apply Kd.R_alloc | apply Kd.R_drewN | apply Kd.R_drew)); exact (Kd.R_mono (Kd.R_far (p := ⟨gb617, 1, none⟩) (Kd.R_far (p := ⟨gb617, 0, none⟩) (Kd.R_types HO615.out BK617.out (by decide)) (fun _ hk => hk.2) (.int .i64 t612)) (fun _ hk => hk.2) (.slice Ao83 t613.length co83)) (fun _ h_ => h_.1))) hb); replace BK573 := Aside0.mk (blk_below (g := gb573) (o := .cells #[.int .i64 a0_0, .slice A0_1 l0_1.length c0_1] 49 (0, 0)) (by (with_reducible repeat (first | refine blk_drewN ?_ _ | refine blk_drew ?_ | refine blk_alloc ?_ _)); refine blk_far ?_ NB573_617.out _; (with_reducible repeat (first | refine blk_drewN ?_ _ | refine blk_drew ?_ | refine blk_alloc ?_ _)); refine blk_far ?_ NB573_617.out _; (with_reducible repeat (first | refine blk_drewN ?_ _ | refine blk_drew ?_ | refine blk_alloc ?_ _)); exact BK573.out) hb); replace BK584 := Aside0.mk (blk_below (g := gb584) (o := .cells #[.int .i64 t579, .slice Ao43 t580.length co43] 40 (0, 0)) (by (with_reducible repeat (first | refine blk_drewN ?_ _ | refine blk_drew ?_ | refine blk_alloc ?_ _)); refine blk_far ?_ NB584_617.out _; (with_reducible repeat (first | refine blk_drewN ?_ _ | refine blk_drew ?_ | refine blk_alloc ?_ _)); refine blk_far ?_ NB584_617.out _; (with_reducible repeat (first | refine blk_drewN ?_ _ | refine blk_drew ?_ | refine blk_alloc ?_ _)); exact BK584.out) hb); replace BK589 := Aside0.mk (blk_below (g := gb589) (o := .cells #[.int .i64 t585, .slice Ao50 t586.length co50] 40 (0, 0)) (by (with_reducible repeat (first | refine blk_drewN ?_ _ | refine blk_drew ?_ | refine blk_alloc ?_ _)); refine blk_far ?_ NB589_617.out _; (with_reducible repeat (first | refine blk_drewN ?_ _ | refine blk_drew ?_ | refine blk_alloc ?_ _)); refine blk_far ?_ NB589_617.out _; (with_reducible repeat (first | refine blk_drewN ?_ _ | refine blk_drew ?_ | refine blk_alloc ?_ _)); exact BK589.out) hb); replace BK595 := Aside0.mk (blk_below (g := gb595) (o := .cells #[.int .i64 t590, .slice Ao57 t591.length co57] 40 (0, 0)) (by (with_reducible repeat (first | refine blk_drewN ?_ _ | refine blk_drew ?_ | refine blk_alloc ?_ _)); refine blk_far ?_ NB595_617.out _; (with_reducible repeat (first | refine blk_drewN ?_ _ | refine blk_drew ?_ | refine blk_alloc ?_ _)); refine blk_far ?_ NB595_617.out _; (with_reducible repeat (first | refine blk_drewN ?_ _ | refine blk_drew ?_ | refine blk_alloc ?_ _)); exact BK595.out) hb); replace BK617 := Aside0.mk (blk_below (g := gb617) (o := .cells #[.int .i64 t612, .slice Ao83 t613.length co83] 40 (0, 0)) (by (with_reducible repeat (first | refine blk_drewN ?_ _ | refine blk_drew ?_ | refine blk_alloc ?_ _)); refine blk_put (cs := #[.int .i64 t612, .slice none 0 0]) ?_ 1 _ rfl; (with_reducible repeat (first | refine blk_drewN ?_ _ | refine blk_drew ?_ | refine blk_alloc ?_ _)); refine blk_put (cs := #[.int .i64 0, .slice none 0 0]) ?_ 0 _ rfl; (with_reducible repeat (first | refine blk_drewN ?_ _ | refine blk_drew ?_ | refine blk_alloc ?_ _)); exact BK617.out) hb); replace HB := hS HB hb; (try clear hb); (try clear hb2); (try clear hk); (try clear hi); have hcz86_0 := cz BK595 0; have hcz86_1 := cz BK595 1; have hfz86_0 := fz BK595 0; have hfz86_1 := fz BK595 1) | ((with_reducible refine gate_callee (f := 25) rfl ?_); refine goesL_ (some 90) rfl rfl Tryd.func25 (by kernel_rfl) rfl #[.agg #[.int .i64 t590, .slice Ao57 t606.length co57], .int .i64 1] rfl (by (try simp only [List.map_toArray, List.map_cons, List.map_nil]); first | done | (rw [show t606.length = t591.length from (Kd.R_reads' HO593.out).1.symm] <;> rfl) | rfl | (simp only [List.length_drop, List.length_take]; rfl)) ?_; (with_reducible refine (laws_heldPuzzle.calls k t590 _ _ t606 1 t619 _ ?side1 ?side2 A30.out).mono ?_); (case side1 => exact cS (Kd.R_reads' HO593.out).2.2); (case side2 => rw [show t606.length = t591.length from (Kd.R_reads' HO593.out).1.symm]; exact (Kd.R_reads' HO593.out).2.1); rintro e w87 ⟨rfl, hb⟩; refine ⟨_, rfl, ?_⟩; replace HO578 := Aside0.mk (Kd.R_below (rU HO578) hb); replace HO582 := Aside0.mk (Kd.R_below (rU HO582) hb); replace HO588 := Aside0.mk (Kd.R_below (rU HO588) hb); replace HO593 := Aside0.mk (Kd.R_below (rU HO593) hb); replace HO600 := Aside0.mk (Kd.R_below (rU HO600) hb); replace HO611 := Aside0.mk (Kd.R_below (rU HO611) hb); replace HO615 := Aside0.mk (Kd.R_below (rU HO615) hb); replace BK573 := bS BK573 hb; replace BK584 := bS BK584 hb; replace BK589 := bS BK589 hb; replace BK595 := bS BK595 hb; replace BK617 := bS BK617 hb; replace HB := hS HB hb; (try clear hb); (try clear hb2); (try clear hk); (try clear hi)))
             go_ret
             exact ⟨by first | rfl | (simp [errW_none, errW_some] <;> rfl) | (simp [*, errW_none, errW_some] <;> rfl), hB⟩
            ·rw [if_neg c32] at H
             exact absurd H (by simp)
         ·replace c28 := Bool.eq_false_iff.mpr c28
          subst c28
          have H1 : (none) = some r := by rw [if_neg (show ¬ (false = true) by decide)] at H; exact H
          clear H
          have H := H1
          clear H1
          exact absurd H (by simp)
        ·rw [if_neg c24] at H
         exact absurd H (by simp)
      ·replace c20 := Bool.eq_false_iff.mpr c20
       subst c20
       have H1 : (none) = some r := by rw [if_neg (show ¬ (false = true) by decide)] at H; exact H
       clear H
       have H := H1
       clear H1
       exact absurd H (by simp)
    ·replace c16 := Bool.eq_false_iff.mpr c16
     subst c16
     have H1 : (none) = some r := by rw [if_neg (show ¬ (false = true) by decide)] at H; exact H
     clear H
     have H := H1
     clear H1
     exact absurd H (by simp)
  ·replace c12 := Bool.eq_false_iff.mpr c12
   subst c12
   have H1 : (none) = some r := by rw [if_neg (show ¬ (false = true) by decide)] at H; exact H
   clear H
   have H := H1
   clear H1
   exact absurd H (by simp)

end Go.Proofs.YtdnkipagpagfiaaDoor.PSol2
