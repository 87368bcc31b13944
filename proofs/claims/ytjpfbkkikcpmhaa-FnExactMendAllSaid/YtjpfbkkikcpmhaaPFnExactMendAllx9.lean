-- Of this session's own program wip/gen/gen.py (it drives the kit's print): contracts of the functions that the law reaches.
import Derived.Test.YtjpfbkkikcpmhaaPFnExactMendAllx0
import Derived.Test.YtjpfbkkikcpmhaaPFnExactMendAllx1
import Derived.Test.YtjpfbkkikcpmhaaPFnExactMendAllx2
import Derived.Test.YtjpfbkkikcpmhaaPFnExactMendAllx5
import Derived.Test.YtjpfbkkikcpmhaaPFnExactMendAllx8
namespace Go.Proofs.Ytjpfbkkikcpmhaa.PFnExactMendAll
open Go.RowKit Go.Proofs.YtjpfbkkikcpmhaaW.PrintWords Go.Proofs.YtjpfbkkikcpmhaaW.PrintLast Go.Proofs.YtjpfbkkikcpmhaaW.PrintMore Go.Proofs.Ytjpfbkkikcpmhaa.Base
attribute [local go_sem] max2_int min2_int max_two min_two max_three min_three max_four min_four   -- for this text's walks alone
set_option linter.unusedVariables false
set_option linter.unusedSimpArgs false

/-! ### laws_FnExactMendAll: function 5 -/
def laws_FnExactMendAll.f (k : Nat) (a0_0 : Int) (l0_1 : List (S64)) (l1 : List Int) : Option (Bool) := if (l1.length : Int) > 1048576 then (some true) else ((laws_szParty.f a0_0 l0_1 1048576).bind fun t273 => (if t273 < 0 then (some true) else ((laws_toParty.f k a0_0 l0_1).bind fun bt274 => ((laws_toIntS.f k l1).bind fun t278 => ((spec_MendAll.f k bt274.1 bt274.2 t278).bind fun bt281 => ((laws_toParty.f k a0_0 l0_1).bind fun bt286 => ((laws_toIntS.f k l1).bind fun t291 => ((impl_MendAll.f k bt286.1 bt286.2 t291).bind fun bt294 => ((laws_eqIntS.f k bt294.1 bt281.1).bind fun t299 => (if t299 = true then (if bt294.2.1 = bt281.2.1 then (if (bt294.2.2 != bt281.2.2) = true then (none) else ((laws_toParty.f k a0_0 l0_1).bind fun bt300 => ((laws_eqParty.f k bt286.1 bt286.2 bt300.1 bt300.2).bind fun t304 => (if t304 = true then ((laws_toIntS.f k l1).bind fun t305 => ((laws_eqIntS.f k t291 t305).bind fun t308 => (if t308 = true then ((laws_markParty.f k bt286.1 bt286.2 1).bind fun bt309 => ((laws_markIntS.f k t291 bt309.1).bind fun bt311 => (if bt311.1 < 0 then (none) else ((laws_eqIntS.f k bt294.1 bt281.1).bind fun t313 => (if t313 = true then ((laws_markIntS.f k bt294.1 1).bind fun bt314 => ((laws_heldIntS.f k bt314.2 1).bind fun t316 => (if t316 < 0 then (none) else (if t316 = bt314.1 then ((laws_toParty.f k a0_0 l0_1).bind fun bt317 => ((laws_toIntS.f k l1).bind fun t321 => ((impl_MendAll.f k bt317.1 bt317.2 t321).bind fun bt324 => ((laws_eqIntS.f k bt324.1 bt281.1).bind fun t329 => (if t329 = true then (if bt324.2.1 = bt281.2.1 then (if (bt324.2.2 != bt281.2.2) = true then (none) else ((laws_heldIntS.f k bt314.2 1).bind fun t330 => (if t330 < 0 then (none) else (if t330 = bt314.1 then (some true) else (none))))) else (none)) else (none)))))) else (none))))) else (none)))))) else (none)))) else (none))))) else (none)) else (none)))))))))))
theorem laws_FnExactMendAll.mono : ∀ a0 a1 a2 k, LeO (laws_FnExactMendAll.f k a0 a1 a2) (laws_FnExactMendAll.f (k + 1) a0 a1 a2) := by
 intro a0 a1 a2 k
 unfold laws_FnExactMendAll.f
 repeat' first
   | (with_reducible exact impl_MendAll.mono _ _ _ _)
   | (with_reducible exact laws_eqIntS.mono _ _ _)
   | (with_reducible exact laws_eqParty.mono _ _ _ _ _)
   | (with_reducible exact laws_heldIntS.mono _ _ _)
   | (with_reducible exact laws_markIntS.mono _ _ _)
   | (with_reducible exact laws_markParty.mono _ _ _ _)
   | (with_reducible exact laws_toIntS.mono _ _)
   | (with_reducible exact laws_toParty.mono _ _ _)
   | (with_reducible exact spec_MendAll.mono _ _ _ _)
   | (with_reducible exact LeO.refl _)
   | (with_reducible exact LeO.none _)
   | (with_reducible refine LeO.ite ?_ ?_)
   | (with_reducible refine LeO.bind ?_ (fun _ => ?_))
   | exact impl_MendAll.mono _ _ _ _
   | exact laws_eqIntS.mono _ _ _
   | exact laws_eqParty.mono _ _ _ _ _
   | exact laws_heldIntS.mono _ _ _
   | exact laws_markIntS.mono _ _ _
   | exact laws_markParty.mono _ _ _ _
   | exact laws_toIntS.mono _ _
   | exact laws_toParty.mono _ _ _
   | exact spec_MendAll.mono _ _ _ _
   | exact LeO.none _
   | refine LeO.ite ?_ ?_
   | refine LeO.bind ?_ (fun _ => ?_)
set_option maxHeartbeats 8000000 in
set_option maxRecDepth 100000 in
theorem laws_FnExactMendAll.calls (k : Nat) (a0_0 : Int) (A0_1 : Option Addr) (c0_1 : Nat) (l0_1 : List (S64)) (A1 : Option Addr) (c1 : Nat) (l1 : List Int) (r : Bool) (w : World) (hr0_1 : Kd.C k64 w A0_1 l0_1.length l0_1) (hc0_1 : l0_1.length ≤ c0_1) (hr1 : Kd.C (Kd.int .i64) w A1 l1.length l1) (hc1 : l1.length ≤ c1) (h : laws_FnExactMendAll.f k a0_0 l0_1 l1 = some r) :
  Calls Try.prog 5 #[.agg #[.int .i64 a0_0, .slice A0_1 l0_1.length c0_1], .slice A1 l1.length c1] w fun e w' => e = .returned (.bool r) ∧ Below w.heap.size w w' := by
 have hu24 := Try.underlying24
 have hu31 := Try.underlying31
 have HR0_1 := Aside0.mk hr0_1
 have HC0_1 := Aside0.mk hc0_1
 clear hr0_1 hc0_1
 have HR1 := Aside0.mk hr1
 have HC1 := Aside0.mk hc1
 clear hr1 hc1
 have HB := Aside0.mk (Below.refl w.heap.size w)
 have H : (if (l1.length : Int) > 1048576 then (some true) else ((laws_szParty.f a0_0 l0_1 1048576).bind fun t273 => (if t273 < 0 then (some true) else ((laws_toParty.f k a0_0 l0_1).bind fun bt274 => ((laws_toIntS.f k l1).bind fun t278 => ((spec_MendAll.f k bt274.1 bt274.2 t278).bind fun bt281 => ((laws_toParty.f k a0_0 l0_1).bind fun bt286 => ((laws_toIntS.f k l1).bind fun t291 => ((impl_MendAll.f k bt286.1 bt286.2 t291).bind fun bt294 => ((laws_eqIntS.f k bt294.1 bt281.1).bind fun t299 => (if t299 = true then (if bt294.2.1 = bt281.2.1 then (if (bt294.2.2 != bt281.2.2) = true then (none) else ((laws_toParty.f k a0_0 l0_1).bind fun bt300 => ((laws_eqParty.f k bt286.1 bt286.2 bt300.1 bt300.2).bind fun t304 => (if t304 = true then ((laws_toIntS.f k l1).bind fun t305 => ((laws_eqIntS.f k t291 t305).bind fun t308 => (if t308 = true then ((laws_markParty.f k bt286.1 bt286.2 1).bind fun bt309 => ((laws_markIntS.f k t291 bt309.1).bind fun bt311 => (if bt311.1 < 0 then (none) else ((laws_eqIntS.f k bt294.1 bt281.1).bind fun t313 => (if t313 = true then ((laws_markIntS.f k bt294.1 1).bind fun bt314 => ((laws_heldIntS.f k bt314.2 1).bind fun t316 => (if t316 < 0 then (none) else (if t316 = bt314.1 then ((laws_toParty.f k a0_0 l0_1).bind fun bt317 => ((laws_toIntS.f k l1).bind fun t321 => ((impl_MendAll.f k bt317.1 bt317.2 t321).bind fun bt324 => ((laws_eqIntS.f k bt324.1 bt281.1).bind fun t329 => (if t329 = true then (if bt324.2.1 = bt281.2.1 then (if (bt324.2.2 != bt281.2.2) = true then (none) else ((laws_heldIntS.f k bt314.2 1).bind fun t330 => (if t330 < 0 then (none) else (if t330 = bt314.1 then (some true) else (none))))) else (none)) else (none)))))) else (none))))) else (none)))))) else (none)))) else (none))))) else (none)) else (none)))))))))))) = some r := h
 clear h
 by_cases c3 : (l1.length : Int) > 1048576
 ·rw [if_pos c3] at H
  have c3b0 : decide (1048576 < (l1.length : Int)) = true := decide_eq_true c3
  have c3b1 : decide (1048576 < l1.length) = true := decide_eq_true (by omega)
  clear c3
  obtain rfl := Option.some.inj H
  go_enter Try.func5, Try.ntmps5
  go_wp2_with (first | ((with_reducible refine gate_dst (N := 2) rfl ?_); refine bxE 2 #[.int .i64 a0_0, .slice A0_1 l0_1.length c0_1] 24 rfl ?_; intro gb272 hg w4 hbox hb; have BK272 := Aside0.mk (hbox); have GW272 := gS HB hg; have GE272 := gS HB hg; replace HB := hS HB hb; clear hb hbox hg))
  go_ret
  exact ⟨by first | rfl | (simp [errW_none, errW_some] <;> rfl) | (simp [*, errW_none, errW_some] <;> rfl), hB⟩
 ·rw [if_neg c3] at H
  have c3b0 : decide (1048576 < (l1.length : Int)) = false := decide_eq_false c3
  have c3b1 : decide (1048576 < l1.length) = false := decide_eq_false (by omega)
  clear c3
  replace H := Option.bind_eq_some_iff.mp H
  obtain ⟨t273, A50, H⟩ := H
  try dsimp only at H
  have A5 := Aside0.mk A50
  clear A50
  by_cases c6 : t273 < 0
  ·rw [if_pos c6] at H
   have c6b0 : decide (t273 < 0) = true := decide_eq_true c6
   clear c6
   obtain rfl := Option.some.inj H
   go_enter Try.func5, Try.ntmps5
   go_wp2_with (first | ((with_reducible refine gate_dst (N := 2) rfl ?_); refine bxE 2 #[.int .i64 a0_0, .slice A0_1 l0_1.length c0_1] 24 rfl ?_; intro gb272 hg w7 hbox hb; have BK272 := Aside0.mk (hbox); have GW272 := gS HB hg; have GE272 := gS HB hg; replace HB := hS HB hb; clear hb hbox hg; have hcz8_0 := cz BK272 0; have hcz8_1 := cz BK272 1; have hfz8_0 := fz BK272 0; have hfz8_1 := fz BK272 1) | ((with_reducible refine gate_callee (f := 6) rfl ?_); refine goC (N := some 25) Try.func6 #[.agg #[.int .i64 a0_0, .slice A0_1 l0_1.length c0_1], .int .i64 1048576] rfl ?_; (with_reducible refine (laws_szParty.calls a0_0 _ _ l0_1 1048576 t273 _ ?side1 ?side2 A5.out).mono ?_); (case side1 => exact cS (Kd.C_below HR0_1.out HB.out)); (case side2 => exact HC0_1.out); rintro e w9 ⟨rfl, hb⟩; refine ⟨_, rfl, ?_⟩; replace BK272 := bS BK272 hb; replace HB := hS HB hb; (try clear hb); (try clear hb2); (try clear hk); (try clear hi)))
   go_ret
   exact ⟨by first | rfl | (simp [errW_none, errW_some] <;> rfl) | (simp [*, errW_none, errW_some] <;> rfl), hB⟩
  ·rw [if_neg c6] at H
   have c6b0 : decide (t273 < 0) = false := decide_eq_false c6
   clear c6
   replace H := Option.bind_eq_some_iff.mp H
   obtain ⟨⟨t274, t275⟩, A100, H⟩ := H
   try dsimp only at H
   have A10 := Aside0.mk A100
   clear A100
   replace H := Option.bind_eq_some_iff.mp H
   obtain ⟨t278, A110, H⟩ := H
   try dsimp only at H
   have A11 := Aside0.mk A110
   clear A110
   replace H := Option.bind_eq_some_iff.mp H
   obtain ⟨⟨t281, t284, t285⟩, A120, H⟩ := H
   try dsimp only at H
   have A12 := Aside0.mk A120
   clear A120
   replace H := Option.bind_eq_some_iff.mp H
   obtain ⟨⟨t286, t287⟩, A130, H⟩ := H
   try dsimp only at H
   have A13 := Aside0.mk A130
   clear A130
   replace H := Option.bind_eq_some_iff.mp H
   obtain ⟨t291, A140, H⟩ := H
   try dsimp only at H
   have A14 := Aside0.mk A140
   clear A140
   replace H := Option.bind_eq_some_iff.mp H
   obtain ⟨⟨t294, t297, t298⟩, A150, H⟩ := H
   try dsimp only at H
   have A15 := Aside0.mk A150
   clear A150
   replace H := Option.bind_eq_some_iff.mp H
   obtain ⟨t299, A160, H⟩ := H
   try dsimp only at H
   have A16 := Aside0.mk A160
   clear A160
   by_cases c17 : t299 = true
   ·subst c17
    rw [if_pos rfl] at H
    by_cases c18 : t297 = t284
    ·rw [if_pos c18] at H
     have c18b0 : (t297 == t284) = true := beq_iff_eq.mpr c18
     have c18b1 : (t297 != t284) = false := bne_eq_false_iff_eq.mpr c18
     clear c18
     by_cases c19 : (t298 != t285) = true
     ·rw [if_pos c19] at H
      exact absurd H (by simp)
     ·rw [if_neg c19] at H
      have c19b0 : (t298 != t285) = false := by simpa using c19
      (try (have c19b1 : decide (t298 = t285) = true := by simpa using c19))
      (try (have c19b2 : (t298 == t285) = true := by simpa using c19))
      clear c19
      replace H := Option.bind_eq_some_iff.mp H
      obtain ⟨⟨t300, t301⟩, A200, H⟩ := H
      try dsimp only at H
      have A20 := Aside0.mk A200
      clear A200
      replace H := Option.bind_eq_some_iff.mp H
      obtain ⟨t304, A210, H⟩ := H
      try dsimp only at H
      have A21 := Aside0.mk A210
      clear A210
      by_cases c22 : t304 = true
      ·subst c22
       rw [if_pos rfl] at H
       replace H := Option.bind_eq_some_iff.mp H
       obtain ⟨t305, A230, H⟩ := H
       try dsimp only at H
       have A23 := Aside0.mk A230
       clear A230
       replace H := Option.bind_eq_some_iff.mp H
       obtain ⟨t308, A240, H⟩ := H
       try dsimp only at H
       have A24 := Aside0.mk A240
       clear A240
       by_cases c25 : t308 = true
       ·subst c25
        rw [if_pos rfl] at H
        replace H := Option.bind_eq_some_iff.mp H
        obtain ⟨⟨t309, t310⟩, A260, H⟩ := H
        try dsimp only at H
        have A26 := Aside0.mk A260
        clear A260
        replace H := Option.bind_eq_some_iff.mp H
        obtain ⟨⟨t311, t312⟩, A270, H⟩ := H
        try dsimp only at H
        have A27 := Aside0.mk A270
        clear A270
        by_cases c28 : t311 < 0
        ·rw [if_pos c28] at H
         exact absurd H (by simp)
        ·rw [if_neg c28] at H
         have c28b0 : decide (t311 < 0) = false := decide_eq_false c28
         clear c28
         replace H := Option.bind_eq_some_iff.mp H
         obtain ⟨t313, A290, H⟩ := H
         try dsimp only at H
         have A29 := Aside0.mk A290
         clear A290
         by_cases c30 : t313 = true
         ·subst c30
          rw [if_pos rfl] at H
          replace H := Option.bind_eq_some_iff.mp H
          obtain ⟨⟨t314, t315⟩, A310, H⟩ := H
          try dsimp only at H
          have A31 := Aside0.mk A310
          clear A310
          replace H := Option.bind_eq_some_iff.mp H
          obtain ⟨t316, A320, H⟩ := H
          try dsimp only at H
          have A32 := Aside0.mk A320
          clear A320
          by_cases c33 : t316 < 0
          ·rw [if_pos c33] at H
           exact absurd H (by simp)
          ·rw [if_neg c33] at H
           have c33b0 : decide (t316 < 0) = false := decide_eq_false c33
           clear c33
           by_cases c34 : t316 = t314
           ·rw [if_pos c34] at H
            have c34b0 : (t316 == t314) = true := beq_iff_eq.mpr c34
            have c34b1 : (t316 != t314) = false := bne_eq_false_iff_eq.mpr c34
            clear c34
            replace H := Option.bind_eq_some_iff.mp H
            obtain ⟨⟨t317, t318⟩, A350, H⟩ := H
            try dsimp only at H
            have A35 := Aside0.mk A350
            clear A350
            replace H := Option.bind_eq_some_iff.mp H
            obtain ⟨t321, A360, H⟩ := H
            try dsimp only at H
            have A36 := Aside0.mk A360
            clear A360
            replace H := Option.bind_eq_some_iff.mp H
            obtain ⟨⟨t324, t327, t328⟩, A370, H⟩ := H
            try dsimp only at H
            have A37 := Aside0.mk A370
            clear A370
            replace H := Option.bind_eq_some_iff.mp H
            obtain ⟨t329, A380, H⟩ := H
            try dsimp only at H
            have A38 := Aside0.mk A380
            clear A380
            by_cases c39 : t329 = true
            ·subst c39
             rw [if_pos rfl] at H
             by_cases c40 : t327 = t284
             ·rw [if_pos c40] at H
              have c40b0 : (t327 == t284) = true := beq_iff_eq.mpr c40
              have c40b1 : (t327 != t284) = false := bne_eq_false_iff_eq.mpr c40
              clear c40
              by_cases c41 : (t328 != t285) = true
              ·rw [if_pos c41] at H
               exact absurd H (by simp)
              ·rw [if_neg c41] at H
               have c41b0 : (t328 != t285) = false := by simpa using c41
               (try (have c41b1 : decide (t328 = t285) = true := by simpa using c41))
               (try (have c41b2 : (t328 == t285) = true := by simpa using c41))
               clear c41
               replace H := Option.bind_eq_some_iff.mp H
               obtain ⟨t330, A420, H⟩ := H
               try dsimp only at H
               have A42 := Aside0.mk A420
               clear A420
               by_cases c43 : t330 < 0
               ·rw [if_pos c43] at H
                exact absurd H (by simp)
               ·rw [if_neg c43] at H
                have c43b0 : decide (t330 < 0) = false := decide_eq_false c43
                clear c43
                by_cases c44 : t330 = t314
                ·rw [if_pos c44] at H
                 have c44b0 : (t330 == t314) = true := beq_iff_eq.mpr c44
                 have c44b1 : (t330 != t314) = false := bne_eq_false_iff_eq.mpr c44
                 clear c44
                 obtain rfl := Option.some.inj H
                 go_enter Try.func5, Try.ntmps5
                 try go_wp2_with (first | ((with_reducible refine gate_dst (N := 2) rfl ?_); refine bxE 2 #[.int .i64 a0_0, .slice A0_1 l0_1.length c0_1] 24 rfl ?_; intro gb272 hg w45 hbox hb; have BK272 := Aside0.mk (hbox); have GW272 := gS HB hg; have GE272 := gS HB hg; replace HB := hS HB hb; clear hb hbox hg; have hcz46_0 := cz BK272 0; have hcz46_1 := cz BK272 1; have hfz46_0 := fz BK272 0; have hfz46_1 := fz BK272 1) | ((with_reducible refine gate_callee (f := 6) rfl ?_); refine goC (N := some 25) Try.func6 #[.agg #[.int .i64 a0_0, .slice A0_1 l0_1.length c0_1], .int .i64 1048576] rfl ?_; (with_reducible refine (laws_szParty.calls a0_0 _ _ l0_1 1048576 t273 _ ?side1 ?side2 A5.out).mono ?_); (case side1 => exact cS (Kd.C_below HR0_1.out HB.out)); (case side2 => exact HC0_1.out); rintro e w47 ⟨rfl, hb⟩; refine ⟨_, rfl, ?_⟩; replace BK272 := bS BK272 hb; replace HB := hS HB hb; (try clear hb); (try clear hb2); (try clear hk); (try clear hi); have hcz48_0 := cz BK272 0; have hcz48_1 := cz BK272 1; have hfz48_0 := fz BK272 0; have hfz48_1 := fz BK272 1) | ((with_reducible refine gate_callee (f := 8) rfl ?_); refine goC (N := some 30) Try.func8 #[.agg #[.int .i64 a0_0, .slice A0_1 l0_1.length c0_1]] rfl ?_; (with_reducible refine (laws_toParty.calls k a0_0 _ _ l0_1 t274 t275 _ ?side1 ?side2 A10.out).mono ?_); (case side1 => exact cS (Kd.C_below HR0_1.out HB.out)); (case side2 => exact HC0_1.out); rintro e w49 ⟨v276, rfl, ho0, hb⟩; refine ⟨_, rfl, ?_⟩; have HO277 := Aside0.mk (Kd.R_lower ho0 (below_size hB)); replace BK272 := bS BK272 hb; replace HB := hS HB hb; (try clear hb); (try clear hb2); (try clear hk); (try clear hi); (try clear ho0)) | ((with_reducible refine gate_callee (f := 9) rfl ?_); refine goC (N := some 32) Try.func9 #[.slice A1 l1.length c1] rfl ?_; (with_reducible refine (laws_toIntS.calls k _ _ l1 t278 _ ?side1 ?side2 A11.out).mono ?_); (case side1 => exact cS (Kd.C_below HR1.out HB.out)); (case side2 => exact HC1.out); rintro e w50 ⟨v279, rfl, ho0, hb⟩; refine ⟨_, rfl, ?_⟩; have HO280 := Aside0.mk (Kd.R_lower ho0 (below_size hB)); replace HO277 := Aside0.mk (Kd.R_below (rU HO277) hb); replace BK272 := bS BK272 hb; replace HB := hS HB hb; (try clear hb); (try clear hb2); (try clear hk); (try clear hi); (try clear ho0); obtain ⟨Ao51, co51, eo51⟩ := Kd.R_slice HO277.out; subst eo51; obtain ⟨Ao52, co52, eo52⟩ := Kd.R_slice HO280.out; subst eo52) | ((with_reducible refine gate_callee (f := 18) rfl ?_); refine goC (N := some 33) Try.func18 #[.agg #[.int .i64 t274, .slice Ao51 t275.length co51], .slice Ao52 t278.length co52] rfl ?_; (with_reducible refine (spec_MendAll.calls k t274 _ _ t275 _ _ t278 t281 t284 t285 _ ?side1 ?side2 ?side3 ?side4 A12.out).mono ?_); (case side1 => exact cS (Kd.R_reads' HO277.out).2.2); (case side2 => exact (Kd.R_reads' HO277.out).2.1); (case side3 => exact cS (Kd.R_reads' HO280.out).2.2); (case side4 => exact (Kd.R_reads' HO280.out).2.1); rintro e w53 ⟨v282, rfl, ho0, hb⟩; refine ⟨_, rfl, ?_⟩; have HO283 := Aside0.mk (Kd.R_lower (Kd.R_new' ho0 (Kd.R_lt (rU HO280))) (below_size hB)); replace HO277 := Aside0.mk (Kd.R_below (rU HO277) hb); replace HO280 := Aside0.mk (Kd.R_elder' (rU HO280) (Kd.R_base ho0) hb); replace BK272 := bS BK272 hb; replace HB := hS HB hb; (try clear hb); (try clear hb2); (try clear hk); (try clear hi); (try clear ho0); have hcz54_0 := cz BK272 0; have hcz54_1 := cz BK272 1; have hfz54_0 := fz BK272 0; have hfz54_1 := fz BK272 1) | ((with_reducible refine gate_callee (f := 8) rfl ?_); refine goC (N := some 38) Try.func8 #[.agg #[.int .i64 a0_0, .slice A0_1 l0_1.length c0_1]] rfl ?_; (with_reducible refine (laws_toParty.calls k a0_0 _ _ l0_1 t286 t287 _ ?side1 ?side2 A13.out).mono ?_); (case side1 => exact cS (Kd.C_below HR0_1.out HB.out)); (case side2 => exact HC0_1.out); rintro e w55 ⟨v288, rfl, ho0, hb⟩; refine ⟨_, rfl, ?_⟩; have HO289 := Aside0.mk (Kd.R_lower (Kd.R_new' ho0 (Kd.R_lt (rU HO277))) (below_size hB)); replace HO277 := Aside0.mk (Kd.R_elder' (rU HO277) (Kd.R_base ho0) hb); replace HO280 := Aside0.mk (Kd.R_below (rU HO280) hb); replace HO283 := Aside0.mk (Kd.R_below (rU HO283) hb); replace BK272 := bS BK272 hb; replace HB := hS HB hb; (try clear hb); (try clear hb2); (try clear hk); (try clear hi); (try clear ho0)) | ((with_reducible refine gate_dst (N := 9) rfl ?_); refine bxE 9 #[.int .i64 0, .slice none 0 0] 31 rfl ?_; intro gb290 hg w56 hbox hb; have BK290 := Aside0.mk (hbox); have GW290 := gS HB hg; have GE290 := gS HB hg; have NB272_290 := nL BK272 hg; have NB290_272 := nG BK272 hg; replace HO277 := Aside0.mk (Kd.R_below (rU HO277) hb); replace HO280 := Aside0.mk (Kd.R_below (rU HO280) hb); replace HO283 := Aside0.mk (Kd.R_below (rU HO283) hb); replace HO289 := Aside0.mk (Kd.R_below (rU HO289) hb); replace BK272 := bS BK272 hb; replace HB := hS HB hb; clear hb hbox hg; have hnb57 := NB290_272.out; have hnc57 := NB272_290.out; have hcz58_0 := cz BK290 0; have hcz58_1 := cz BK290 1; have hfz58_0 := fz BK290 0; have hfz58_1 := fz BK290 1; obtain ⟨Ao59, co59, eo59⟩ := Kd.R_slice HO289.out; subst eo59) | ((with_reducible refine gate_callee (f := 9) rfl ?_); refine goC (N := some 40) Try.func9 #[.slice A1 l1.length c1] rfl ?_; (with_reducible refine (laws_toIntS.calls k _ _ l1 t291 _ ?side1 ?side2 A14.out).mono ?_); (case side1 => exact Kd.C_below HR1.out hB); (case side2 => exact HC1.out); rintro e w60 ⟨v292, rfl, ho0, hb⟩; refine ⟨_, rfl, ?_⟩; have HO293 := Aside0.mk (Kd.R_lower (Kd.R_new' (Kd.R_new' ho0 (Kd.R_lt (by (with_reducible repeat (first | apply Kd.R_alloc | apply Kd.R_drewN | apply Kd.R_drew)); exact (Kd.R_mono (Kd.R_far (p := ⟨gb290, 1, none⟩) (Kd.R_far (p := ⟨gb290, 0, none⟩) (Kd.R_types HO280.out BK290.out (by decide)) (fun _ hk => hk.2) (.int .i64 t286)) (fun _ hk => hk.2) (.slice Ao59 t287.length co59)) (fun _ h_ => h_.1))))) (Kd.R_lt (by (with_reducible repeat (first | apply Kd.R_alloc | apply Kd.R_drewN | apply Kd.R_drew)); exact (Kd.R_mono (Kd.R_far (p := ⟨gb290, 1, none⟩) (Kd.R_far (p := ⟨gb290, 0, none⟩) (Kd.R_types HO283.out BK290.out (by decide)) (fun _ hk => hk.2) (.int .i64 t286)) (fun _ hk => hk.2) (.slice Ao59 t287.length co59)) (fun _ h_ => h_.1))))) (below_size hB)); replace HO277 := Aside0.mk (Kd.R_below (by (with_reducible repeat (first | apply Kd.R_alloc | apply Kd.R_drewN | apply Kd.R_drew)); exact (Kd.R_mono (Kd.R_far (p := ⟨gb290, 1, none⟩) (Kd.R_far (p := ⟨gb290, 0, none⟩) (Kd.R_types HO277.out BK290.out (by decide)) (fun _ hk => hk.2) (.int .i64 t286)) (fun _ hk => hk.2) (.slice Ao59 t287.length co59)) (fun _ h_ => h_.1))) hb); replace HO280 := Aside0.mk (Kd.R_elder' (by (with_reducible repeat (first | apply Kd.R_alloc | apply Kd.R_drewN | apply Kd.R_drew)); exact (Kd.R_mono (Kd.R_far (p := ⟨gb290, 1, none⟩) (Kd.R_far (p := ⟨gb290, 0, none⟩) (Kd.R_types HO280.out BK290.out (by decide)) (fun _ hk => hk.2) (.int .i64 t286)) (fun _ hk => hk.2) (.slice Ao59 t287.length co59)) (fun _ h_ => h_.1))) (Kd.R_base ho0) hb); replace HO283 := Aside0.mk (Kd.R_elder' (by (with_reducible repeat (first | apply Kd.R_alloc | apply Kd.R_drewN | apply Kd.R_drew)); exact (Kd.R_mono (Kd.R_far (p := ⟨gb290, 1, none⟩) (Kd.R_far (p := ⟨gb290, 0, none⟩) (Kd.R_types HO283.out BK290.out (by decide)) (fun _ hk => hk.2) (.int .i64 t286)) (fun _ hk => hk.2) (.slice Ao59 t287.length co59)) (fun _ h_ => h_.1))) (Kd.R_base ho0) hb); replace HO289 := Aside0.mk (Kd.R_below (by (with_reducible repeat (first | apply Kd.R_alloc | apply Kd.R_drewN | apply Kd.R_drew)); exact (Kd.R_mono (Kd.R_far (p := ⟨gb290, 1, none⟩) (Kd.R_far (p := ⟨gb290, 0, none⟩) (Kd.R_types HO289.out BK290.out (by decide)) (fun _ hk => hk.2) (.int .i64 t286)) (fun _ hk => hk.2) (.slice Ao59 t287.length co59)) (fun _ h_ => h_.1))) hb); replace BK272 := Aside0.mk (blk_below (g := gb272) (o := .cells #[.int .i64 a0_0, .slice A0_1 l0_1.length c0_1] 24 (0, 0)) (by (with_reducible repeat (first | refine blk_drewN ?_ _ | refine blk_drew ?_ | refine blk_alloc ?_ _)); refine blk_far ?_ NB272_290.out _; (with_reducible repeat (first | refine blk_drewN ?_ _ | refine blk_drew ?_ | refine blk_alloc ?_ _)); refine blk_far ?_ NB272_290.out _; (with_reducible repeat (first | refine blk_drewN ?_ _ | refine blk_drew ?_ | refine blk_alloc ?_ _)); exact BK272.out) hb); replace BK290 := Aside0.mk (blk_below (g := gb290) (o := .cells #[.int .i64 t286, .slice Ao59 t287.length co59] 31 (0, 0)) (by (with_reducible repeat (first | refine blk_drewN ?_ _ | refine blk_drew ?_ | refine blk_alloc ?_ _)); refine blk_put (cs := #[.int .i64 t286, .slice none 0 0]) ?_ 1 _ rfl; (with_reducible repeat (first | refine blk_drewN ?_ _ | refine blk_drew ?_ | refine blk_alloc ?_ _)); refine blk_put (cs := #[.int .i64 0, .slice none 0 0]) ?_ 0 _ rfl; (with_reducible repeat (first | refine blk_drewN ?_ _ | refine blk_drew ?_ | refine blk_alloc ?_ _)); exact BK290.out) hb); replace HB := hS HB hb; (try clear hb); (try clear hb2); (try clear hk); (try clear hi); (try clear ho0); have hcz61_0 := cz BK290 0; have hcz61_1 := cz BK290 1; have hfz61_0 := fz BK290 0; have hfz61_1 := fz BK290 1; obtain ⟨Ao62, co62, eo62⟩ := Kd.R_slice HO293.out; subst eo62) | ((with_reducible refine gate_callee (f := 19) rfl ?_); refine goC (N := some 44) Try.func19 #[.agg #[.int .i64 t286, .slice Ao59 t287.length co59], .slice Ao62 t291.length co62] rfl ?_; (with_reducible refine (impl_MendAll.calls k t286 _ _ t287 _ _ t291 t294 t297 t298 _ ?side1 ?side2 ?side3 ?side4 A15.out).mono ?_); (case side1 => exact cS (Kd.R_reads' HO289.out).2.2); (case side2 => exact (Kd.R_reads' HO289.out).2.1); (case side3 => exact cS (Kd.R_reads' HO293.out).2.2); (case side4 => exact (Kd.R_reads' HO293.out).2.1); rintro e w63 ⟨v295, rfl, ho0, hb⟩; refine ⟨_, rfl, ?_⟩; have HO296 := Aside0.mk (Kd.R_lower (Kd.R_new' (Kd.R_new' (Kd.R_new' ho0 (Kd.R_lt (rU HO280))) (Kd.R_lt (rU HO283))) (Kd.R_lt (rU HO293))) (below_size hB)); replace HO277 := Aside0.mk (Kd.R_below (rU HO277) hb); replace HO280 := Aside0.mk (Kd.R_elder' (rU HO280) (Kd.R_base ho0) hb); replace HO283 := Aside0.mk (Kd.R_elder' (rU HO283) (Kd.R_base ho0) hb); replace HO289 := Aside0.mk (Kd.R_below (rU HO289) hb); replace HO293 := Aside0.mk (Kd.R_elder' (rU HO293) (Kd.R_base ho0) hb); replace BK272 := bS BK272 hb; replace BK290 := bS BK290 hb; replace HB := hS HB hb; (try clear hb); (try clear hb2); (try clear hk); (try clear hi); (try clear ho0); obtain ⟨Ao64, co64, eo64⟩ := Kd.R_slice HO296.out; subst eo64; obtain ⟨Ao65, co65, eo65⟩ := Kd.R_slice HO283.out; subst eo65) | ((with_reducible refine gate_callee (f := 12) rfl ?_); refine goC (N := some 50) Try.func12 #[.slice Ao64 t294.length co64, .slice Ao65 t281.length co65] rfl ?_; (with_reducible refine (laws_eqIntS.calls k _ _ t294 _ _ t281 true _ ?side1 ?side2 ?side3 ?side4 A16.out).mono ?_); (case side1 => exact cS (Kd.R_reads' HO296.out).2.2); (case side2 => exact (Kd.R_reads' HO296.out).2.1); (case side3 => exact cS (Kd.R_reads' HO283.out).2.2); (case side4 => exact (Kd.R_reads' HO283.out).2.1); rintro e w' ⟨rfl, ⟨nd, rfl⟩⟩; refine ⟨_, rfl, ?_⟩))
                 (try (rw [drewN_self w63]; generalize hq_ : World.drewN w63 _ = w63; have n0_ : Aside0 (Kd.R k62 62 w63 w.heap.size (fun k_ => some k_ ≠ (.slice Ao59 t287.length co59 : Value).ownBlock) (.slice Ao51 t275.length co51) t275) := ⟨by rw [← hq_]; exact (by (with_reducible repeat (first | apply Kd.R_alloc | apply Kd.R_drewN | apply Kd.R_drew)); exact Kd.R_mono HO277.out (fun _ hk => hk.2))⟩; have n1_ : Aside0 (Kd.R (Kd.int .i64) 3 w63 w.heap.size (fun k_ => some k_ ≠ (.slice Ao65 t281.length co65 : Value).ownBlock ∧ some k_ ≠ (.slice Ao62 t291.length co62 : Value).ownBlock ∧ some k_ ≠ (.slice Ao64 t294.length co64 : Value).ownBlock) (.slice Ao52 t278.length co52) t278) := ⟨by rw [← hq_]; exact (by (with_reducible repeat (first | apply Kd.R_alloc | apply Kd.R_drewN | apply Kd.R_drew)); exact Kd.R_mono HO280.out (fun _ hk => ⟨hk.1.1.2, ⟨hk.1.2, hk.2⟩⟩))⟩; have n2_ : Aside0 (Kd.R (Kd.int .i64) 3 w63 w.heap.size (fun k_ => some k_ ≠ (.slice Ao52 t278.length co52 : Value).ownBlock ∧ some k_ ≠ (.slice Ao62 t291.length co62 : Value).ownBlock ∧ some k_ ≠ (.slice Ao64 t294.length co64 : Value).ownBlock) (.slice Ao65 t281.length co65) t281) := ⟨by rw [← hq_]; exact (by (with_reducible repeat (first | apply Kd.R_alloc | apply Kd.R_drewN | apply Kd.R_drew)); exact Kd.R_mono HO283.out (fun _ hk => ⟨hk.1.1.2, ⟨hk.1.2, hk.2⟩⟩))⟩; have n3_ : Aside0 (Kd.R k62 62 w63 w.heap.size (fun k_ => some k_ ≠ (.slice Ao51 t275.length co51 : Value).ownBlock) (.slice Ao59 t287.length co59) t287) := ⟨by rw [← hq_]; exact (by (with_reducible repeat (first | apply Kd.R_alloc | apply Kd.R_drewN | apply Kd.R_drew)); exact Kd.R_mono HO289.out (fun _ hk => hk.2))⟩; have n4_ : Aside0 (Kd.R (Kd.int .i64) 3 w63 w.heap.size (fun k_ => some k_ ≠ (.slice Ao52 t278.length co52 : Value).ownBlock ∧ some k_ ≠ (.slice Ao65 t281.length co65 : Value).ownBlock ∧ some k_ ≠ (.slice Ao64 t294.length co64 : Value).ownBlock) (.slice Ao62 t291.length co62) t291) := ⟨by rw [← hq_]; exact (by (with_reducible repeat (first | apply Kd.R_alloc | apply Kd.R_drewN | apply Kd.R_drew)); exact Kd.R_mono HO293.out (fun _ hk => ⟨hk.1.1.2, ⟨hk.1.2, hk.2⟩⟩))⟩; have n5_ : Aside0 (Kd.R (Kd.int .i64) 3 w63 w.heap.size (fun k_ => some k_ ≠ (.slice Ao52 t278.length co52 : Value).ownBlock ∧ some k_ ≠ (.slice Ao65 t281.length co65 : Value).ownBlock ∧ some k_ ≠ (.slice Ao62 t291.length co62 : Value).ownBlock) (.slice Ao64 t294.length co64) t294) := ⟨by rw [← hq_]; exact (by (with_reducible repeat (first | apply Kd.R_alloc | apply Kd.R_drewN | apply Kd.R_drew)); exact Kd.R_mono HO296.out (fun _ hk => ⟨hk.1.1.2, ⟨hk.1.2, hk.2⟩⟩))⟩; have n6_ : Aside0 (w63.heap[gb272]? = some (.cells #[.int .i64 a0_0, .slice A0_1 l0_1.length c0_1] 24 (0, 0))) := ⟨by rw [← hq_]; exact bK⟩; have n7_ : Aside0 (w63.heap[gb290]? = some (.cells #[.int .i64 t286, .slice Ao59 t287.length co59] 31 (0, 0))) := ⟨by rw [← hq_]; exact bK⟩; have n8_ : Aside0 (Below w.heap.size w w63) := ⟨by rw [← hq_]; exact hB⟩; clear HO277 HO280 HO283 HO289 HO293 HO296 BK272 BK290 HB hq_; have HO277 := n0_; have HO280 := n1_; have HO283 := n2_; have HO289 := n3_; have HO293 := n4_; have HO296 := n5_; have BK272 := n6_; have BK290 := n7_; have HB := n8_; clear n0_ n1_ n2_ n3_ n4_ n5_ n6_ n7_ n8_))
                 replace HO277 := Aside0.mk (Kd.R_drew HO277.out)
                 replace HO280 := Aside0.mk (Kd.R_drew HO280.out)
                 replace HO283 := Aside0.mk (Kd.R_drew HO283.out)
                 replace HO289 := Aside0.mk (Kd.R_drew HO289.out)
                 replace HO293 := Aside0.mk (Kd.R_drew HO293.out)
                 replace HO296 := Aside0.mk (Kd.R_drew HO296.out)
                 replace BK272 := Aside0.mk (blk_drew BK272.out)
                 replace BK290 := Aside0.mk (blk_drew BK290.out)
                 replace HB := Aside0.mk (below_drew1 HB.out)
                 refine start_ (n := 5) (S := fun w' => w'.cell? ⟨gb290, 0, none⟩ = some (.int .i64 t286) ∧ w'.cell? ⟨gb290, 1, none⟩ = some (.slice Ao59 t287.length co59) ∧ w'.cell? ⟨gb272, 0, none⟩ = some (.int .i64 a0_0) ∧ w'.cell? ⟨gb272, 1, none⟩ = some (.slice A0_1 l0_1.length c0_1)) (ds := []) (bz 5 0) (by kernel_rfl) rfl rfl ⟨(blk_cell BK290.out 0).trans rfl, (blk_cell BK290.out 1).trans rfl, (blk_cell BK272.out 0).trans rfl, (blk_cell BK272.out 1).trans rfl⟩ (fun hHeld => ?_)
                 generalize w63.drew = w66 at HO277 HO280 HO283 HO289 HO293 HO296 BK272 BK290 HB hHeld ⊢
                 refine run_ [(1, 0, 1, some 62), (1, 1, 3, some 63)] ?_
                 repeat ((apply tag1; refine run_t (v := ?_) (a' := ?_) rfl rfl (by kernel_rfl) (fun _ _ _ h => h) (by rfl) ?_ hHeld ?_ ?_; rotate_left 2; (rintro w' ⟨s0, s1, s2, s3⟩; go_simp; with_reducible rfl); (first | (simp only [Act.put, List.setIfInBounds_toArray, List.set_cons_zero, List.set_cons_succ, i64_w, i32_w]; rfl) | rfl)))
                 refine run_nil ?_
                 refine one_ (i := 2) (N := some 64) (bz 5 7) rfl rfl (by kernel_rfl) (by decide) (fun K hK => ?_)
                 refine goes_ Try.func8 (by kernel_rfl) rfl #[.agg #[.int .i64 a0_0, .slice A0_1 l0_1.length c0_1]] (by rfl) rfl rfl mapT ?_
                 with_reducible refine (laws_toParty.calls k a0_0 _ _ l0_1 t300 t301 _ ?side1 ?side2 A20.out).mono ?_
                 (case side1 => exact cS (Kd.C_below HR0_1.out HB.out))
                 (case side2 => exact HC0_1.out)
                 rintro e w67 ⟨v302, rfl, ho0, hb⟩
                 refine ⟨_, rfl, ?_⟩
                 have HO303 := Aside0.mk (Kd.R_lower (Kd.R_new' (Kd.R_new' ho0 (Kd.R_lt (rU HO277))) (Kd.R_lt (rU HO289))) (below_size hB))
                 replace HO277 := Aside0.mk (Kd.R_elder' (rU HO277) (Kd.R_base ho0) hb)
                 replace HO280 := Aside0.mk (Kd.R_below (rU HO280) hb)
                 replace HO283 := Aside0.mk (Kd.R_below (rU HO283) hb)
                 replace HO289 := Aside0.mk (Kd.R_elder' (rU HO289) (Kd.R_base ho0) hb)
                 replace HO293 := Aside0.mk (Kd.R_below (rU HO293) hb)
                 replace HO296 := Aside0.mk (Kd.R_below (rU HO296) hb)
                 replace BK272 := bS BK272 hb
                 replace BK290 := bS BK290 hb
                 replace HB := hS HB hb
                 (try clear hb)
                 (try clear hb2)
                 (try clear hk)
                 (try clear hi)
                 (try clear ho0)
                 obtain ⟨Ao68, co68, eo68⟩ := Kd.R_slice HO303.out
                 (first | subst eo68 | (injection eo68 with f1_ f2_ f3_; have f4_ := f1_.symm; have f5_ := f3_.symm; clear f1_ f2_ f3_; subst f4_; subst f5_))
                 refine hK.out _ _ ⟨(blk_cell BK290.out 0).trans rfl, (blk_cell BK290.out 1).trans rfl, (blk_cell BK272.out 0).trans rfl, (blk_cell BK272.out 1).trans rfl⟩ (fun hHeld => ?_)
                 clear hK K
                 refine norm_ (a' := ?_) ?_ ?_
                 rotate_left
                 ·show Act.put _ (some 64) _ = _
                  simp only [Act.put, List.setIfInBounds_toArray, List.set_cons_zero, List.set_cons_succ, i64_w, i32_w]
                  rfl
                 refine one_ (i := 3) (N := some 65) (bz 5 15) rfl rfl (by kernel_rfl) (by decide) (fun K hK => ?_)
                 refine goes_ Try.func11 (by kernel_rfl) rfl #[.agg #[.int .i64 t286, .slice Ao59 t287.length co59], .agg #[.int .i64 t300, .slice Ao68 t301.length co68]] (by rfl) rfl rfl mapT ?_
                 with_reducible refine (laws_eqParty.calls k t286 _ _ t287 t300 _ _ t301 true _ ?side1 ?side2 ?side3 ?side4 A21.out).mono ?_
                 (case side1 => exact cS (Kd.R_reads' HO289.out).2.2)
                 (case side2 => exact (Kd.R_reads' HO289.out).2.1)
                 (case side3 => exact cS (Kd.R_reads' HO303.out).2.2)
                 (case side4 => exact (Kd.R_reads' HO303.out).2.1)
                 rintro e w69 ⟨rfl, hb⟩
                 refine ⟨_, rfl, ?_⟩
                 replace HO277 := Aside0.mk (Kd.R_below (rU HO277) hb)
                 replace HO280 := Aside0.mk (Kd.R_below (rU HO280) hb)
                 replace HO283 := Aside0.mk (Kd.R_below (rU HO283) hb)
                 replace HO289 := Aside0.mk (Kd.R_below (rU HO289) hb)
                 replace HO293 := Aside0.mk (Kd.R_below (rU HO293) hb)
                 replace HO296 := Aside0.mk (Kd.R_below (rU HO296) hb)
                 replace HO303 := Aside0.mk (Kd.R_below (rU HO303) hb)
                 replace BK272 := bS BK272 hb
                 replace BK290 := bS BK290 hb
                 replace HB := hS HB hb
                 (try clear hb)
                 (try clear hb2)
                 (try clear hk)
                 (try clear hi)
                 refine hK.out _ _ ⟨(blk_cell BK290.out 0).trans rfl, (blk_cell BK290.out 1).trans rfl, (blk_cell BK272.out 0).trans rfl, (blk_cell BK272.out 1).trans rfl⟩ (fun hHeld => ?_)
                 clear hK K
                 refine norm_ (a' := ?_) ?_ ?_
                 rotate_left
                 ·show Act.put _ (some 65) _ = _
                  simp only [Act.put, List.setIfInBounds_toArray, List.set_cons_zero, List.set_cons_succ, i64_w, i32_w]
                  rfl
                 refine run_ [(0, 4, 31, some 66)] ?_
                 repeat ((apply tag0; refine run_p (v := ?_) (a' := ?_) rfl rfl (by kernel_rfl) (fun _ _ _ h => h) (by rfl) ?_ ?_ ?_; rotate_left 2; (intro w'; go_simp; with_reducible rfl); (first | (simp only [Act.put, List.setIfInBounds_toArray, List.set_cons_zero, List.set_cons_succ, i64_w, i32_w]; rfl) | rfl)))
                 refine run_nil ?_
                 refine done_ (by kernel_rfl) ?_
                 try go_wp2_with (first | ((with_reducible refine gate_callee (f := 9) rfl ?_); refine goC (N := some 69) Try.func9 #[.slice A1 l1.length c1] rfl ?_; (with_reducible refine (laws_toIntS.calls k _ _ l1 t305 _ ?side1 ?side2 A23.out).mono ?_); (case side1 => exact cS (Kd.C_below HR1.out HB.out)); (case side2 => exact HC1.out); rintro e w70 ⟨v306, rfl, ho0, hb⟩; refine ⟨_, rfl, ?_⟩; have HO307 := Aside0.mk (Kd.R_lower (Kd.R_new' (Kd.R_new' (Kd.R_new' (Kd.R_new' ho0 (Kd.R_lt (rU HO280))) (Kd.R_lt (rU HO283))) (Kd.R_lt (rU HO293))) (Kd.R_lt (rU HO296))) (below_size hB)); replace HO277 := Aside0.mk (Kd.R_below (rU HO277) hb); replace HO280 := Aside0.mk (Kd.R_elder' (rU HO280) (Kd.R_base ho0) hb); replace HO283 := Aside0.mk (Kd.R_elder' (rU HO283) (Kd.R_base ho0) hb); replace HO289 := Aside0.mk (Kd.R_below (rU HO289) hb); replace HO293 := Aside0.mk (Kd.R_elder' (rU HO293) (Kd.R_base ho0) hb); replace HO296 := Aside0.mk (Kd.R_elder' (rU HO296) (Kd.R_base ho0) hb); replace HO303 := Aside0.mk (Kd.R_below (rU HO303) hb); replace BK272 := bS BK272 hb; replace BK290 := bS BK290 hb; replace HB := hS HB hb; (try clear hb); (try clear hb2); (try clear hk); (try clear hi); (try clear ho0); obtain ⟨Ao71, co71, eo71⟩ := Kd.R_slice HO307.out; subst eo71) | ((with_reducible refine gate_callee (f := 12) rfl ?_); refine goC (N := some 70) Try.func12 #[.slice Ao62 t291.length co62, .slice Ao71 t305.length co71] rfl ?_; (with_reducible refine (laws_eqIntS.calls k _ _ t291 _ _ t305 true _ ?side1 ?side2 ?side3 ?side4 A24.out).mono ?_); (case side1 => exact cS (Kd.R_reads' HO293.out).2.2); (case side2 => exact (Kd.R_reads' HO293.out).2.1); (case side3 => exact cS (Kd.R_reads' HO307.out).2.2); (case side4 => exact (Kd.R_reads' HO307.out).2.1); rintro e w' ⟨rfl, ⟨nd, rfl⟩⟩; refine ⟨_, rfl, ?_⟩; have hcz72_0 := cz BK290 0; have hcz72_1 := cz BK290 1; have hfz72_0 := fz BK290 0; have hfz72_1 := fz BK290 1) | ((with_reducible refine gate_callee (f := 15) rfl ?_); refine goC (N := some 74) Try.func15 #[.agg #[.int .i64 t286, .slice Ao59 t287.length co59], .int .i64 1] rfl ?_; (with_reducible refine (laws_markParty.calls k t286 (fun k_ => some k_ = (.slice Ao59 t287.length co59 : Value).ownBlock) (.slice Ao59 t287.length co59) t287 1 t309 t310 w _ ?side1 ?side2 A26.out).mono ?_); (case side1 => repeat (first | (with_reducible first | exact HB.out | apply below_alloc | apply pw_below_drewN | apply below_drew1 | refine below_set ?_ GE272.out | refine below_set ?_ GE290.out) | exact HB.out)); (case side2 => exact Kd.R_tight rfl (rU HO289)); rintro e w73 ⟨rfl, hy0, hb, hkp⟩; refine ⟨_, rfl, ?_⟩; have n0_ := Aside0.mk (blk_kept bK hkp (fun hs_ => (fun e_ => (Kd.R_ne HO289.out BK272.out (by decide)) e_) hs_)); have n1_ := Aside0.mk (Kd.R_mono (ok' := fun k_ => some k_ ≠ (.slice Ao59 t287.length co59 : Value).ownBlock ∧ some k_ ≠ (.slice Ao68 t301.length co68 : Value).ownBlock) (Kd.R_keptB (rU HO277) hkp (fun k_ hk_ hs_ => pjn hk_ hs_)) (fun k_ hk_ => pj hk_)); have n2_ := Aside0.mk (Kd.R_mono (ok' := fun k_ => some k_ ≠ (.slice Ao65 t281.length co65 : Value).ownBlock ∧ some k_ ≠ (.slice Ao62 t291.length co62 : Value).ownBlock ∧ some k_ ≠ (.slice Ao64 t294.length co64 : Value).ownBlock ∧ some k_ ≠ (.slice Ao71 t305.length co71 : Value).ownBlock) (Kd.R_keptB ((Kd.R_apart' (rU HO280) (Kd.R_typed (rU HO289)) (by decide))) hkp (fun k_ hk_ hs_ => pjn hk_ hs_)) (fun k_ hk_ => pj hk_)); have n3_ := Aside0.mk (Kd.R_mono (ok' := fun k_ => some k_ ≠ (.slice Ao52 t278.length co52 : Value).ownBlock ∧ some k_ ≠ (.slice Ao62 t291.length co62 : Value).ownBlock ∧ some k_ ≠ (.slice Ao64 t294.length co64 : Value).ownBlock ∧ some k_ ≠ (.slice Ao71 t305.length co71 : Value).ownBlock) (Kd.R_keptB ((Kd.R_apart' (rU HO283) (Kd.R_typed (rU HO289)) (by decide))) hkp (fun k_ hk_ hs_ => pjn hk_ hs_)) (fun k_ hk_ => pj hk_)); have n4_ := Aside0.mk (Kd.R_reok rfl hy0 (fun k_ e_ => HO289.out.1 k_ e_)); have n5_ := Aside0.mk (blk_kept bK hkp (fun hs_ => (fun e_ => (Kd.R_ne HO289.out BK290.out (by decide)) e_) hs_)); have n6_ := Aside0.mk (Kd.R_mono (ok' := fun k_ => some k_ ≠ (.slice Ao52 t278.length co52 : Value).ownBlock ∧ some k_ ≠ (.slice Ao65 t281.length co65 : Value).ownBlock ∧ some k_ ≠ (.slice Ao64 t294.length co64 : Value).ownBlock ∧ some k_ ≠ (.slice Ao71 t305.length co71 : Value).ownBlock) (Kd.R_keptB ((Kd.R_apart' (rU HO293) (Kd.R_typed (rU HO289)) (by decide))) hkp (fun k_ hk_ hs_ => pjn hk_ hs_)) (fun k_ hk_ => pj hk_)); have n7_ := Aside0.mk (Kd.R_mono (ok' := fun k_ => some k_ ≠ (.slice Ao52 t278.length co52 : Value).ownBlock ∧ some k_ ≠ (.slice Ao65 t281.length co65 : Value).ownBlock ∧ some k_ ≠ (.slice Ao62 t291.length co62 : Value).ownBlock ∧ some k_ ≠ (.slice Ao71 t305.length co71 : Value).ownBlock) (Kd.R_keptB ((Kd.R_apart' (rU HO296) (Kd.R_typed (rU HO289)) (by decide))) hkp (fun k_ hk_ hs_ => pjn hk_ hs_)) (fun k_ hk_ => pj hk_)); have n8_ := Aside0.mk (Kd.R_mono (ok' := fun k_ => some k_ ≠ (.slice Ao51 t275.length co51 : Value).ownBlock ∧ some k_ ≠ (.slice Ao59 t287.length co59 : Value).ownBlock) (Kd.R_keptB (rU HO303) hkp (fun k_ hk_ hs_ => pjn hk_ hs_)) (fun k_ hk_ => pj hk_)); have n9_ := Aside0.mk (Kd.R_mono (ok' := fun k_ => some k_ ≠ (.slice Ao52 t278.length co52 : Value).ownBlock ∧ some k_ ≠ (.slice Ao65 t281.length co65 : Value).ownBlock ∧ some k_ ≠ (.slice Ao62 t291.length co62 : Value).ownBlock ∧ some k_ ≠ (.slice Ao64 t294.length co64 : Value).ownBlock) (Kd.R_keptB ((Kd.R_apart' (rU HO307) (Kd.R_typed (rU HO289)) (by decide))) hkp (fun k_ hk_ hs_ => pjn hk_ hs_)) (fun k_ hk_ => pj hk_)); have n10_ := Aside0.mk (hb); clear BK272; clear HO277; clear HO280; clear HO283; clear HO289; clear BK290; clear HO293; clear HO296; clear HO303; clear HO307; clear HB; have BK272 := n0_; have HO277 := n1_; have HO280 := n2_; have HO283 := n3_; have HO289 := n4_; have BK290 := n5_; have HO293 := n6_; have HO296 := n7_; have HO303 := n8_; have HO307 := n9_; have HB := n10_; clear n0_ n1_ n2_ n3_ n4_ n5_ n6_ n7_ n8_ n9_ n10_; (try clear hb); (try clear hkp); (try clear hy0)) | ((with_reducible refine gate_callee (f := 16) rfl ?_); refine goC (N := some 77) Try.func16 #[.slice Ao62 t291.length co62, .int .i64 t309] rfl ?_; (with_reducible refine (laws_markIntS.calls k (fun k_ => some k_ = (.slice Ao62 t291.length co62 : Value).ownBlock) (.slice Ao62 t291.length co62) t291 t309 t311 t312 w _ ?side1 ?side2 A27.out).mono ?_); (case side1 => repeat (first | (with_reducible first | exact HB.out | apply below_alloc | apply pw_below_drewN | apply below_drew1 | refine below_set ?_ GE272.out | refine below_set ?_ GE290.out) | exact HB.out)); (case side2 => exact Kd.R_tight rfl (rU HO293)); rintro e w74 ⟨rfl, hy0, hb, hkp⟩; refine ⟨_, rfl, ?_⟩; have n0_ := Aside0.mk (blk_kept bK hkp (fun hs_ => (fun e_ => (Kd.R_ne HO293.out BK272.out (by decide)) e_) hs_)); have n1_ := Aside0.mk (Kd.R_mono (ok' := fun k_ => some k_ ≠ (.slice Ao59 t287.length co59 : Value).ownBlock ∧ some k_ ≠ (.slice Ao68 t301.length co68 : Value).ownBlock) (Kd.R_keptB ((Kd.R_apart' (rU HO277) (Kd.R_typed (rU HO293)) (by decide))) hkp (fun k_ hk_ hs_ => pjn hk_ hs_)) (fun k_ hk_ => pj hk_)); have n2_ := Aside0.mk (Kd.R_mono (ok' := fun k_ => some k_ ≠ (.slice Ao65 t281.length co65 : Value).ownBlock ∧ some k_ ≠ (.slice Ao62 t291.length co62 : Value).ownBlock ∧ some k_ ≠ (.slice Ao64 t294.length co64 : Value).ownBlock ∧ some k_ ≠ (.slice Ao71 t305.length co71 : Value).ownBlock) (Kd.R_keptB (rU HO280) hkp (fun k_ hk_ hs_ => pjn hk_ hs_)) (fun k_ hk_ => pj hk_)); have n3_ := Aside0.mk (Kd.R_mono (ok' := fun k_ => some k_ ≠ (.slice Ao52 t278.length co52 : Value).ownBlock ∧ some k_ ≠ (.slice Ao62 t291.length co62 : Value).ownBlock ∧ some k_ ≠ (.slice Ao64 t294.length co64 : Value).ownBlock ∧ some k_ ≠ (.slice Ao71 t305.length co71 : Value).ownBlock) (Kd.R_keptB (rU HO283) hkp (fun k_ hk_ hs_ => pjn hk_ hs_)) (fun k_ hk_ => pj hk_)); have n4_ := Aside0.mk (Kd.R_mono (ok' := fun k_ => some k_ ≠ (.slice Ao51 t275.length co51 : Value).ownBlock ∧ some k_ ≠ (.slice Ao68 t301.length co68 : Value).ownBlock) (Kd.R_keptB ((Kd.R_apart' (rU HO289) (Kd.R_typed (rU HO293)) (by decide))) hkp (fun k_ hk_ hs_ => pjn hk_ hs_)) (fun k_ hk_ => pj hk_)); have n5_ := Aside0.mk (blk_kept bK hkp (fun hs_ => (fun e_ => (Kd.R_ne HO293.out BK290.out (by decide)) e_) hs_)); have n6_ := Aside0.mk (Kd.R_reok rfl hy0 (fun k_ e_ => HO293.out.1 k_ e_)); have n7_ := Aside0.mk (Kd.R_mono (ok' := fun k_ => some k_ ≠ (.slice Ao52 t278.length co52 : Value).ownBlock ∧ some k_ ≠ (.slice Ao65 t281.length co65 : Value).ownBlock ∧ some k_ ≠ (.slice Ao62 t291.length co62 : Value).ownBlock ∧ some k_ ≠ (.slice Ao71 t305.length co71 : Value).ownBlock) (Kd.R_keptB (rU HO296) hkp (fun k_ hk_ hs_ => pjn hk_ hs_)) (fun k_ hk_ => pj hk_)); have n8_ := Aside0.mk (Kd.R_mono (ok' := fun k_ => some k_ ≠ (.slice Ao51 t275.length co51 : Value).ownBlock ∧ some k_ ≠ (.slice Ao59 t287.length co59 : Value).ownBlock) (Kd.R_keptB ((Kd.R_apart' (rU HO303) (Kd.R_typed (rU HO293)) (by decide))) hkp (fun k_ hk_ hs_ => pjn hk_ hs_)) (fun k_ hk_ => pj hk_)); have n9_ := Aside0.mk (Kd.R_mono (ok' := fun k_ => some k_ ≠ (.slice Ao52 t278.length co52 : Value).ownBlock ∧ some k_ ≠ (.slice Ao65 t281.length co65 : Value).ownBlock ∧ some k_ ≠ (.slice Ao62 t291.length co62 : Value).ownBlock ∧ some k_ ≠ (.slice Ao64 t294.length co64 : Value).ownBlock) (Kd.R_keptB (rU HO307) hkp (fun k_ hk_ hs_ => pjn hk_ hs_)) (fun k_ hk_ => pj hk_)); have n10_ := Aside0.mk (hb); clear BK272; clear HO277; clear HO280; clear HO283; clear HO289; clear BK290; clear HO293; clear HO296; clear HO303; clear HO307; clear HB; have BK272 := n0_; have HO277 := n1_; have HO280 := n2_; have HO283 := n3_; have HO289 := n4_; have BK290 := n5_; have HO293 := n6_; have HO296 := n7_; have HO303 := n8_; have HO307 := n9_; have HB := n10_; clear n0_ n1_ n2_ n3_ n4_ n5_ n6_ n7_ n8_ n9_ n10_; (try clear hb); (try clear hkp); (try clear hy0)) | (go_at_call 12; (with_reducible refine (laws_eqIntS.calls k _ _ t294 _ _ t281 true _ ?side1 ?side2 ?side3 ?side4 A29.out).mono ?_); (case side1 => exact cS (Kd.R_reads' HO296.out).2.2); (case side2 => exact (Kd.R_reads' HO296.out).2.1); (case side3 => exact cS (Kd.R_reads' HO283.out).2.2); (case side4 => exact (Kd.R_reads' HO283.out).2.1); rintro e w' ⟨rfl, ⟨nd, rfl⟩⟩) | ((with_reducible refine gate_callee (f := 16) rfl ?_); refine goC (N := some 98) Try.func16 #[.slice Ao64 t294.length co64, .int .i64 1] rfl ?_; (with_reducible refine (laws_markIntS.calls k (fun k_ => some k_ = (.slice Ao64 t294.length co64 : Value).ownBlock) (.slice Ao64 t294.length co64) t294 1 t314 t315 w _ ?side1 ?side2 A31.out).mono ?_); (case side1 => repeat (first | (with_reducible first | exact HB.out | apply below_alloc | apply pw_below_drewN | apply below_drew1 | refine below_set ?_ GE272.out | refine below_set ?_ GE290.out) | exact HB.out)); (case side2 => exact Kd.R_tight rfl (rU HO296)); rintro e w75 ⟨rfl, hy0, hb, hkp⟩; refine ⟨_, rfl, ?_⟩; have n0_ := Aside0.mk (blk_kept bK hkp (fun hs_ => (fun e_ => (Kd.R_ne HO296.out BK272.out (by decide)) e_) hs_)); have n1_ := Aside0.mk (Kd.R_mono (ok' := fun k_ => some k_ ≠ (.slice Ao59 t287.length co59 : Value).ownBlock ∧ some k_ ≠ (.slice Ao68 t301.length co68 : Value).ownBlock) (Kd.R_keptB ((Kd.R_apart' (rU HO277) (Kd.R_typed (rU HO296)) (by decide))) hkp (fun k_ hk_ hs_ => pjn hk_ hs_)) (fun k_ hk_ => pj hk_)); have n2_ := Aside0.mk (Kd.R_mono (ok' := fun k_ => some k_ ≠ (.slice Ao65 t281.length co65 : Value).ownBlock ∧ some k_ ≠ (.slice Ao62 t291.length co62 : Value).ownBlock ∧ some k_ ≠ (.slice Ao64 t294.length co64 : Value).ownBlock ∧ some k_ ≠ (.slice Ao71 t305.length co71 : Value).ownBlock) (Kd.R_keptB (rU HO280) hkp (fun k_ hk_ hs_ => pjn hk_ hs_)) (fun k_ hk_ => pj hk_)); have n3_ := Aside0.mk (Kd.R_mono (ok' := fun k_ => some k_ ≠ (.slice Ao52 t278.length co52 : Value).ownBlock ∧ some k_ ≠ (.slice Ao62 t291.length co62 : Value).ownBlock ∧ some k_ ≠ (.slice Ao64 t294.length co64 : Value).ownBlock ∧ some k_ ≠ (.slice Ao71 t305.length co71 : Value).ownBlock) (Kd.R_keptB (rU HO283) hkp (fun k_ hk_ hs_ => pjn hk_ hs_)) (fun k_ hk_ => pj hk_)); have n4_ := Aside0.mk (Kd.R_mono (ok' := fun k_ => some k_ ≠ (.slice Ao51 t275.length co51 : Value).ownBlock ∧ some k_ ≠ (.slice Ao68 t301.length co68 : Value).ownBlock) (Kd.R_keptB ((Kd.R_apart' (rU HO289) (Kd.R_typed (rU HO296)) (by decide))) hkp (fun k_ hk_ hs_ => pjn hk_ hs_)) (fun k_ hk_ => pj hk_)); have n5_ := Aside0.mk (blk_kept bK hkp (fun hs_ => (fun e_ => (Kd.R_ne HO296.out BK290.out (by decide)) e_) hs_)); have n6_ := Aside0.mk (Kd.R_mono (ok' := fun k_ => some k_ ≠ (.slice Ao52 t278.length co52 : Value).ownBlock ∧ some k_ ≠ (.slice Ao65 t281.length co65 : Value).ownBlock ∧ some k_ ≠ (.slice Ao64 t294.length co64 : Value).ownBlock ∧ some k_ ≠ (.slice Ao71 t305.length co71 : Value).ownBlock) (Kd.R_keptB (rU HO293) hkp (fun k_ hk_ hs_ => pjn hk_ hs_)) (fun k_ hk_ => pj hk_)); have n7_ := Aside0.mk (Kd.R_reok rfl hy0 (fun k_ e_ => HO296.out.1 k_ e_)); have n8_ := Aside0.mk (Kd.R_mono (ok' := fun k_ => some k_ ≠ (.slice Ao51 t275.length co51 : Value).ownBlock ∧ some k_ ≠ (.slice Ao59 t287.length co59 : Value).ownBlock) (Kd.R_keptB ((Kd.R_apart' (rU HO303) (Kd.R_typed (rU HO296)) (by decide))) hkp (fun k_ hk_ hs_ => pjn hk_ hs_)) (fun k_ hk_ => pj hk_)); have n9_ := Aside0.mk (Kd.R_mono (ok' := fun k_ => some k_ ≠ (.slice Ao52 t278.length co52 : Value).ownBlock ∧ some k_ ≠ (.slice Ao65 t281.length co65 : Value).ownBlock ∧ some k_ ≠ (.slice Ao62 t291.length co62 : Value).ownBlock ∧ some k_ ≠ (.slice Ao64 t294.length co64 : Value).ownBlock) (Kd.R_keptB (rU HO307) hkp (fun k_ hk_ hs_ => pjn hk_ hs_)) (fun k_ hk_ => pj hk_)); have n10_ := Aside0.mk (hb); clear BK272; clear HO277; clear HO280; clear HO283; clear HO289; clear BK290; clear HO293; clear HO296; clear HO303; clear HO307; clear HB; have BK272 := n0_; have HO277 := n1_; have HO280 := n2_; have HO283 := n3_; have HO289 := n4_; have BK290 := n5_; have HO293 := n6_; have HO296 := n7_; have HO303 := n8_; have HO307 := n9_; have HB := n10_; clear n0_ n1_ n2_ n3_ n4_ n5_ n6_ n7_ n8_ n9_ n10_; (try clear hb); (try clear hkp); (try clear hy0)) | ((with_reducible refine gate_callee (f := 17) rfl ?_); refine goesL_ (some 101) rfl rfl Try.func17 (by kernel_rfl) rfl #[.slice Ao64 t315.length co64, .int .i64 1] rfl (by (try simp only [List.map_toArray, List.map_cons, List.map_nil]); first | done | (rw [show t315.length = t294.length from (Kd.R_reads' HO296.out).1.symm] <;> rfl) | rfl | (simp only [List.length_drop, List.length_take]; rfl)) ?_; (with_reducible refine (laws_heldIntS.calls k _ _ t315 1 t316 _ ?side1 ?side2 A32.out).mono ?_); (case side1 => exact cS (Kd.R_reads' HO296.out).2.2); (case side2 => rw [show t315.length = t294.length from (Kd.R_reads' HO296.out).1.symm]; exact (Kd.R_reads' HO296.out).2.1); rintro e w' ⟨rfl, ⟨nd, rfl⟩⟩; refine ⟨_, rfl, ?_⟩; have hcz76_0 := cz BK272 0; have hcz76_1 := cz BK272 1; have hfz76_0 := fz BK272 0; have hfz76_1 := fz BK272 1) | ((with_reducible refine gate_callee (f := 8) rfl ?_); refine goC (N := some 109) Try.func8 #[.agg #[.int .i64 a0_0, .slice A0_1 l0_1.length c0_1]] rfl ?_; (with_reducible refine (laws_toParty.calls k a0_0 _ _ l0_1 t317 t318 _ ?side1 ?side2 A35.out).mono ?_); (case side1 => repeat (first | exact (Kd.C_below HR0_1.out hB) | (with_reducible refine Kd.C_alloc ?_ _) | (with_reducible refine Kd.C_drewN ?_ _) | (with_reducible refine Kd.C_drew ?_))); (case side2 => exact HC0_1.out); rintro e w77 ⟨v319, rfl, ho0, hb⟩; refine ⟨_, rfl, ?_⟩; have HO320 := Aside0.mk (Kd.R_lower (Kd.R_new' (Kd.R_new' (Kd.R_new' ho0 (Kd.R_lt (rU HO277))) (Kd.R_lt (rU HO289))) (Kd.R_lt (rU HO303))) (below_size hB)); replace HO277 := Aside0.mk (Kd.R_elder' (rU HO277) (Kd.R_base ho0) hb); replace HO280 := Aside0.mk (Kd.R_below (rU HO280) hb); replace HO283 := Aside0.mk (Kd.R_below (rU HO283) hb); replace HO289 := Aside0.mk (Kd.R_elder' (rU HO289) (Kd.R_base ho0) hb); replace HO293 := Aside0.mk (Kd.R_below (rU HO293) hb); replace HO296 := Aside0.mk (Kd.R_below (rU HO296) hb); replace HO303 := Aside0.mk (Kd.R_elder' (rU HO303) (Kd.R_base ho0) hb); replace HO307 := Aside0.mk (Kd.R_below (rU HO307) hb); replace BK272 := bS BK272 hb; replace BK290 := bS BK290 hb; replace HB := hS HB hb; (try clear hb); (try clear hb2); (try clear hk); (try clear hi); (try clear ho0)) | ((with_reducible refine gate_callee (f := 9) rfl ?_); refine goC (N := some 111) Try.func9 #[.slice A1 l1.length c1] rfl ?_; (with_reducible refine (laws_toIntS.calls k _ _ l1 t321 _ ?side1 ?side2 A36.out).mono ?_); (case side1 => exact cS (Kd.C_below HR1.out HB.out)); (case side2 => exact HC1.out); rintro e w78 ⟨v322, rfl, ho0, hb⟩; refine ⟨_, rfl, ?_⟩; have HO323 := Aside0.mk (Kd.R_lower (Kd.R_new' (Kd.R_new' (Kd.R_new' (Kd.R_new' (Kd.R_new' ho0 (Kd.R_lt (rU HO280))) (Kd.R_lt (rU HO283))) (Kd.R_lt (rU HO293))) (Kd.R_lt (rU HO296))) (Kd.R_lt (rU HO307))) (below_size hB)); replace HO277 := Aside0.mk (Kd.R_below (rU HO277) hb); replace HO280 := Aside0.mk (Kd.R_elder' (rU HO280) (Kd.R_base ho0) hb); replace HO283 := Aside0.mk (Kd.R_elder' (rU HO283) (Kd.R_base ho0) hb); replace HO289 := Aside0.mk (Kd.R_below (rU HO289) hb); replace HO293 := Aside0.mk (Kd.R_elder' (rU HO293) (Kd.R_base ho0) hb); replace HO296 := Aside0.mk (Kd.R_elder' (rU HO296) (Kd.R_base ho0) hb); replace HO303 := Aside0.mk (Kd.R_below (rU HO303) hb); replace HO307 := Aside0.mk (Kd.R_elder' (rU HO307) (Kd.R_base ho0) hb); replace HO320 := Aside0.mk (Kd.R_below (rU HO320) hb); replace BK272 := bS BK272 hb; replace BK290 := bS BK290 hb; replace HB := hS HB hb; (try clear hb); (try clear hb2); (try clear hk); (try clear hi); (try clear ho0); obtain ⟨Ao79, co79, eo79⟩ := Kd.R_slice HO320.out; subst eo79; obtain ⟨Ao80, co80, eo80⟩ := Kd.R_slice HO323.out; subst eo80) | ((with_reducible refine gate_callee (f := 19) rfl ?_); refine goC (N := some 112) Try.func19 #[.agg #[.int .i64 t317, .slice Ao79 t318.length co79], .slice Ao80 t321.length co80] rfl ?_; (with_reducible refine (impl_MendAll.calls k t317 _ _ t318 _ _ t321 t324 t327 t328 _ ?side1 ?side2 ?side3 ?side4 A37.out).mono ?_); (case side1 => exact cS (Kd.R_reads' HO320.out).2.2); (case side2 => exact (Kd.R_reads' HO320.out).2.1); (case side3 => exact cS (Kd.R_reads' HO323.out).2.2); (case side4 => exact (Kd.R_reads' HO323.out).2.1); rintro e w81 ⟨v325, rfl, ho0, hb⟩; refine ⟨_, rfl, ?_⟩; have HO326 := Aside0.mk (Kd.R_lower (Kd.R_new' (Kd.R_new' (Kd.R_new' (Kd.R_new' (Kd.R_new' (Kd.R_new' ho0 (Kd.R_lt (rU HO280))) (Kd.R_lt (rU HO283))) (Kd.R_lt (rU HO293))) (Kd.R_lt (rU HO296))) (Kd.R_lt (rU HO307))) (Kd.R_lt (rU HO323))) (below_size hB)); replace HO277 := Aside0.mk (Kd.R_below (rU HO277) hb); replace HO280 := Aside0.mk (Kd.R_elder' (rU HO280) (Kd.R_base ho0) hb); replace HO283 := Aside0.mk (Kd.R_elder' (rU HO283) (Kd.R_base ho0) hb); replace HO289 := Aside0.mk (Kd.R_below (rU HO289) hb); replace HO293 := Aside0.mk (Kd.R_elder' (rU HO293) (Kd.R_base ho0) hb); replace HO296 := Aside0.mk (Kd.R_elder' (rU HO296) (Kd.R_base ho0) hb); replace HO303 := Aside0.mk (Kd.R_below (rU HO303) hb); replace HO307 := Aside0.mk (Kd.R_elder' (rU HO307) (Kd.R_base ho0) hb); replace HO320 := Aside0.mk (Kd.R_below (rU HO320) hb); replace HO323 := Aside0.mk (Kd.R_elder' (rU HO323) (Kd.R_base ho0) hb); replace BK272 := bS BK272 hb; replace BK290 := bS BK290 hb; replace HB := hS HB hb; (try clear hb); (try clear hb2); (try clear hk); (try clear hi); (try clear ho0); obtain ⟨Ao82, co82, eo82⟩ := Kd.R_slice HO326.out; subst eo82) | ((with_reducible refine gate_callee (f := 12) rfl ?_); refine goC (N := some 118) Try.func12 #[.slice Ao82 t324.length co82, .slice Ao65 t281.length co65] rfl ?_; (with_reducible refine (laws_eqIntS.calls k _ _ t324 _ _ t281 true _ ?side1 ?side2 ?side3 ?side4 A38.out).mono ?_); (case side1 => exact cS (Kd.R_reads' HO326.out).2.2); (case side2 => exact (Kd.R_reads' HO326.out).2.1); (case side3 => exact cS (Kd.R_reads' HO283.out).2.2); (case side4 => exact (Kd.R_reads' HO283.out).2.1); rintro e w' ⟨rfl, ⟨nd, rfl⟩⟩; refine ⟨_, rfl, ?_⟩) | ((with_reducible refine gate_callee (f := 17) rfl ?_); refine goesL_ (some 132) rfl rfl Try.func17 (by kernel_rfl) rfl #[.slice Ao64 t315.length co64, .int .i64 1] rfl (by (try simp only [List.map_toArray, List.map_cons, List.map_nil]); first | done | (rw [show t315.length = t294.length from (Kd.R_reads' HO296.out).1.symm] <;> rfl) | rfl | (simp only [List.length_drop, List.length_take]; rfl)) ?_; (with_reducible refine (laws_heldIntS.calls k _ _ t315 1 t330 _ ?side1 ?side2 A42.out).mono ?_); (case side1 => exact cS (Kd.R_reads' HO296.out).2.2); (case side2 => rw [show t315.length = t294.length from (Kd.R_reads' HO296.out).1.symm]; exact (Kd.R_reads' HO296.out).2.1); rintro e w' ⟨rfl, ⟨nd, rfl⟩⟩; refine ⟨_, rfl, ?_⟩))
                 go_ret
                 exact ⟨by first | rfl | (simp [errW_none, errW_some] <;> rfl) | (simp [*, errW_none, errW_some] <;> rfl), hB⟩
                ·rw [if_neg c44] at H
                 exact absurd H (by simp)
             ·rw [if_neg c40] at H
              exact absurd H (by simp)
            ·replace c39 := Bool.eq_false_iff.mpr c39
             subst c39
             have H1 : (none) = some r := by rw [if_neg (show ¬ (false = true) by decide)] at H; exact H
             clear H
             have H := H1
             clear H1
             exact absurd H (by simp)
           ·rw [if_neg c34] at H
            exact absurd H (by simp)
         ·replace c30 := Bool.eq_false_iff.mpr c30
          subst c30
          have H1 : (none) = some r := by rw [if_neg (show ¬ (false = true) by decide)] at H; exact H
          clear H
          have H := H1
          clear H1
          exact absurd H (by simp)
       ·replace c25 := Bool.eq_false_iff.mpr c25
        subst c25
        have H1 : (none) = some r := by rw [if_neg (show ¬ (false = true) by decide)] at H; exact H
        clear H
        have H := H1
        clear H1
        exact absurd H (by simp)
      ·replace c22 := Bool.eq_false_iff.mpr c22
       subst c22
       have H1 : (none) = some r := by rw [if_neg (show ¬ (false = true) by decide)] at H; exact H
       clear H
       have H := H1
       clear H1
       exact absurd H (by simp)
    ·rw [if_neg c18] at H
     exact absurd H (by simp)
   ·replace c17 := Bool.eq_false_iff.mpr c17
    subst c17
    have H1 : (none) = some r := by rw [if_neg (show ¬ (false = true) by decide)] at H; exact H
    clear H
    have H := H1
    clear H1
    exact absurd H (by simp)

end Go.Proofs.Ytjpfbkkikcpmhaa.PFnExactMendAll
