-- Of this session's own program wip/gen/gen.py (it drives the kit's print): contracts of the functions that the law reaches.
import Derived.Test.YtjpfbkkikcpmhaaDoorPFnExactCountRowsx0
import Derived.Test.YtjpfbkkikcpmhaaDoorPFnExactCountRowsx1
import Derived.Test.YtjpfbkkikcpmhaaDoorPFnExactCountRowsx4
import Derived.Test.YtjpfbkkikcpmhaaDoorPFnExactCountRowsx5
import Derived.Test.YtjpfbkkikcpmhaaDoorPFnExactCountRowsx6
namespace Go.Proofs.YtjpfbkkikcpmhaaDoor.PFnExactCountRows
open Go.RowKit Go.Proofs.YtjpfbkkikcpmhaaDoorW.PrintWords Go.Proofs.YtjpfbkkikcpmhaaDoorW.PrintLast Go.Proofs.YtjpfbkkikcpmhaaDoorW.PrintMore Go.Proofs.YtjpfbkkikcpmhaaDoor.Base
attribute [local go_sem] max2_int min2_int max_two min_two max_three min_three max_four min_four   -- for this text's walks alone
set_option linter.unusedVariables false
set_option linter.unusedSimpArgs false

/-! ### impl_CountRows: function 31 -/
def impl_CountRows.f (k : Nat) (a0_0 : Int) (l0_1 : List (S105)) : Option (Int × Bool) := (impl_isSeated.f k a0_0 l0_1).bind fun t203 => (if t203 = true then (if a0_0 = 0 then (some (0, true)) else ((impl_Party_table.f k a0_0 l0_1).bind fun t204 => ((impl_table_all.f t204).bind fun t207 => ((impl_table_countRows.f k t204 t207).bind fun t208 => ((impl_sum.f k t208).bind fun t211 => (some (t211, true))))))) else (some (0, false)))
theorem impl_CountRows.mono : ∀ a0 a1 k, LeO (impl_CountRows.f k a0 a1) (impl_CountRows.f (k + 1) a0 a1) := by
 intro a0 a1 k
 unfold impl_CountRows.f
 repeat' first
   | (with_reducible exact impl_Party_table.mono _ _ _)
   | (with_reducible exact impl_isSeated.mono _ _ _)
   | (with_reducible exact impl_sum.mono _ _)
   | (with_reducible exact impl_table_countRows.mono _ _ _)
   | (with_reducible exact LeO.refl _)
   | (with_reducible exact LeO.none _)
   | (with_reducible refine LeO.ite ?_ ?_)
   | (with_reducible refine LeO.bind ?_ (fun _ => ?_))
   | exact impl_Party_table.mono _ _ _
   | exact impl_isSeated.mono _ _ _
   | exact impl_sum.mono _ _
   | exact impl_table_countRows.mono _ _ _
   | exact LeO.none _
   | refine LeO.ite ?_ ?_
   | refine LeO.bind ?_ (fun _ => ?_)
set_option maxHeartbeats 8000000 in
set_option maxRecDepth 100000 in
theorem impl_CountRows.calls (k : Nat) (a0_0 : Int) (A0_1 : Option Addr) (c0_1 : Nat) (l0_1 : List (S105)) (r1 : Int) (r2 : Bool) (w : World) (hr0_1 : Kd.C k105 w A0_1 l0_1.length l0_1) (hc0_1 : l0_1.length ≤ c0_1) (h : impl_CountRows.f k a0_0 l0_1 = some (r1, r2)) (hG : GTab 0 w := by first | exact Aside0.out ‹Aside0 (GTab _ _)› | exact GTab.up (Aside0.out ‹Aside0 (GTab _ _)›) (by repeat (first | (with_reducible first | exact Below.refl _ _ | exact Aside0.out ‹Aside0 (Below _ _ _)› | apply below_alloc | apply pw_below_drewN | apply below_drew1 | refine below_set ?_ (Aside0.out (by assumption))) | exact Aside0.out ‹Aside0 (Below _ _ _)›))) :
  Calls Tryd.prog 31 #[.agg #[.int .i64 a0_0, .slice A0_1 l0_1.length c0_1]] w fun e w' => e = .returned (.tuple #[.int .i64 r1, .bool r2]) ∧ Below w.heap.size w w' := by
 have hu33 := Tryd.underlying33
 have HG := Aside0.mk (p := GTab _ _) hG
 clear hG
 have HR0_1 := Aside0.mk hr0_1
 have HC0_1 := Aside0.mk hc0_1
 clear hr0_1 hc0_1
 have HB := Aside0.mk (Below.refl w.heap.size w)
 have H : ((impl_isSeated.f k a0_0 l0_1).bind fun t203 => (if t203 = true then (if a0_0 = 0 then (some (0, true)) else ((impl_Party_table.f k a0_0 l0_1).bind fun t204 => ((impl_table_all.f t204).bind fun t207 => ((impl_table_countRows.f k t204 t207).bind fun t208 => ((impl_sum.f k t208).bind fun t211 => (some (t211, true))))))) else (some (0, false)))) = some (r1, r2) := h
 clear h
 replace H := Option.bind_eq_some_iff.mp H
 obtain ⟨t203, A20, H⟩ := H
 try dsimp only at H
 have A2 := Aside0.mk A20
 clear A20
 by_cases c3 : t203 = true
 ·subst c3
  rw [if_pos rfl] at H
  by_cases c4 : a0_0 = 0
  ·rw [if_pos c4] at H
   have c4b0 : (a0_0 == 0) = true := beq_iff_eq.mpr c4
   have c4b1 : (a0_0 != 0) = false := bne_eq_false_iff_eq.mpr c4
   clear c4
   simp only [Option.some.injEq, Prod.mk.injEq] at H
   obtain ⟨rfl, rfl⟩ := H
   go_enter Tryd.func31, Tryd.ntmps31
   go_wp2_with (first | ((with_reducible refine gate_dst (N := 1) rfl ?_); refine bxE 1 #[.int .i64 a0_0, .slice A0_1 l0_1.length c0_1] 33 rfl ?_; intro gb202 hg w5 hbox hb; have BK202 := Aside0.mk (hbox); have GW202 := gS HB hg; have GE202 := gS HB hg; replace HB := hS HB hb; clear hb hbox hg; have hcz6_0 := cz BK202 0; have hcz6_1 := cz BK202 1; have hfz6_0 := fz BK202 0; have hfz6_1 := fz BK202 1) | ((with_reducible refine gate_callee (f := 82) rfl ?_); refine goC (N := some 6) Tryd.func82 #[.agg #[.int .i64 a0_0, .slice A0_1 l0_1.length c0_1]] rfl ?_; (with_reducible refine (impl_isSeated.calls k a0_0 _ _ l0_1 true _ ?side1 ?side2 A2.out).mono ?_); (case side1 => exact cS (Kd.C_below HR0_1.out HB.out)); (case side2 => exact HC0_1.out); rintro e w7 ⟨rfl, hb⟩; refine ⟨_, rfl, ?_⟩; replace BK202 := bS BK202 hb; replace HB := hS HB hb; (try clear hb); (try clear hb2); (try clear hk); (try clear hi); have hcz8_0 := cz BK202 0; have hcz8_1 := cz BK202 1; have hfz8_0 := fz BK202 0; have hfz8_1 := fz BK202 1))
   go_ret2
   exact ⟨by first | rfl | (simp [errW_none, errW_some] <;> rfl) | (simp [*, errW_none, errW_some] <;> rfl), hB⟩
  ·rw [if_neg c4] at H
   have c4b0 : (a0_0 == 0) = false := beq_eq_false_iff_ne.mpr c4
   have c4b1 : (a0_0 != 0) = true := bne_iff_ne.mpr c4
   replace H := Option.bind_eq_some_iff.mp H
   obtain ⟨t204, A90, H⟩ := H
   try dsimp only at H
   have A9 := Aside0.mk A90
   clear A90
   replace H := Option.bind_eq_some_iff.mp H
   obtain ⟨t207, A100, H⟩ := H
   try dsimp only at H
   have A10 := Aside0.mk A100
   clear A100
   replace H := Option.bind_eq_some_iff.mp H
   obtain ⟨t208, A110, H⟩ := H
   try dsimp only at H
   have A11 := Aside0.mk A110
   clear A110
   replace H := Option.bind_eq_some_iff.mp H
   obtain ⟨t211, A120, H⟩ := H
   replace H : (some (t211, true)) = some (r1, r2) := H
   have A12 := Aside0.mk A120
   clear A120
   simp only [Option.some.injEq, Prod.mk.injEq] at H
   obtain ⟨rfl, rfl⟩ := H
   go_enter Tryd.func31, Tryd.ntmps31
   go_wp2_with (first | ((with_reducible refine gate_dst (N := 1) rfl ?_); refine bxE 1 #[.int .i64 a0_0, .slice A0_1 l0_1.length c0_1] 33 rfl ?_; intro gb202 hg w13 hbox hb; have BK202 := Aside0.mk (hbox); have GW202 := gS HB hg; have GE202 := gS HB hg; replace HB := hS HB hb; clear hb hbox hg; have hcz14_0 := cz BK202 0; have hcz14_1 := cz BK202 1; have hfz14_0 := fz BK202 0; have hfz14_1 := fz BK202 1) | ((with_reducible refine gate_callee (f := 82) rfl ?_); refine goC (N := some 6) Tryd.func82 #[.agg #[.int .i64 a0_0, .slice A0_1 l0_1.length c0_1]] rfl ?_; (with_reducible refine (impl_isSeated.calls k a0_0 _ _ l0_1 true _ ?side1 ?side2 A2.out).mono ?_); (case side1 => exact cS (Kd.C_below HR0_1.out HB.out)); (case side2 => exact HC0_1.out); rintro e w15 ⟨rfl, hb⟩; refine ⟨_, rfl, ?_⟩; replace BK202 := bS BK202 hb; replace HB := hS HB hb; (try clear hb); (try clear hb2); (try clear hk); (try clear hi); have hcz16_0 := cz BK202 0; have hcz16_1 := cz BK202 1; have hfz16_0 := fz BK202 0; have hfz16_1 := fz BK202 1) | ((with_reducible refine gate_callee (f := 61) rfl ?_); refine goC (N := some 12) Tryd.func61 #[.agg #[.int .i64 a0_0, .slice A0_1 l0_1.length c0_1]] rfl ?_; (with_reducible refine (impl_Party_table.calls k a0_0 _ _ l0_1 t204 _ ?side1 ?side2 A9.out).mono ?_); (case side1 => exact cS (Kd.C_below HR0_1.out HB.out)); (case side2 => exact HC0_1.out); rintro e w17 ⟨v205, rfl, ho0, hb⟩; refine ⟨_, rfl, ?_⟩; have HO206 := Aside0.mk (Kd.R_lower ho0 (below_size hB)); replace BK202 := bS BK202 hb; replace HB := hS HB hb; (try clear hb); (try clear hb2); (try clear hk); (try clear hi); (try clear ho0); obtain ⟨Ao18, co18, eo18⟩ := Kd.R_slice HO206.out; subst eo18) | ((with_reducible refine gate_callee (f := 79) rfl ?_); refine goC (N := some 15) Tryd.func79 #[.slice Ao18 t204.length co18] rfl ?_; (with_reducible refine (impl_table_all.calls _ _ t204 t207 _ ?side1 ?side2 A10.out).mono ?_); (case side1 => exact cS (Kd.R_reads' HO206.out).2.2); (case side2 => exact (Kd.R_reads' HO206.out).2.1); rintro e w' ⟨rfl, ⟨nd, rfl⟩⟩; refine ⟨_, rfl, ?_⟩) | ((with_reducible refine gate_callee (f := 84) rfl ?_); refine goC (N := some 16) Tryd.func84 #[.slice Ao18 t204.length co18, .int .u16 t207] rfl ?_; (with_reducible refine (impl_table_countRows.calls k _ _ t204 t207 t208 _ ?side1 ?side2 A11.out).mono ?_); (case side1 => exact cS (Kd.R_reads' HO206.out).2.2); (case side2 => exact (Kd.R_reads' HO206.out).2.1); rintro e w19 ⟨v209, rfl, ho0, hb⟩; refine ⟨_, rfl, ?_⟩; have HO210 := Aside0.mk (Kd.R_lower ho0 (below_size hB)); replace HO206 := Aside0.mk (Kd.R_below (rU HO206) hb); replace BK202 := bS BK202 hb; replace HB := hS HB hb; (try clear hb); (try clear hb2); (try clear hk); (try clear hi); (try clear ho0); obtain ⟨Ao20, co20, eo20⟩ := Kd.R_slice HO210.out; subst eo20) | ((with_reducible refine gate_callee (f := 83) rfl ?_); refine goC (N := some 17) Tryd.func83 #[.slice Ao20 t208.length co20] rfl ?_; (with_reducible refine (impl_sum.calls k _ _ t208 t211 _ ?side1 ?side2 A12.out).mono ?_); (case side1 => exact cS (Kd.R_reads' HO210.out).2.2); (case side2 => exact (Kd.R_reads' HO210.out).2.1); rintro e w' ⟨rfl, ⟨nd, rfl⟩⟩; refine ⟨_, rfl, ?_⟩))
   go_ret2
   exact ⟨by first | rfl | (simp [errW_none, errW_some] <;> rfl) | (simp [*, errW_none, errW_some] <;> rfl), hB⟩
 ·replace c3 := Bool.eq_false_iff.mpr c3
  subst c3
  have H1 : (some (0, false)) = some (r1, r2) := by rw [if_neg (show ¬ (false = true) by decide)] at H; exact H
  clear H
  have H := H1
  clear H1
  simp only [Option.some.injEq, Prod.mk.injEq] at H
  obtain ⟨rfl, rfl⟩ := H
  go_enter Tryd.func31, Tryd.ntmps31
  go_wp2_with (first | ((with_reducible refine gate_dst (N := 1) rfl ?_); refine bxE 1 #[.int .i64 a0_0, .slice A0_1 l0_1.length c0_1] 33 rfl ?_; intro gb202 hg w21 hbox hb; have BK202 := Aside0.mk (hbox); have GW202 := gS HB hg; have GE202 := gS HB hg; replace HB := hS HB hb; clear hb hbox hg; have hcz22_0 := cz BK202 0; have hcz22_1 := cz BK202 1; have hfz22_0 := fz BK202 0; have hfz22_1 := fz BK202 1) | ((with_reducible refine gate_callee (f := 82) rfl ?_); refine goC (N := some 6) Tryd.func82 #[.agg #[.int .i64 a0_0, .slice A0_1 l0_1.length c0_1]] rfl ?_; (with_reducible refine (impl_isSeated.calls k a0_0 _ _ l0_1 false _ ?side1 ?side2 A2.out).mono ?_); (case side1 => exact cS (Kd.C_below HR0_1.out HB.out)); (case side2 => exact HC0_1.out); rintro e w23 ⟨rfl, hb⟩; refine ⟨_, rfl, ?_⟩; replace BK202 := bS BK202 hb; replace HB := hS HB hb; (try clear hb); (try clear hb2); (try clear hk); (try clear hi)))
  go_ret2
  exact ⟨by first | rfl | (simp [errW_none, errW_some] <;> rfl) | (simp [*, errW_none, errW_some] <;> rfl), hB⟩

/-! ### laws_FnExactCountRows: function 6 -/
def laws_FnExactCountRows.f (k : Nat) (a0_0 : Int) (l0_1 : List (S118)) : Option (Bool) := (laws_szParty.f a0_0 l0_1 1048576).bind fun t213 => (if t213 < 0 then (some true) else ((laws_toParty.f k a0_0 l0_1).bind fun bt214 => ((spec_CountRows.f k bt214.1 bt214.2).bind fun bt218 => ((laws_toParty.f k a0_0 l0_1).bind fun bt220 => ((impl_CountRows.f k bt220.1 bt220.2).bind fun bt225 => (if bt225.1 = bt218.1 then (if (bt225.2 != bt218.2) = true then (none) else ((laws_toParty.f k a0_0 l0_1).bind fun bt227 => ((laws_eqParty.f k bt220.1 bt220.2 bt227.1 bt227.2).bind fun t231 => (if t231 = true then (some true) else (none))))) else (none)))))))
theorem laws_FnExactCountRows.mono : ∀ a0 a1 k, LeO (laws_FnExactCountRows.f k a0 a1) (laws_FnExactCountRows.f (k + 1) a0 a1) := by
 intro a0 a1 k
 unfold laws_FnExactCountRows.f
 repeat' first
   | (with_reducible exact impl_CountRows.mono _ _ _)
   | (with_reducible exact laws_eqParty.mono _ _ _ _ _)
   | (with_reducible exact laws_toParty.mono _ _ _)
   | (with_reducible exact spec_CountRows.mono _ _ _)
   | (with_reducible exact LeO.refl _)
   | (with_reducible exact LeO.none _)
   | (with_reducible refine LeO.ite ?_ ?_)
   | (with_reducible refine LeO.bind ?_ (fun _ => ?_))
   | exact impl_CountRows.mono _ _ _
   | exact laws_eqParty.mono _ _ _ _ _
   | exact laws_toParty.mono _ _ _
   | exact spec_CountRows.mono _ _ _
   | exact LeO.none _
   | refine LeO.ite ?_ ?_
   | refine LeO.bind ?_ (fun _ => ?_)
set_option maxHeartbeats 8000000 in
set_option maxRecDepth 100000 in
theorem laws_FnExactCountRows.calls (k : Nat) (a0_0 : Int) (A0_1 : Option Addr) (c0_1 : Nat) (l0_1 : List (S118)) (r : Bool) (w : World) (hr0_1 : Kd.C k118 w A0_1 l0_1.length l0_1) (hc0_1 : l0_1.length ≤ c0_1) (h : laws_FnExactCountRows.f k a0_0 l0_1 = some r) (hG : GTab 0 w := by first | exact Aside0.out ‹Aside0 (GTab _ _)› | exact GTab.up (Aside0.out ‹Aside0 (GTab _ _)›) (by repeat (first | (with_reducible first | exact Below.refl _ _ | exact Aside0.out ‹Aside0 (Below _ _ _)› | apply below_alloc | apply pw_below_drewN | apply below_drew1 | refine below_set ?_ (Aside0.out (by assumption))) | exact Aside0.out ‹Aside0 (Below _ _ _)›))) :
  Calls Tryd.prog 6 #[.agg #[.int .i64 a0_0, .slice A0_1 l0_1.length c0_1]] w fun e w' => e = .returned (.bool r) ∧ Below w.heap.size w w' := by
 have hu24 := Tryd.underlying24
 have hu33 := Tryd.underlying33
 have HG := Aside0.mk (p := GTab _ _) hG
 clear hG
 have HR0_1 := Aside0.mk hr0_1
 have HC0_1 := Aside0.mk hc0_1
 clear hr0_1 hc0_1
 have HB := Aside0.mk (Below.refl w.heap.size w)
 have H : ((laws_szParty.f a0_0 l0_1 1048576).bind fun t213 => (if t213 < 0 then (some true) else ((laws_toParty.f k a0_0 l0_1).bind fun bt214 => ((spec_CountRows.f k bt214.1 bt214.2).bind fun bt218 => ((laws_toParty.f k a0_0 l0_1).bind fun bt220 => ((impl_CountRows.f k bt220.1 bt220.2).bind fun bt225 => (if bt225.1 = bt218.1 then (if (bt225.2 != bt218.2) = true then (none) else ((laws_toParty.f k a0_0 l0_1).bind fun bt227 => ((laws_eqParty.f k bt220.1 bt220.2 bt227.1 bt227.2).bind fun t231 => (if t231 = true then (some true) else (none))))) else (none)))))))) = some r := h
 clear h
 replace H := Option.bind_eq_some_iff.mp H
 obtain ⟨t213, A20, H⟩ := H
 try dsimp only at H
 have A2 := Aside0.mk A20
 clear A20
 by_cases c3 : t213 < 0
 ·rw [if_pos c3] at H
  have c3b0 : decide (t213 < 0) = true := decide_eq_true c3
  clear c3
  obtain rfl := Option.some.inj H
  go_enter Tryd.func6, Tryd.ntmps6
  go_wp2_with (first | ((with_reducible refine gate_dst (N := 1) rfl ?_); refine bxE 1 #[.int .i64 a0_0, .slice A0_1 l0_1.length c0_1] 24 rfl ?_; intro gb212 hg w4 hbox hb; have BK212 := Aside0.mk (hbox); have GW212 := gS HB hg; have GE212 := gS HB hg; replace HB := hS HB hb; clear hb hbox hg; have hcz5_0 := cz BK212 0; have hcz5_1 := cz BK212 1; have hfz5_0 := fz BK212 0; have hfz5_1 := fz BK212 1) | ((with_reducible refine gate_callee (f := 12) rfl ?_); refine goC (N := some 11) Tryd.func12 #[.agg #[.int .i64 a0_0, .slice A0_1 l0_1.length c0_1], .int .i64 1048576] rfl ?_; (with_reducible refine (laws_szParty.calls a0_0 _ _ l0_1 1048576 t213 _ ?side1 ?side2 A2.out).mono ?_); (case side1 => exact cS (Kd.C_below HR0_1.out HB.out)); (case side2 => exact HC0_1.out); rintro e w6 ⟨rfl, hb⟩; refine ⟨_, rfl, ?_⟩; replace BK212 := bS BK212 hb; replace HB := hS HB hb; (try clear hb); (try clear hb2); (try clear hk); (try clear hi)))
  go_ret
  exact ⟨by first | rfl | (simp [errW_none, errW_some] <;> rfl) | (simp [*, errW_none, errW_some] <;> rfl), hB⟩
 ·rw [if_neg c3] at H
  have c3b0 : decide (t213 < 0) = false := decide_eq_false c3
  clear c3
  replace H := Option.bind_eq_some_iff.mp H
  obtain ⟨⟨t214, t215⟩, A70, H⟩ := H
  try dsimp only at H
  have A7 := Aside0.mk A70
  clear A70
  replace H := Option.bind_eq_some_iff.mp H
  obtain ⟨⟨t218, t219⟩, A80, H⟩ := H
  try dsimp only at H
  have A8 := Aside0.mk A80
  clear A80
  replace H := Option.bind_eq_some_iff.mp H
  obtain ⟨⟨t220, t221⟩, A90, H⟩ := H
  try dsimp only at H
  have A9 := Aside0.mk A90
  clear A90
  replace H := Option.bind_eq_some_iff.mp H
  obtain ⟨⟨t225, t226⟩, A100, H⟩ := H
  try dsimp only at H
  have A10 := Aside0.mk A100
  clear A100
  by_cases c11 : t225 = t218
  ·rw [if_pos c11] at H
   have c11b0 : (t225 == t218) = true := beq_iff_eq.mpr c11
   have c11b1 : (t225 != t218) = false := bne_eq_false_iff_eq.mpr c11
   clear c11
   by_cases c12 : (t226 != t219) = true
   ·rw [if_pos c12] at H
    exact absurd H (by simp)
   ·rw [if_neg c12] at H
    have c12b0 : (t226 != t219) = false := by simpa using c12
    (try (have c12b1 : decide (t226 = t219) = true := by simpa using c12))
    (try (have c12b2 : (t226 == t219) = true := by simpa using c12))
    clear c12
    replace H := Option.bind_eq_some_iff.mp H
    obtain ⟨⟨t227, t228⟩, A130, H⟩ := H
    try dsimp only at H
    have A13 := Aside0.mk A130
    clear A130
    replace H := Option.bind_eq_some_iff.mp H
    obtain ⟨t231, A140, H⟩ := H
    try dsimp only at H
    have A14 := Aside0.mk A140
    clear A140
    by_cases c15 : t231 = true
    ·subst c15
     have H1 : (some true) = some r := by rw [if_pos rfl] at H; exact H
     clear H
     have H := H1
     clear H1
     obtain rfl := Option.some.inj H
     go_enter Tryd.func6, Tryd.ntmps6
     try go_wp2_with (first | ((with_reducible refine gate_dst (N := 1) rfl ?_); refine bxE 1 #[.int .i64 a0_0, .slice A0_1 l0_1.length c0_1] 24 rfl ?_; intro gb212 hg w16 hbox hb; have BK212 := Aside0.mk (hbox); have GW212 := gS HB hg; have GE212 := gS HB hg; replace HB := hS HB hb; clear hb hbox hg; have hcz17_0 := cz BK212 0; have hcz17_1 := cz BK212 1; have hfz17_0 := fz BK212 0; have hfz17_1 := fz BK212 1) | ((with_reducible refine gate_callee (f := 12) rfl ?_); refine goC (N := some 11) Tryd.func12 #[.agg #[.int .i64 a0_0, .slice A0_1 l0_1.length c0_1], .int .i64 1048576] rfl ?_; (with_reducible refine (laws_szParty.calls a0_0 _ _ l0_1 1048576 t213 _ ?side1 ?side2 A2.out).mono ?_); (case side1 => exact cS (Kd.C_below HR0_1.out HB.out)); (case side2 => exact HC0_1.out); rintro e w18 ⟨rfl, hb⟩; refine ⟨_, rfl, ?_⟩; replace BK212 := bS BK212 hb; replace HB := hS HB hb; (try clear hb); (try clear hb2); (try clear hk); (try clear hi); have hcz19_0 := cz BK212 0; have hcz19_1 := cz BK212 1; have hfz19_0 := fz BK212 0; have hfz19_1 := fz BK212 1) | ((with_reducible refine gate_callee (f := 14) rfl ?_); refine goC (N := some 16) Tryd.func14 #[.agg #[.int .i64 a0_0, .slice A0_1 l0_1.length c0_1]] rfl ?_; (with_reducible refine (laws_toParty.calls k a0_0 _ _ l0_1 t214 t215 _ ?side1 ?side2 A7.out).mono ?_); (case side1 => exact cS (Kd.C_below HR0_1.out HB.out)); (case side2 => exact HC0_1.out); rintro e w20 ⟨v216, rfl, ho0, hb⟩; refine ⟨_, rfl, ?_⟩; have HO217 := Aside0.mk (Kd.R_lower ho0 (below_size hB)); replace BK212 := bS BK212 hb; replace HB := hS HB hb; (try clear hb); (try clear hb2); (try clear hk); (try clear hi); (try clear ho0); obtain ⟨Ao21, co21, eo21⟩ := Kd.R_slice HO217.out; subst eo21) | ((with_reducible refine gate_callee (f := 30) rfl ?_); refine goC (N := some 17) Tryd.func30 #[.agg #[.int .i64 t214, .slice Ao21 t215.length co21]] rfl ?_; (with_reducible refine (spec_CountRows.calls k t214 _ _ t215 t218 t219 _ ?side1 ?side2 A8.out).mono ?_); (case side1 => exact cS (Kd.R_reads' HO217.out).2.2); (case side2 => exact (Kd.R_reads' HO217.out).2.1); rintro e w22 ⟨rfl, hb⟩; refine ⟨_, rfl, ?_⟩; replace HO217 := Aside0.mk (Kd.R_below (rU HO217) hb); replace BK212 := bS BK212 hb; replace HB := hS HB hb; (try clear hb); (try clear hb2); (try clear hk); (try clear hi); have hcz23_0 := cz BK212 0; have hcz23_1 := cz BK212 1; have hfz23_0 := fz BK212 0; have hfz23_1 := fz BK212 1) | ((with_reducible refine gate_callee (f := 14) rfl ?_); refine goC (N := some 21) Tryd.func14 #[.agg #[.int .i64 a0_0, .slice A0_1 l0_1.length c0_1]] rfl ?_; (with_reducible refine (laws_toParty.calls k a0_0 _ _ l0_1 t220 t221 _ ?side1 ?side2 A9.out).mono ?_); (case side1 => exact cS (Kd.C_below HR0_1.out HB.out)); (case side2 => exact HC0_1.out); rintro e w24 ⟨v222, rfl, ho0, hb⟩; refine ⟨_, rfl, ?_⟩; have HO223 := Aside0.mk (Kd.R_lower (Kd.R_new' ho0 (Kd.R_lt (rU HO217))) (below_size hB)); replace HO217 := Aside0.mk (Kd.R_elder' (rU HO217) (Kd.R_base ho0) hb); replace BK212 := bS BK212 hb; replace HB := hS HB hb; (try clear hb); (try clear hb2); (try clear hk); (try clear hi); (try clear ho0)) | ((with_reducible refine gate_dst (N := 6) rfl ?_); refine bxE 6 #[.int .i64 0, .slice none 0 0] 33 rfl ?_; intro gb224 hg w25 hbox hb; have BK224 := Aside0.mk (hbox); have GW224 := gS HB hg; have GE224 := gS HB hg; have NB212_224 := nL BK212 hg; have NB224_212 := nG BK212 hg; replace HO217 := Aside0.mk (Kd.R_below (rU HO217) hb); replace HO223 := Aside0.mk (Kd.R_below (rU HO223) hb); replace BK212 := bS BK212 hb; replace HB := hS HB hb; clear hb hbox hg; have hnb26 := NB224_212.out; have hnc26 := NB212_224.out; have hcz27_0 := cz BK224 0; have hcz27_1 := cz BK224 1; have hfz27_0 := fz BK224 0; have hfz27_1 := fz BK224 1; obtain ⟨Ao28, co28, eo28⟩ := Kd.R_slice HO223.out; subst eo28) | ((with_reducible refine gate_callee (f := 31) rfl ?_); refine goC (N := some 24) Tryd.func31 #[.agg #[.int .i64 t220, .slice Ao28 t221.length co28]] rfl ?_; (with_reducible refine (impl_CountRows.calls k t220 _ _ t221 t225 t226 _ ?side1 ?side2 A10.out).mono ?_); (case side1 => refine (Kd.R_reads' (e := 105) (base := w.heap.size) (ok := fun k_ => (True ∧ some k_ ≠ (.slice Ao21 t215.length co21 : Value).ownBlock)) (n := t221.length) (c := co28) ?_).2.2; exact (by (with_reducible repeat (first | apply Kd.R_alloc | apply Kd.R_drewN | apply Kd.R_drew)); exact (Kd.R_mono (Kd.R_far (p := ⟨gb224, 1, none⟩) (Kd.R_far (p := ⟨gb224, 0, none⟩) (Kd.R_types HO223.out BK224.out (by decide)) (fun _ hk => hk.2) (.int .i64 t220)) (fun _ hk => hk.2) (.slice Ao28 t221.length co28)) (fun _ h_ => h_.1)))); (case side2 => exact (Kd.R_reads' HO223.out).2.1); rintro e w29 ⟨rfl, hb⟩; refine ⟨_, rfl, ?_⟩; replace HO217 := Aside0.mk (Kd.R_below (by (with_reducible repeat (first | apply Kd.R_alloc | apply Kd.R_drewN | apply Kd.R_drew)); exact (Kd.R_mono (Kd.R_far (p := ⟨gb224, 1, none⟩) (Kd.R_far (p := ⟨gb224, 0, none⟩) (Kd.R_types HO217.out BK224.out (by decide)) (fun _ hk => hk.2) (.int .i64 t220)) (fun _ hk => hk.2) (.slice Ao28 t221.length co28)) (fun _ h_ => h_.1))) hb); replace HO223 := Aside0.mk (Kd.R_below (by (with_reducible repeat (first | apply Kd.R_alloc | apply Kd.R_drewN | apply Kd.R_drew)); exact (Kd.R_mono (Kd.R_far (p := ⟨gb224, 1, none⟩) (Kd.R_far (p := ⟨gb224, 0, none⟩) (Kd.R_types HO223.out BK224.out (by decide)) (fun _ hk => hk.2) (.int .i64 t220)) (fun _ hk => hk.2) (.slice Ao28 t221.length co28)) (fun _ h_ => h_.1))) hb); replace BK212 := Aside0.mk (blk_below (g := gb212) (o := .cells #[.int .i64 a0_0, .slice A0_1 l0_1.length c0_1] 24 (0, 0)) (by (with_reducible repeat (first | refine blk_drewN ?_ _ | refine blk_drew ?_ | refine blk_alloc ?_ _)); refine blk_far ?_ NB212_224.out _; (with_reducible repeat (first | refine blk_drewN ?_ _ | refine blk_drew ?_ | refine blk_alloc ?_ _)); refine blk_far ?_ NB212_224.out _; (with_reducible repeat (first | refine blk_drewN ?_ _ | refine blk_drew ?_ | refine blk_alloc ?_ _)); exact BK212.out) hb); replace BK224 := Aside0.mk (blk_below (g := gb224) (o := .cells #[.int .i64 t220, .slice Ao28 t221.length co28] 33 (0, 0)) (by (with_reducible repeat (first | refine blk_drewN ?_ _ | refine blk_drew ?_ | refine blk_alloc ?_ _)); refine blk_put (cs := #[.int .i64 t220, .slice none 0 0]) ?_ 1 _ rfl; (with_reducible repeat (first | refine blk_drewN ?_ _ | refine blk_drew ?_ | refine blk_alloc ?_ _)); refine blk_put (cs := #[.int .i64 0, .slice none 0 0]) ?_ 0 _ rfl; (with_reducible repeat (first | refine blk_drewN ?_ _ | refine blk_drew ?_ | refine blk_alloc ?_ _)); exact BK224.out) hb); replace HB := hS HB hb; (try clear hb); (try clear hb2); (try clear hk); (try clear hi)))
     replace HO217 := Aside0.mk (Kd.R_drew HO217.out)
     replace HO223 := Aside0.mk (Kd.R_drew HO223.out)
     replace BK212 := Aside0.mk (blk_drew BK212.out)
     replace BK224 := Aside0.mk (blk_drew BK224.out)
     replace HB := Aside0.mk (below_drew1 HB.out)
     refine start_ (n := 5) (S := fun w' => w'.cell? ⟨gb224, 0, none⟩ = some (.int .i64 t220) ∧ w'.cell? ⟨gb224, 1, none⟩ = some (.slice Ao28 t221.length co28) ∧ w'.cell? ⟨gb212, 0, none⟩ = some (.int .i64 a0_0) ∧ w'.cell? ⟨gb212, 1, none⟩ = some (.slice A0_1 l0_1.length c0_1)) (ds := []) (bz 5 0) (by kernel_rfl) rfl rfl ⟨(blk_cell BK224.out 0).trans rfl, (blk_cell BK224.out 1).trans rfl, (blk_cell BK212.out 0).trans rfl, (blk_cell BK212.out 1).trans rfl⟩ (fun hHeld => ?_)
     generalize w29.drew = w30 at HO217 HO223 BK212 BK224 HB hHeld ⊢
     refine run_ [(1, 0, 1, some 35), (1, 1, 3, some 36)] ?_
     repeat ((apply tag1; refine run_t (v := ?_) (a' := ?_) rfl rfl (by kernel_rfl) (fun _ _ _ h => h) (by rfl) ?_ hHeld ?_ ?_; rotate_left 2; (rintro w' ⟨s0, s1, s2, s3⟩; go_simp; with_reducible rfl); (first | (simp only [Act.put, List.setIfInBounds_toArray, List.set_cons_zero, List.set_cons_succ, i64_w, i32_w]; rfl) | rfl)))
     refine run_nil ?_
     refine one_ (i := 2) (N := some 37) (bz 5 7) rfl rfl (by kernel_rfl) (by decide) (fun K hK => ?_)
     refine goes_ Tryd.func14 (by kernel_rfl) rfl #[.agg #[.int .i64 a0_0, .slice A0_1 l0_1.length c0_1]] (by rfl) rfl rfl mapT ?_
     with_reducible refine (laws_toParty.calls k a0_0 _ _ l0_1 t227 t228 _ ?side1 ?side2 A13.out).mono ?_
     (case side1 => exact cS (Kd.C_below HR0_1.out HB.out))
     (case side2 => exact HC0_1.out)
     rintro e w31 ⟨v229, rfl, ho0, hb⟩
     refine ⟨_, rfl, ?_⟩
     have HO230 := Aside0.mk (Kd.R_lower (Kd.R_new' (Kd.R_new' ho0 (Kd.R_lt (rU HO217))) (Kd.R_lt (rU HO223))) (below_size hB))
     replace HO217 := Aside0.mk (Kd.R_elder' (rU HO217) (Kd.R_base ho0) hb)
     replace HO223 := Aside0.mk (Kd.R_elder' (rU HO223) (Kd.R_base ho0) hb)
     replace BK212 := bS BK212 hb
     replace BK224 := bS BK224 hb
     replace HB := hS HB hb
     (try clear hb)
     (try clear hb2)
     (try clear hk)
     (try clear hi)
     (try clear ho0)
     obtain ⟨Ao32, co32, eo32⟩ := Kd.R_slice HO230.out
     (first | subst eo32 | (injection eo32 with f1_ f2_ f3_; have f4_ := f1_.symm; have f5_ := f3_.symm; clear f1_ f2_ f3_; subst f4_; subst f5_))
     refine hK.out _ _ ⟨(blk_cell BK224.out 0).trans rfl, (blk_cell BK224.out 1).trans rfl, (blk_cell BK212.out 0).trans rfl, (blk_cell BK212.out 1).trans rfl⟩ (fun hHeld => ?_)
     clear hK K
     refine norm_ (a' := ?_) ?_ ?_
     rotate_left
     ·show Act.put _ (some 37) _ = _
      simp only [Act.put, List.setIfInBounds_toArray, List.set_cons_zero, List.set_cons_succ, i64_w, i32_w]
      rfl
     refine one_ (i := 3) (N := some 38) (bz 5 15) rfl rfl (by kernel_rfl) (by decide) (fun K hK => ?_)
     refine goes_ Tryd.func17 (by kernel_rfl) rfl #[.agg #[.int .i64 t220, .slice Ao28 t221.length co28], .agg #[.int .i64 t227, .slice Ao32 t228.length co32]] (by rfl) rfl rfl mapT ?_
     with_reducible refine (laws_eqParty.calls k t220 _ _ t221 t227 _ _ t228 true _ ?side1 ?side2 ?side3 ?side4 A14.out).mono ?_
     (case side1 => exact cS (Kd.R_reads' HO223.out).2.2)
     (case side2 => exact (Kd.R_reads' HO223.out).2.1)
     (case side3 => exact cS (Kd.R_reads' HO230.out).2.2)
     (case side4 => exact (Kd.R_reads' HO230.out).2.1)
     rintro e w33 ⟨rfl, hb⟩
     refine ⟨_, rfl, ?_⟩
     replace HO217 := Aside0.mk (Kd.R_below (rU HO217) hb)
     replace HO223 := Aside0.mk (Kd.R_below (rU HO223) hb)
     replace HO230 := Aside0.mk (Kd.R_below (rU HO230) hb)
     replace BK212 := bS BK212 hb
     replace BK224 := bS BK224 hb
     replace HB := hS HB hb
     (try clear hb)
     (try clear hb2)
     (try clear hk)
     (try clear hi)
     refine hK.out _ _ ⟨(blk_cell BK224.out 0).trans rfl, (blk_cell BK224.out 1).trans rfl, (blk_cell BK212.out 0).trans rfl, (blk_cell BK212.out 1).trans rfl⟩ (fun hHeld => ?_)
     clear hK K
     refine norm_ (a' := ?_) ?_ ?_
     rotate_left
     ·show Act.put _ (some 38) _ = _
      simp only [Act.put, List.setIfInBounds_toArray, List.set_cons_zero, List.set_cons_succ, i64_w, i32_w]
      rfl
     refine run_ [(0, 4, 31, some 39)] ?_
     repeat ((apply tag0; refine run_p (v := ?_) (a' := ?_) rfl rfl (by kernel_rfl) (fun _ _ _ h => h) (by rfl) ?_ ?_ ?_; rotate_left 2; (intro w'; go_simp; with_reducible rfl); (first | (simp only [Act.put, List.setIfInBounds_toArray, List.set_cons_zero, List.set_cons_succ, i64_w, i32_w]; rfl) | rfl)))
     refine run_nil ?_
     refine done_ (by kernel_rfl) ?_
     try go_wp2
     go_ret
     exact ⟨by first | rfl | (simp [errW_none, errW_some] <;> rfl) | (simp [*, errW_none, errW_some] <;> rfl), hB⟩
    ·replace c15 := Bool.eq_false_iff.mpr c15
     subst c15
     have H1 : (none) = some r := by rw [if_neg (show ¬ (false = true) by decide)] at H; exact H
     clear H
     have H := H1
     clear H1
     exact absurd H (by simp)
  ·rw [if_neg c11] at H
   exact absurd H (by simp)

end Go.Proofs.YtjpfbkkikcpmhaaDoor.PFnExactCountRows
