-- Of this session's own program wip/gen/gen.py (it drives the kit's print): contracts of the functions that the law reaches.
import Derived.Test.YtjpfbkkikcpmhaaPFnExactStrangersBesidex0
import Derived.Test.YtjpfbkkikcpmhaaPFnExactStrangersBesidex1
import Derived.Test.YtjpfbkkikcpmhaaPFnExactStrangersBesidex3
import Derived.Test.YtjpfbkkikcpmhaaPFnExactStrangersBesidex4
import Derived.Test.YtjpfbkkikcpmhaaPFnExactStrangersBesidex6
namespace Go.Proofs.Ytjpfbkkikcpmhaa.PFnExactStrangersBeside
open Go.RowKit Go.Proofs.YtjpfbkkikcpmhaaW.PrintWords Go.Proofs.YtjpfbkkikcpmhaaW.PrintLast Go.Proofs.YtjpfbkkikcpmhaaW.PrintMore Go.Proofs.Ytjpfbkkikcpmhaa.Base
attribute [local go_sem] max2_int min2_int max_two min_two max_three min_three max_four min_four   -- for this text's walks alone
set_option linter.unusedVariables false
set_option linter.unusedSimpArgs false

/-! ### impl_StrangersBeside: function 10 -/
def impl_StrangersBeside.f (k : Nat) (a0_0 : Int) (l0_1 : List (S62)) (l1 : List Int) : Option (Int × Bool) := (impl_areSeats.f k a0_0 l0_1 l1 3).bind fun t217 => (if t217 = true then ((impl_Party_table.f k a0_0 l0_1).bind fun t218 => ((impl_table_strangers.f k t218 l1).bind fun t221 => (some (t221, true)))) else (some (0, false)))
theorem impl_StrangersBeside.mono : ∀ a0 a1 a2 k, LeO (impl_StrangersBeside.f k a0 a1 a2) (impl_StrangersBeside.f (k + 1) a0 a1 a2) := by
 intro a0 a1 a2 k
 unfold impl_StrangersBeside.f
 repeat' first
   | (with_reducible exact impl_Party_table.mono _ _ _)
   | (with_reducible exact impl_areSeats.mono _ _ _ _ _)
   | (with_reducible exact impl_table_strangers.mono _ _ _)
   | (with_reducible exact LeO.refl _)
   | (with_reducible exact LeO.none _)
   | (with_reducible refine LeO.ite ?_ ?_)
   | (with_reducible refine LeO.bind ?_ (fun _ => ?_))
   | exact impl_Party_table.mono _ _ _
   | exact impl_areSeats.mono _ _ _ _ _
   | exact impl_table_strangers.mono _ _ _
   | exact LeO.none _
   | refine LeO.ite ?_ ?_
   | refine LeO.bind ?_ (fun _ => ?_)
set_option maxHeartbeats 8000000 in
set_option maxRecDepth 100000 in
theorem impl_StrangersBeside.calls (k : Nat) (a0_0 : Int) (A0_1 : Option Addr) (c0_1 : Nat) (l0_1 : List (S62)) (A1 : Option Addr) (c1 : Nat) (l1 : List Int) (r1 : Int) (r2 : Bool) (w : World) (hr0_1 : Kd.C k62 w A0_1 l0_1.length l0_1) (hc0_1 : l0_1.length ≤ c0_1) (hr1 : Kd.C (Kd.int .i64) w A1 l1.length l1) (hc1 : l1.length ≤ c1) (h : impl_StrangersBeside.f k a0_0 l0_1 l1 = some (r1, r2)) :
  Calls Try.prog 10 #[.agg #[.int .i64 a0_0, .slice A0_1 l0_1.length c0_1], .slice A1 l1.length c1] w fun e w' => e = .returned (.tuple #[.int .i64 r1, .bool r2]) ∧ Below w.heap.size w w' := by
 have hu31 := Try.underlying31
 have HR0_1 := Aside0.mk hr0_1
 have HC0_1 := Aside0.mk hc0_1
 clear hr0_1 hc0_1
 have HR1 := Aside0.mk hr1
 have HC1 := Aside0.mk hc1
 clear hr1 hc1
 have HB := Aside0.mk (Below.refl w.heap.size w)
 have H : ((impl_areSeats.f k a0_0 l0_1 l1 3).bind fun t217 => (if t217 = true then ((impl_Party_table.f k a0_0 l0_1).bind fun t218 => ((impl_table_strangers.f k t218 l1).bind fun t221 => (some (t221, true)))) else (some (0, false)))) = some (r1, r2) := h
 clear h
 replace H := Option.bind_eq_some_iff.mp H
 obtain ⟨t217, A30, H⟩ := H
 try dsimp only at H
 have A3 := Aside0.mk A30
 clear A30
 by_cases c4 : t217 = true
 ·subst c4
  rw [if_pos rfl] at H
  replace H := Option.bind_eq_some_iff.mp H
  obtain ⟨t218, A50, H⟩ := H
  try dsimp only at H
  have A5 := Aside0.mk A50
  clear A50
  replace H := Option.bind_eq_some_iff.mp H
  obtain ⟨t221, A60, H⟩ := H
  replace H : (some (t221, true)) = some (r1, r2) := H
  have A6 := Aside0.mk A60
  clear A60
  simp only [Option.some.injEq, Prod.mk.injEq] at H
  obtain ⟨rfl, rfl⟩ := H
  go_enter Try.func10, Try.ntmps10
  go_wp2_with (first | ((with_reducible refine gate_dst (N := 2) rfl ?_); refine bxE 2 #[.int .i64 a0_0, .slice A0_1 l0_1.length c0_1] 31 rfl ?_; intro gb216 hg w7 hbox hb; have BK216 := Aside0.mk (hbox); have GW216 := gS HB hg; have GE216 := gS HB hg; replace HB := hS HB hb; clear hb hbox hg; have hcz8_0 := cz BK216 0; have hcz8_1 := cz BK216 1; have hfz8_0 := fz BK216 0; have hfz8_1 := fz BK216 1) | ((with_reducible refine gate_callee (f := 25) rfl ?_); refine goC (N := some 8) Try.func25 #[.agg #[.int .i64 a0_0, .slice A0_1 l0_1.length c0_1], .slice A1 l1.length c1, .int .i64 3] rfl ?_; (with_reducible refine (impl_areSeats.calls k a0_0 _ _ l0_1 _ _ l1 3 true _ ?side1 ?side2 ?side3 ?side4 A3.out).mono ?_); (case side1 => exact cS (Kd.C_below HR0_1.out HB.out)); (case side2 => exact HC0_1.out); (case side3 => exact cS (Kd.C_below HR1.out HB.out)); (case side4 => exact HC1.out); rintro e w9 ⟨rfl, hb⟩; refine ⟨_, rfl, ?_⟩; replace BK216 := bS BK216 hb; replace HB := hS HB hb; (try clear hb); (try clear hb2); (try clear hk); (try clear hi); have hcz10_0 := cz BK216 0; have hcz10_1 := cz BK216 1; have hfz10_0 := fz BK216 0; have hfz10_1 := fz BK216 1) | ((with_reducible refine gate_callee (f := 26) rfl ?_); refine goC (N := some 11) Try.func26 #[.agg #[.int .i64 a0_0, .slice A0_1 l0_1.length c0_1]] rfl ?_; (with_reducible refine (impl_Party_table.calls k a0_0 _ _ l0_1 t218 _ ?side1 ?side2 A5.out).mono ?_); (case side1 => exact cS (Kd.C_below HR0_1.out HB.out)); (case side2 => exact HC0_1.out); rintro e w11 ⟨v219, rfl, ho0, hb⟩; refine ⟨_, rfl, ?_⟩; have HO220 := Aside0.mk (Kd.R_lower ho0 (below_size hB)); replace BK216 := bS BK216 hb; replace HB := hS HB hb; (try clear hb); (try clear hb2); (try clear hk); (try clear hi); (try clear ho0); obtain ⟨Ao12, co12, eo12⟩ := Kd.R_slice HO220.out; subst eo12) | ((with_reducible refine gate_callee (f := 27) rfl ?_); refine goC (N := some 13) Try.func27 #[.slice Ao12 t218.length co12, .slice A1 l1.length c1] rfl ?_; (with_reducible refine (impl_table_strangers.calls k _ _ t218 _ _ l1 t221 _ ?side1 ?side2 ?side3 ?side4 A6.out).mono ?_); (case side1 => exact cS (Kd.R_reads' HO220.out).2.2); (case side2 => exact (Kd.R_reads' HO220.out).2.1); (case side3 => exact cS (Kd.C_below HR1.out HB.out)); (case side4 => exact HC1.out); rintro e w' ⟨rfl, ⟨nd, rfl⟩⟩; refine ⟨_, rfl, ?_⟩))
  go_ret2
  exact ⟨by first | rfl | (simp [errW_none, errW_some] <;> rfl) | (simp [*, errW_none, errW_some] <;> rfl), hB⟩
 ·replace c4 := Bool.eq_false_iff.mpr c4
  subst c4
  have H1 : (some (0, false)) = some (r1, r2) := by rw [if_neg (show ¬ (false = true) by decide)] at H; exact H
  clear H
  have H := H1
  clear H1
  simp only [Option.some.injEq, Prod.mk.injEq] at H
  obtain ⟨rfl, rfl⟩ := H
  go_enter Try.func10, Try.ntmps10
  go_wp2_with (first | ((with_reducible refine gate_dst (N := 2) rfl ?_); refine bxE 2 #[.int .i64 a0_0, .slice A0_1 l0_1.length c0_1] 31 rfl ?_; intro gb216 hg w13 hbox hb; have BK216 := Aside0.mk (hbox); have GW216 := gS HB hg; have GE216 := gS HB hg; replace HB := hS HB hb; clear hb hbox hg; have hcz14_0 := cz BK216 0; have hcz14_1 := cz BK216 1; have hfz14_0 := fz BK216 0; have hfz14_1 := fz BK216 1) | ((with_reducible refine gate_callee (f := 25) rfl ?_); refine goC (N := some 8) Try.func25 #[.agg #[.int .i64 a0_0, .slice A0_1 l0_1.length c0_1], .slice A1 l1.length c1, .int .i64 3] rfl ?_; (with_reducible refine (impl_areSeats.calls k a0_0 _ _ l0_1 _ _ l1 3 false _ ?side1 ?side2 ?side3 ?side4 A3.out).mono ?_); (case side1 => exact cS (Kd.C_below HR0_1.out HB.out)); (case side2 => exact HC0_1.out); (case side3 => exact cS (Kd.C_below HR1.out HB.out)); (case side4 => exact HC1.out); rintro e w15 ⟨rfl, hb⟩; refine ⟨_, rfl, ?_⟩; replace BK216 := bS BK216 hb; replace HB := hS HB hb; (try clear hb); (try clear hb2); (try clear hk); (try clear hi)))
  go_ret2
  exact ⟨by first | rfl | (simp [errW_none, errW_some] <;> rfl) | (simp [*, errW_none, errW_some] <;> rfl), hB⟩

/-! ### laws_eqPair: function 41 -/
def laws_eqPair.f (a0_0 : Int) (a0_1 : Int) (a1_0 : Int) (a1_1 : Int) : Option (Bool) := if a0_0 = a1_0 then (if a0_1 = a1_1 then (some true) else (some false)) else (some false)
set_option maxHeartbeats 8000000 in
set_option maxRecDepth 100000 in
theorem laws_eqPair.calls (a0_0 : Int) (a0_1 : Int) (a1_0 : Int) (a1_1 : Int) (r : Bool) (w : World) (h : laws_eqPair.f a0_0 a0_1 a1_0 a1_1 = some r) :
  Calls Try.prog 41 #[.agg #[.int .i64 a0_0, .int .i64 a0_1], .agg #[.int .i64 a1_0, .int .i64 a1_1]] w fun e w' => e = .returned (.bool r) ∧ Below w.heap.size w w' := by
 have hu62 := Try.underlying62
 have HB := Aside0.mk (Below.refl w.heap.size w)
 have H : (if a0_0 = a1_0 then (if a0_1 = a1_1 then (some true) else (some false)) else (some false)) = some r := h
 clear h
 by_cases c3 : a0_0 = a1_0
 ·rw [if_pos c3] at H
  have c3b0 : (a0_0 == a1_0) = true := beq_iff_eq.mpr c3
  have c3b1 : (a0_0 != a1_0) = false := bne_eq_false_iff_eq.mpr c3
  clear c3
  by_cases c4 : a0_1 = a1_1
  ·rw [if_pos c4] at H
   have c4b0 : (a0_1 == a1_1) = true := beq_iff_eq.mpr c4
   have c4b1 : (a0_1 != a1_1) = false := bne_eq_false_iff_eq.mpr c4
   clear c4
   obtain rfl := Option.some.inj H
   go_enter Try.func41, Try.ntmps41
   go_wp2_with (first | ((with_reducible refine gate_dst (N := 2) rfl ?_); refine bxE 2 #[.int .i64 a0_0, .int .i64 a0_1] 62 rfl ?_; intro gb222 hg w5 hbox hb; have BK222 := Aside0.mk (hbox); have GW222 := gS HB hg; have GE222 := gS HB hg; replace HB := hS HB hb; clear hb hbox hg) | ((with_reducible refine gate_dst (N := 3) rfl ?_); refine bxE 3 #[.int .i64 a1_0, .int .i64 a1_1] 62 rfl ?_; intro gb223 hg w6 hbox hb; have BK223 := Aside0.mk (hbox); have GW223 := gS HB hg; have GE223 := gS HB hg; have NB222_223 := nL BK222 hg; have NB223_222 := nG BK222 hg; replace BK222 := bS BK222 hb; replace HB := hS HB hb; clear hb hbox hg; have hnb7 := NB222_223.out; have hnc7 := NB223_222.out; have hcz8_0 := cz BK222 0; have hcz8_1 := cz BK222 1; have hfz8_0 := fz BK222 0; have hfz8_1 := fz BK222 1; have hcz9_0 := cz BK223 0; have hcz9_1 := cz BK223 1; have hfz9_0 := fz BK223 0; have hfz9_1 := fz BK223 1))
   go_ret
   exact ⟨by first | rfl | (simp [errW_none, errW_some] <;> rfl) | (simp [*, errW_none, errW_some] <;> rfl), hB⟩
  ·rw [if_neg c4] at H
   have c4b0 : (a0_1 == a1_1) = false := beq_eq_false_iff_ne.mpr c4
   have c4b1 : (a0_1 != a1_1) = true := bne_iff_ne.mpr c4
   obtain rfl := Option.some.inj H
   go_enter Try.func41, Try.ntmps41
   go_wp2_with (first | ((with_reducible refine gate_dst (N := 2) rfl ?_); refine bxE 2 #[.int .i64 a0_0, .int .i64 a0_1] 62 rfl ?_; intro gb222 hg w10 hbox hb; have BK222 := Aside0.mk (hbox); have GW222 := gS HB hg; have GE222 := gS HB hg; replace HB := hS HB hb; clear hb hbox hg) | ((with_reducible refine gate_dst (N := 3) rfl ?_); refine bxE 3 #[.int .i64 a1_0, .int .i64 a1_1] 62 rfl ?_; intro gb223 hg w11 hbox hb; have BK223 := Aside0.mk (hbox); have GW223 := gS HB hg; have GE223 := gS HB hg; have NB222_223 := nL BK222 hg; have NB223_222 := nG BK222 hg; replace BK222 := bS BK222 hb; replace HB := hS HB hb; clear hb hbox hg; have hnb12 := NB222_223.out; have hnc12 := NB223_222.out; have hcz13_0 := cz BK222 0; have hcz13_1 := cz BK222 1; have hfz13_0 := fz BK222 0; have hfz13_1 := fz BK222 1; have hcz14_0 := cz BK223 0; have hcz14_1 := cz BK223 1; have hfz14_0 := fz BK223 0; have hfz14_1 := fz BK223 1))
   go_ret
   exact ⟨by first | rfl | (simp [errW_none, errW_some] <;> rfl) | (simp [*, errW_none, errW_some] <;> rfl), hB⟩
 ·rw [if_neg c3] at H
  have c3b0 : (a0_0 == a1_0) = false := beq_eq_false_iff_ne.mpr c3
  have c3b1 : (a0_0 != a1_0) = true := bne_iff_ne.mpr c3
  obtain rfl := Option.some.inj H
  go_enter Try.func41, Try.ntmps41
  go_wp2_with (first | ((with_reducible refine gate_dst (N := 2) rfl ?_); refine bxE 2 #[.int .i64 a0_0, .int .i64 a0_1] 62 rfl ?_; intro gb222 hg w15 hbox hb; have BK222 := Aside0.mk (hbox); have GW222 := gS HB hg; have GE222 := gS HB hg; replace HB := hS HB hb; clear hb hbox hg) | ((with_reducible refine gate_dst (N := 3) rfl ?_); refine bxE 3 #[.int .i64 a1_0, .int .i64 a1_1] 62 rfl ?_; intro gb223 hg w16 hbox hb; have BK223 := Aside0.mk (hbox); have GW223 := gS HB hg; have GE223 := gS HB hg; have NB222_223 := nL BK222 hg; have NB223_222 := nG BK222 hg; replace BK222 := bS BK222 hb; replace HB := hS HB hb; clear hb hbox hg; have hnb17 := NB222_223.out; have hnc17 := NB223_222.out; have hcz18_0 := cz BK222 0; have hcz18_1 := cz BK222 1; have hfz18_0 := fz BK222 0; have hfz18_1 := fz BK222 1; have hcz19_0 := cz BK223 0; have hcz19_1 := cz BK223 1; have hfz19_0 := fz BK223 0; have hfz19_1 := fz BK223 1))
  go_ret
  exact ⟨by first | rfl | (simp [errW_none, errW_some] <;> rfl) | (simp [*, errW_none, errW_some] <;> rfl), hB⟩

/-! ### laws_eqPairS: function 28 -/
def laws_eqPairS.l0 : Nat → List (S62) → List (S62) → Int → Option (Bool)
 | 0, _, _, _ => none
 | k + 1, x0, x1, x5 => if x5 < (x0.length : Int) then (if 0 ≤ x5 then (if x5 < (x1.length : Int) then ((laws_eqPair.f ((rd_T62 x0 x5).f0) ((rd_T62 x0 x5).f1) ((rd_T62 x1 x5).f0) ((rd_T62 x1 x5).f1)).bind fun t226 => (if t226 = true then (laws_eqPairS.l0 k x0 x1 (wrap64 (x5 + 1))) else (some false))) else (none)) else (none)) else (some true)
def laws_eqPairS.f (k : Nat) (l0 : List (S62)) (l1 : List (S62)) : Option (Bool) := if (l0.length : Int) = (l1.length : Int) then (laws_eqPairS.l0 k l0 l1 0) else (some false)
theorem laws_eqPairS.mono_l : ∀ k, (∀ y0 y1 y2, LeO (laws_eqPairS.l0 k y0 y1 y2) (laws_eqPairS.l0 (k + 1) y0 y1 y2))
 | 0 => fun _ _ _ r h => by simp [laws_eqPairS.l0] at h
 | k + 1 => by
  have ih0 := laws_eqPairS.mono_l k
  ·intro y0 y1 y2
   unfold laws_eqPairS.l0
   repeat' first
   | (with_reducible exact ih0 _ _ _)
   | (with_reducible exact LeO.refl _)
   | (with_reducible exact LeO.none _)
   | (with_reducible refine LeO.ite ?_ ?_)
   | (with_reducible refine LeO.bind ?_ (fun _ => ?_))
   | exact ih0 _ _ _
   | exact LeO.none _
   | refine LeO.ite ?_ ?_
   | refine LeO.bind ?_ (fun _ => ?_)
theorem laws_eqPairS.mono : ∀ a0 a1 k, LeO (laws_eqPairS.f k a0 a1) (laws_eqPairS.f (k + 1) a0 a1) := by
 intro a0 a1 k
 have ih0 := laws_eqPairS.mono_l k
 unfold laws_eqPairS.f
 repeat' first
   | (with_reducible exact ih0 _ _ _)
   | (with_reducible exact LeO.refl _)
   | (with_reducible exact LeO.none _)
   | (with_reducible refine LeO.ite ?_ ?_)
   | (with_reducible refine LeO.bind ?_ (fun _ => ?_))
   | exact ih0 _ _ _
   | exact LeO.none _
   | refine LeO.ite ?_ ?_
   | refine LeO.bind ?_ (fun _ => ?_)
def laws_eqPairS.T6 : Bool × List (List Nat × List Nat) := (true, [([], []), ([], []), ([0, 1], [0, 1]), ([2], [2]), ([], []), ([], []), ([4, 5], [4, 5]), ([6], [6]), ([3, 7], [3, 7]), ([8], [8])])
def laws_eqPairS.B6 : List Nat := [0, 0, 3, 7, 0, 0, 48, 112, 255, 511]
theorem laws_eqPairS.tab6 : rtab .any (opsOf Try.f28 6) = laws_eqPairS.T6 := by kernel_rfl
theorem laws_eqPairS.bits6 : waitsOk laws_eqPairS.T6.2 laws_eqPairS.B6 = true := by kernel_rfl
set_option maxHeartbeats 8000000 in
set_option maxRecDepth 100000 in
theorem laws_eqPairS.calls (k : Nat) (A0 : Option Addr) (c0 : Nat) (l0 : List (S62)) (A1 : Option Addr) (c1 : Nat) (l1 : List (S62)) (r : Bool) (w : World) (hr0 : Kd.C k62 w A0 l0.length l0) (hc0 : l0.length ≤ c0) (hr1 : Kd.C k62 w A1 l1.length l1) (hc1 : l1.length ≤ c1) (h : laws_eqPairS.f k l0 l1 = some r) :
  Calls Try.prog 28 #[.slice A0 l0.length c0, .slice A1 l1.length c1] w fun e w' => e = .returned (.bool r) ∧ Below w.heap.size w w' := by
 have hu62 := Try.underlying62
 have HR0 := Aside0.mk hr0
 have HC0 := Aside0.mk hc0
 clear hr0 hc0
 have HR1 := Aside0.mk hr1
 have HC1 := Aside0.mk hc1
 clear hr1 hc1
 have HB := Aside0.mk (Below.refl w.heap.size w)
 have H : (if (l0.length : Int) = (l1.length : Int) then (laws_eqPairS.l0 k l0 l1 0) else (some false)) = some r := h
 clear h
 by_cases c3 : (l0.length : Int) = (l1.length : Int)
 ·rw [if_pos c3] at H
  have c3b0 : ((l0.length : Int) == (l1.length : Int)) = true := beq_iff_eq.mpr c3
  have c3b1 : ((l0.length : Int) != (l1.length : Int)) = false := bne_eq_false_iff_eq.mpr c3
  have c3b2 : (l0.length == l1.length) = true := by first | simpa using c3 | (simp at c3 ⊢; omega)
  clear c3
  have H' := Aside0.mk H
  clear H
  go_enter Try.func28, Try.ntmps28
  go_wp2
  go_loopg [5] k (fun kq v5 w' => ∃ (x5_1 : Int), v5 = .int .i64 x5_1 ∧ Aside0 (laws_eqPairS.l0 kq l0 l1 x5_1 = some r) ∧ Aside0 (kq ≤ k) ∧ Aside0 (Below w.heap.size w w'))
  case atStart => exact ⟨(0), (by first | rfl | (simp; done) | (simp [*]; done)), H', ⟨Nat.le_refl _⟩, ⟨hB⟩⟩
  case round =>
   clear H'
   try clear c1
   try clear c2
   try clear p2
   try clear c3
   try clear c3b0
   try clear c3b1
   try clear c3b2
   obtain ⟨x5_1, rfl, HA, HK1, HB⟩ := hrel
   cases gk with
   | zero => exact absurd HA.out (by simp [laws_eqPairS.l0])
   | succ k1 =>
    have H := HA.out
    clear HA
    simp only [laws_eqPairS.l0] at H
    by_cases c4 : x5_1 < (l0.length : Int)
    ·rw [if_pos c4] at H
     have c4b0 : decide (x5_1 < (l0.length : Int)) = true := decide_eq_true c4
     clear c4
     by_cases c5 : 0 ≤ x5_1
     ·rw [if_pos c5] at H
      have c5b0 : decide (0 ≤ x5_1) = true := decide_eq_true c5
      clear c5
      by_cases c6 : x5_1 < (l1.length : Int)
      ·rw [if_pos c6] at H
       have c6b0 : decide (x5_1 < (l1.length : Int)) = true := decide_eq_true c6
       clear c6
       replace H := Option.bind_eq_some_iff.mp H
       obtain ⟨t226, A70, H⟩ := H
       try dsimp only at H
       have A7 := Aside0.mk A70
       clear A70
       by_cases c8 : t226 = true
       ·subst c8
        rw [if_pos rfl] at H
        have H' := Aside0.mk H
        clear H
        try go_wp2
        replace HB := Aside0.mk (below_drew1 HB.out)
        have p224 : 0 ≤ (x5_1 : Int) := of_decide_eq_true (by first | (with_reducible assumption) | assumption)
        have q224 : x5_1 < (l0.length : Int) := of_decide_eq_true (by first | (with_reducible assumption) | assumption)
        obtain ⟨ad224, e224, hx224_0, hx224_1⟩ := at_T62 HR0.out x5_1 p224 q224
        have hw224_1 := hx224_1
        have hw224_0 := hx224_0
        cases e224
        replace hx224_0 := (HB.out.cell (World.block_lt_of_cell? w _ hx224_0)).trans hx224_0
        replace hx224_1 := (HB.out.cell (World.block_lt_of_cell? w _ hx224_1)).trans hx224_1
        replace p224 := eq_true p224
        replace q224 := eq_true q224
        have p225 : 0 ≤ (x5_1 : Int) := of_decide_eq_true (by first | (with_reducible assumption) | assumption)
        have q225 : x5_1 < (l1.length : Int) := of_decide_eq_true (by first | (with_reducible assumption) | assumption)
        obtain ⟨ad225, e225, hx225_0, hx225_1⟩ := at_T62 HR1.out x5_1 p225 q225
        have hw225_1 := hx225_1
        have hw225_0 := hx225_0
        cases e225
        replace hx225_0 := (HB.out.cell (World.block_lt_of_cell? w _ hx225_0)).trans hx225_0
        replace hx225_1 := (HB.out.cell (World.block_lt_of_cell? w _ hx225_1)).trans hx225_1
        replace p225 := eq_true p225
        replace q225 := eq_true q225
        refine start_ (n := 10) (S := fun w' => w'.cell? (ad224.add ((x5_1).toNat * 2)) = some (.int .i64 ((rd_T62 l0 x5_1).f0)) ∧ w'.cell? ⟨(ad224.add ((x5_1).toNat * 2)).block, (ad224.add ((x5_1).toNat * 2)).off + 1, none⟩ = some (.int .i64 ((rd_T62 l0 x5_1).f1)) ∧ w'.cell? (ad225.add ((x5_1).toNat * 2)) = some (.int .i64 ((rd_T62 l1 x5_1).f0)) ∧ w'.cell? ⟨(ad225.add ((x5_1).toNat * 2)).block, (ad225.add ((x5_1).toNat * 2)).off + 1, none⟩ = some (.int .i64 ((rd_T62 l1 x5_1).f1))) (ds := []) (bz 10 0) (by kernel_rfl) rfl rfl ⟨((HB.out.cell (World.block_lt_of_cell? w _ hw224_0)).trans hw224_0), ((HB.out.cell (World.block_lt_of_cell? w _ hw224_1)).trans hw224_1), ((HB.out.cell (World.block_lt_of_cell? w _ hw225_0)).trans hw225_0), ((HB.out.cell (World.block_lt_of_cell? w _ hw225_1)).trans hw225_1)⟩ (fun hHeld => ?_); refine with_tabW laws_eqPairS.tab6 laws_eqPairS.bits6 (fun HT_ HW_ => ?_)
        generalize wr.drew = w9 at HB hx224_0 hx224_1 hx225_0 hx225_1 hHeld ⊢
        refine run_ [(0, 0, 1, some 17), (0, 1, 3, some 18), (0, 2, 7, some 19), (0, 4, 23, some 21), (0, 5, 55, some 22), (0, 6, 119, some 23), (1, 3, 127, some 20), (1, 7, 255, some 24)] ?_
        repeat (first | (apply tag0; refine run_p (v := ?_) (a' := ?_) rfl rfl (any_of HT_.out (by kernel_rfl)) (fun _ _ _ h => h) (by rfl) ?_ ?_ ?_; rotate_left 2; (intro w'; go_simp; with_reducible rfl); (first | (simp only [Act.put, List.setIfInBounds_toArray, List.set_cons_zero, List.set_cons_succ, i64_w, i32_w]; rfl) | rfl)) | (apply tag1; refine run_t (v := ?_) (a' := ?_) rfl rfl (take_ofW HT_.out HW_.out (by kernel_rfl)) (fun _ _ _ h => h) (by rfl) ?_ hHeld ?_ ?_; rotate_left 2; (rintro w' ⟨s0, s1, s2, s3⟩; go_simp; with_reducible rfl); (first | (simp only [Act.put, List.setIfInBounds_toArray, List.set_cons_zero, List.set_cons_succ, i64_w, i32_w]; rfl) | rfl)))
        refine run_nil ?_
        refine one_ (i := 8) (N := some 25) (bz 10 511) rfl rfl (one_of HT_.out (by kernel_rfl)) (by decide) (fun K hK => ?_)
        refine goes_ Try.func41 (by kernel_rfl) rfl #[.agg #[.int .i64 ((rd_T62 l0 x5_1).f0), .int .i64 ((rd_T62 l0 x5_1).f1)], .agg #[.int .i64 ((rd_T62 l1 x5_1).f0), .int .i64 ((rd_T62 l1 x5_1).f1)]] (by rfl) rfl rfl mapT ?_
        with_reducible refine (laws_eqPair.calls ((rd_T62 l0 x5_1).f0) ((rd_T62 l0 x5_1).f1) ((rd_T62 l1 x5_1).f0) ((rd_T62 l1 x5_1).f1) true _ A7.out).mono ?_
        rintro e w10 ⟨rfl, hb⟩
        refine ⟨_, rfl, ?_⟩
        replace HB := hS HB hb
        (try clear hb)
        (try clear hb2)
        (try clear hk)
        (try clear hi)
        refine hK.out _ _ ⟨((HB.out.cell (World.block_lt_of_cell? w _ hw224_0)).trans hw224_0), ((HB.out.cell (World.block_lt_of_cell? w _ hw224_1)).trans hw224_1), ((HB.out.cell (World.block_lt_of_cell? w _ hw225_0)).trans hw225_0), ((HB.out.cell (World.block_lt_of_cell? w _ hw225_1)).trans hw225_1)⟩ (fun hHeld => ?_)
        clear hK K
        refine norm_ (a' := ?_) ?_ ?_
        rotate_left
        ·show Act.put _ (some 25) _ = _
         simp only [Act.put, List.setIfInBounds_toArray, List.set_cons_zero, List.set_cons_succ, i64_w, i32_w]
         rfl
        refine run_ [(0, 9, 1023, some 26)] ?_
        repeat ((apply tag0; refine run_p (v := ?_) (a' := ?_) rfl rfl (any_of HT_.out (by kernel_rfl)) (fun _ _ _ h => h) (by rfl) ?_ ?_ ?_; rotate_left 2; (intro w'; go_simp; with_reducible rfl); (first | (simp only [Act.put, List.setIfInBounds_toArray, List.set_cons_zero, List.set_cons_succ, i64_w, i32_w]; rfl) | rfl)))
        refine run_nil ?_
        refine done_ (done_of HT_.out (by kernel_rfl)) ?_
        try go_wp2
        go_roundg k1
        case measure => have := HK1.out; omega
        case rel => exact ⟨(wrap64 (x5_1 + 1)), (by first | rfl | (simp; done) | (simp [*]; done)), H', ⟨by have := HK1.out; omega⟩, ⟨hB⟩⟩
       ·replace c8 := Bool.eq_false_iff.mpr c8
        subst c8
        have H1 : (some false) = some r := by rw [if_neg (show ¬ (false = true) by decide)] at H; exact H
        clear H
        have H := H1
        clear H1
        obtain rfl := Option.some.inj H
        try go_wp2
        replace HB := Aside0.mk (below_drew1 HB.out)
        have p224 : 0 ≤ (x5_1 : Int) := of_decide_eq_true (by first | (with_reducible assumption) | assumption)
        have q224 : x5_1 < (l0.length : Int) := of_decide_eq_true (by first | (with_reducible assumption) | assumption)
        obtain ⟨ad224, e224, hx224_0, hx224_1⟩ := at_T62 HR0.out x5_1 p224 q224
        have hw224_1 := hx224_1
        have hw224_0 := hx224_0
        cases e224
        replace hx224_0 := (HB.out.cell (World.block_lt_of_cell? w _ hx224_0)).trans hx224_0
        replace hx224_1 := (HB.out.cell (World.block_lt_of_cell? w _ hx224_1)).trans hx224_1
        replace p224 := eq_true p224
        replace q224 := eq_true q224
        have p225 : 0 ≤ (x5_1 : Int) := of_decide_eq_true (by first | (with_reducible assumption) | assumption)
        have q225 : x5_1 < (l1.length : Int) := of_decide_eq_true (by first | (with_reducible assumption) | assumption)
        obtain ⟨ad225, e225, hx225_0, hx225_1⟩ := at_T62 HR1.out x5_1 p225 q225
        have hw225_1 := hx225_1
        have hw225_0 := hx225_0
        cases e225
        replace hx225_0 := (HB.out.cell (World.block_lt_of_cell? w _ hx225_0)).trans hx225_0
        replace hx225_1 := (HB.out.cell (World.block_lt_of_cell? w _ hx225_1)).trans hx225_1
        replace p225 := eq_true p225
        replace q225 := eq_true q225
        refine start_ (n := 10) (S := fun w' => w'.cell? (ad224.add ((x5_1).toNat * 2)) = some (.int .i64 ((rd_T62 l0 x5_1).f0)) ∧ w'.cell? ⟨(ad224.add ((x5_1).toNat * 2)).block, (ad224.add ((x5_1).toNat * 2)).off + 1, none⟩ = some (.int .i64 ((rd_T62 l0 x5_1).f1)) ∧ w'.cell? (ad225.add ((x5_1).toNat * 2)) = some (.int .i64 ((rd_T62 l1 x5_1).f0)) ∧ w'.cell? ⟨(ad225.add ((x5_1).toNat * 2)).block, (ad225.add ((x5_1).toNat * 2)).off + 1, none⟩ = some (.int .i64 ((rd_T62 l1 x5_1).f1))) (ds := []) (bz 10 0) (by kernel_rfl) rfl rfl ⟨((HB.out.cell (World.block_lt_of_cell? w _ hw224_0)).trans hw224_0), ((HB.out.cell (World.block_lt_of_cell? w _ hw224_1)).trans hw224_1), ((HB.out.cell (World.block_lt_of_cell? w _ hw225_0)).trans hw225_0), ((HB.out.cell (World.block_lt_of_cell? w _ hw225_1)).trans hw225_1)⟩ (fun hHeld => ?_); refine with_tabW laws_eqPairS.tab6 laws_eqPairS.bits6 (fun HT_ HW_ => ?_)
        generalize wr.drew = w11 at HB hx224_0 hx224_1 hx225_0 hx225_1 hHeld ⊢
        refine run_ [(0, 0, 1, some 17), (0, 1, 3, some 18), (0, 2, 7, some 19), (0, 4, 23, some 21), (0, 5, 55, some 22), (0, 6, 119, some 23), (1, 3, 127, some 20), (1, 7, 255, some 24)] ?_
        repeat (first | (apply tag0; refine run_p (v := ?_) (a' := ?_) rfl rfl (any_of HT_.out (by kernel_rfl)) (fun _ _ _ h => h) (by rfl) ?_ ?_ ?_; rotate_left 2; (intro w'; go_simp; with_reducible rfl); (first | (simp only [Act.put, List.setIfInBounds_toArray, List.set_cons_zero, List.set_cons_succ, i64_w, i32_w]; rfl) | rfl)) | (apply tag1; refine run_t (v := ?_) (a' := ?_) rfl rfl (take_ofW HT_.out HW_.out (by kernel_rfl)) (fun _ _ _ h => h) (by rfl) ?_ hHeld ?_ ?_; rotate_left 2; (rintro w' ⟨s0, s1, s2, s3⟩; go_simp; with_reducible rfl); (first | (simp only [Act.put, List.setIfInBounds_toArray, List.set_cons_zero, List.set_cons_succ, i64_w, i32_w]; rfl) | rfl)))
        refine run_nil ?_
        refine one_ (i := 8) (N := some 25) (bz 10 511) rfl rfl (one_of HT_.out (by kernel_rfl)) (by decide) (fun K hK => ?_)
        refine goes_ Try.func41 (by kernel_rfl) rfl #[.agg #[.int .i64 ((rd_T62 l0 x5_1).f0), .int .i64 ((rd_T62 l0 x5_1).f1)], .agg #[.int .i64 ((rd_T62 l1 x5_1).f0), .int .i64 ((rd_T62 l1 x5_1).f1)]] (by rfl) rfl rfl mapT ?_
        with_reducible refine (laws_eqPair.calls ((rd_T62 l0 x5_1).f0) ((rd_T62 l0 x5_1).f1) ((rd_T62 l1 x5_1).f0) ((rd_T62 l1 x5_1).f1) false _ A7.out).mono ?_
        rintro e w12 ⟨rfl, hb⟩
        refine ⟨_, rfl, ?_⟩
        replace HB := hS HB hb
        (try clear hb)
        (try clear hb2)
        (try clear hk)
        (try clear hi)
        refine hK.out _ _ ⟨((HB.out.cell (World.block_lt_of_cell? w _ hw224_0)).trans hw224_0), ((HB.out.cell (World.block_lt_of_cell? w _ hw224_1)).trans hw224_1), ((HB.out.cell (World.block_lt_of_cell? w _ hw225_0)).trans hw225_0), ((HB.out.cell (World.block_lt_of_cell? w _ hw225_1)).trans hw225_1)⟩ (fun hHeld => ?_)
        clear hK K
        refine norm_ (a' := ?_) ?_ ?_
        rotate_left
        ·show Act.put _ (some 25) _ = _
         simp only [Act.put, List.setIfInBounds_toArray, List.set_cons_zero, List.set_cons_succ, i64_w, i32_w]
         rfl
        refine run_ [(0, 9, 1023, some 26)] ?_
        repeat ((apply tag0; refine run_p (v := ?_) (a' := ?_) rfl rfl (any_of HT_.out (by kernel_rfl)) (fun _ _ _ h => h) (by rfl) ?_ ?_ ?_; rotate_left 2; (intro w'; go_simp; with_reducible rfl); (first | (simp only [Act.put, List.setIfInBounds_toArray, List.set_cons_zero, List.set_cons_succ, i64_w, i32_w]; rfl) | rfl)))
        refine run_nil ?_
        refine done_ (done_of HT_.out (by kernel_rfl)) ?_
        try go_wp2
        go_ret
        exact ⟨by first | rfl | (simp [errW_none, errW_some] <;> rfl) | (simp [*, errW_none, errW_some] <;> rfl), hB⟩
      ·rw [if_neg c6] at H
       exact absurd H (by simp)
     ·rw [if_neg c5] at H
      exact absurd H (by simp)
    ·rw [if_neg c4] at H
     have c4b0 : decide (x5_1 < (l0.length : Int)) = false := decide_eq_false c4
     clear c4
     obtain rfl := Option.some.inj H
     go_wp2
     go_ret
     exact ⟨by first | rfl | (simp [errW_none, errW_some] <;> rfl) | (simp [*, errW_none, errW_some] <;> rfl), hB⟩
 ·rw [if_neg c3] at H
  have c3b0 : ((l0.length : Int) == (l1.length : Int)) = false := beq_eq_false_iff_ne.mpr c3
  have c3b1 : ((l0.length : Int) != (l1.length : Int)) = true := bne_iff_ne.mpr c3
  have c3b2 : (l0.length == l1.length) = false := by first | simpa using c3 | (simp at c3 ⊢; omega)
  obtain rfl := Option.some.inj H
  go_enter Try.func28, Try.ntmps28
  go_wp2
  go_ret
  exact ⟨by first | rfl | (simp [errW_none, errW_some] <;> rfl) | (simp [*, errW_none, errW_some] <;> rfl), hB⟩

/-! ### laws_eqParty: function 11 -/
def laws_eqParty.f (k : Nat) (a0_0 : Int) (l0_1 : List (S62)) (a1_0 : Int) (l1_1 : List (S62)) : Option (Bool) := if a0_0 = a1_0 then ((laws_eqPairS.f k l0_1 l1_1).bind fun t229 => (if t229 = true then (some true) else (some false))) else (some false)
theorem laws_eqParty.mono : ∀ a0 a1 a2 a3 k, LeO (laws_eqParty.f k a0 a1 a2 a3) (laws_eqParty.f (k + 1) a0 a1 a2 a3) := by
 intro a0 a1 a2 a3 k
 unfold laws_eqParty.f
 repeat' first
   | (with_reducible exact laws_eqPairS.mono _ _ _)
   | (with_reducible exact LeO.refl _)
   | (with_reducible exact LeO.none _)
   | (with_reducible refine LeO.ite ?_ ?_)
   | (with_reducible refine LeO.bind ?_ (fun _ => ?_))
   | exact laws_eqPairS.mono _ _ _
   | exact LeO.none _
   | refine LeO.ite ?_ ?_
   | refine LeO.bind ?_ (fun _ => ?_)
set_option maxHeartbeats 8000000 in
set_option maxRecDepth 100000 in
theorem laws_eqParty.calls (k : Nat) (a0_0 : Int) (A0_1 : Option Addr) (c0_1 : Nat) (l0_1 : List (S62)) (a1_0 : Int) (A1_1 : Option Addr) (c1_1 : Nat) (l1_1 : List (S62)) (r : Bool) (w : World) (hr0_1 : Kd.C k62 w A0_1 l0_1.length l0_1) (hc0_1 : l0_1.length ≤ c0_1) (hr1_1 : Kd.C k62 w A1_1 l1_1.length l1_1) (hc1_1 : l1_1.length ≤ c1_1) (h : laws_eqParty.f k a0_0 l0_1 a1_0 l1_1 = some r) :
  Calls Try.prog 11 #[.agg #[.int .i64 a0_0, .slice A0_1 l0_1.length c0_1], .agg #[.int .i64 a1_0, .slice A1_1 l1_1.length c1_1]] w fun e w' => e = .returned (.bool r) ∧ Below w.heap.size w w' := by
 have hu31 := Try.underlying31
 have HR0_1 := Aside0.mk hr0_1
 have HC0_1 := Aside0.mk hc0_1
 clear hr0_1 hc0_1
 have HR1_1 := Aside0.mk hr1_1
 have HC1_1 := Aside0.mk hc1_1
 clear hr1_1 hc1_1
 have HB := Aside0.mk (Below.refl w.heap.size w)
 have H : (if a0_0 = a1_0 then ((laws_eqPairS.f k l0_1 l1_1).bind fun t229 => (if t229 = true then (some true) else (some false))) else (some false)) = some r := h
 clear h
 by_cases c3 : a0_0 = a1_0
 ·rw [if_pos c3] at H
  have c3b0 : (a0_0 == a1_0) = true := beq_iff_eq.mpr c3
  have c3b1 : (a0_0 != a1_0) = false := bne_eq_false_iff_eq.mpr c3
  clear c3
  replace H := Option.bind_eq_some_iff.mp H
  obtain ⟨t229, A40, H⟩ := H
  try dsimp only at H
  have A4 := Aside0.mk A40
  clear A40
  by_cases c5 : t229 = true
  ·subst c5
   have H1 : (some true) = some r := by rw [if_pos rfl] at H; exact H
   clear H
   have H := H1
   clear H1
   obtain rfl := Option.some.inj H
   go_enter Try.func11, Try.ntmps11
   go_wp2_with (first | ((with_reducible refine gate_dst (N := 2) rfl ?_); refine bxE 2 #[.int .i64 a0_0, .slice A0_1 l0_1.length c0_1] 31 rfl ?_; intro gb227 hg w6 hbox hb; have BK227 := Aside0.mk (hbox); have GW227 := gS HB hg; have GE227 := gS HB hg; replace HB := hS HB hb; clear hb hbox hg) | ((with_reducible refine gate_dst (N := 3) rfl ?_); refine bxE 3 #[.int .i64 a1_0, .slice A1_1 l1_1.length c1_1] 31 rfl ?_; intro gb228 hg w7 hbox hb; have BK228 := Aside0.mk (hbox); have GW228 := gS HB hg; have GE228 := gS HB hg; have NB227_228 := nL BK227 hg; have NB228_227 := nG BK227 hg; replace BK227 := bS BK227 hb; replace HB := hS HB hb; clear hb hbox hg; have hnb8 := NB227_228.out; have hnc8 := NB228_227.out; have hcz9_0 := cz BK227 0; have hcz9_1 := cz BK227 1; have hfz9_0 := fz BK227 0; have hfz9_1 := fz BK227 1; have hcz10_0 := cz BK228 0; have hcz10_1 := cz BK228 1; have hfz10_0 := fz BK228 0; have hfz10_1 := fz BK228 1) | ((with_reducible refine gate_callee (f := 28) rfl ?_); refine goC (N := some 14) Try.func28 #[.slice A0_1 l0_1.length c0_1, .slice A1_1 l1_1.length c1_1] rfl ?_; (with_reducible refine (laws_eqPairS.calls k _ _ l0_1 _ _ l1_1 true _ ?side1 ?side2 ?side3 ?side4 A4.out).mono ?_); (case side1 => exact cS (Kd.C_below HR0_1.out HB.out)); (case side2 => exact HC0_1.out); (case side3 => exact cS (Kd.C_below HR1_1.out HB.out)); (case side4 => exact HC1_1.out); rintro e w11 ⟨rfl, hb⟩; refine ⟨_, rfl, ?_⟩; replace BK227 := bS BK227 hb; replace BK228 := bS BK228 hb; replace HB := hS HB hb; (try clear hb); (try clear hb2); (try clear hk); (try clear hi)))
   go_ret
   exact ⟨by first | rfl | (simp [errW_none, errW_some] <;> rfl) | (simp [*, errW_none, errW_some] <;> rfl), hB⟩
  ·replace c5 := Bool.eq_false_iff.mpr c5
   subst c5
   have H1 : (some false) = some r := by rw [if_neg (show ¬ (false = true) by decide)] at H; exact H
   clear H
   have H := H1
   clear H1
   obtain rfl := Option.some.inj H
   go_enter Try.func11, Try.ntmps11
   go_wp2_with (first | ((with_reducible refine gate_dst (N := 2) rfl ?_); refine bxE 2 #[.int .i64 a0_0, .slice A0_1 l0_1.length c0_1] 31 rfl ?_; intro gb227 hg w12 hbox hb; have BK227 := Aside0.mk (hbox); have GW227 := gS HB hg; have GE227 := gS HB hg; replace HB := hS HB hb; clear hb hbox hg) | ((with_reducible refine gate_dst (N := 3) rfl ?_); refine bxE 3 #[.int .i64 a1_0, .slice A1_1 l1_1.length c1_1] 31 rfl ?_; intro gb228 hg w13 hbox hb; have BK228 := Aside0.mk (hbox); have GW228 := gS HB hg; have GE228 := gS HB hg; have NB227_228 := nL BK227 hg; have NB228_227 := nG BK227 hg; replace BK227 := bS BK227 hb; replace HB := hS HB hb; clear hb hbox hg; have hnb14 := NB227_228.out; have hnc14 := NB228_227.out; have hcz15_0 := cz BK227 0; have hcz15_1 := cz BK227 1; have hfz15_0 := fz BK227 0; have hfz15_1 := fz BK227 1; have hcz16_0 := cz BK228 0; have hcz16_1 := cz BK228 1; have hfz16_0 := fz BK228 0; have hfz16_1 := fz BK228 1) | ((with_reducible refine gate_callee (f := 28) rfl ?_); refine goC (N := some 14) Try.func28 #[.slice A0_1 l0_1.length c0_1, .slice A1_1 l1_1.length c1_1] rfl ?_; (with_reducible refine (laws_eqPairS.calls k _ _ l0_1 _ _ l1_1 false _ ?side1 ?side2 ?side3 ?side4 A4.out).mono ?_); (case side1 => exact cS (Kd.C_below HR0_1.out HB.out)); (case side2 => exact HC0_1.out); (case side3 => exact cS (Kd.C_below HR1_1.out HB.out)); (case side4 => exact HC1_1.out); rintro e w17 ⟨rfl, hb⟩; refine ⟨_, rfl, ?_⟩; replace BK227 := bS BK227 hb; replace BK228 := bS BK228 hb; replace HB := hS HB hb; (try clear hb); (try clear hb2); (try clear hk); (try clear hi)))
   go_ret
   exact ⟨by first | rfl | (simp [errW_none, errW_some] <;> rfl) | (simp [*, errW_none, errW_some] <;> rfl), hB⟩
 ·rw [if_neg c3] at H
  have c3b0 : (a0_0 == a1_0) = false := beq_eq_false_iff_ne.mpr c3
  have c3b1 : (a0_0 != a1_0) = true := bne_iff_ne.mpr c3
  obtain rfl := Option.some.inj H
  go_enter Try.func11, Try.ntmps11
  go_wp2_with (first | ((with_reducible refine gate_dst (N := 2) rfl ?_); refine bxE 2 #[.int .i64 a0_0, .slice A0_1 l0_1.length c0_1] 31 rfl ?_; intro gb227 hg w18 hbox hb; have BK227 := Aside0.mk (hbox); have GW227 := gS HB hg; have GE227 := gS HB hg; replace HB := hS HB hb; clear hb hbox hg) | ((with_reducible refine gate_dst (N := 3) rfl ?_); refine bxE 3 #[.int .i64 a1_0, .slice A1_1 l1_1.length c1_1] 31 rfl ?_; intro gb228 hg w19 hbox hb; have BK228 := Aside0.mk (hbox); have GW228 := gS HB hg; have GE228 := gS HB hg; have NB227_228 := nL BK227 hg; have NB228_227 := nG BK227 hg; replace BK227 := bS BK227 hb; replace HB := hS HB hb; clear hb hbox hg; have hnb20 := NB227_228.out; have hnc20 := NB228_227.out; have hcz21_0 := cz BK227 0; have hcz21_1 := cz BK227 1; have hfz21_0 := fz BK227 0; have hfz21_1 := fz BK227 1; have hcz22_0 := cz BK228 0; have hcz22_1 := cz BK228 1; have hfz22_0 := fz BK228 0; have hfz22_1 := fz BK228 1))
  go_ret
  exact ⟨by first | rfl | (simp [errW_none, errW_some] <;> rfl) | (simp [*, errW_none, errW_some] <;> rfl), hB⟩

/-! ### laws_eqIntS: function 12 -/
def laws_eqIntS.l0 : Nat → List Int → List Int → Int → Option (Bool)
 | 0, _, _, _ => none
 | k + 1, x0, x1, x5 => if x5 < (x0.length : Int) then (if 0 ≤ x5 then (if x5 < (x1.length : Int) then (if (rd x0 x5) = (rd x1 x5) then (laws_eqIntS.l0 k x0 x1 (wrap64 (x5 + 1))) else (some false)) else (none)) else (none)) else (some true)
def laws_eqIntS.f (k : Nat) (l0 : List Int) (l1 : List Int) : Option (Bool) := if (l0.length : Int) = (l1.length : Int) then (laws_eqIntS.l0 k l0 l1 0) else (some false)
theorem laws_eqIntS.mono_l : ∀ k, (∀ y0 y1 y2, LeO (laws_eqIntS.l0 k y0 y1 y2) (laws_eqIntS.l0 (k + 1) y0 y1 y2))
 | 0 => fun _ _ _ r h => by simp [laws_eqIntS.l0] at h
 | k + 1 => by
  have ih0 := laws_eqIntS.mono_l k
  ·intro y0 y1 y2
   unfold laws_eqIntS.l0
   repeat' first
   | (with_reducible exact ih0 _ _ _)
   | (with_reducible exact LeO.refl _)
   | (with_reducible exact LeO.none _)
   | (with_reducible refine LeO.ite ?_ ?_)
   | (with_reducible refine LeO.bind ?_ (fun _ => ?_))
   | exact ih0 _ _ _
   | exact LeO.none _
   | refine LeO.ite ?_ ?_
   | refine LeO.bind ?_ (fun _ => ?_)
theorem laws_eqIntS.mono : ∀ a0 a1 k, LeO (laws_eqIntS.f k a0 a1) (laws_eqIntS.f (k + 1) a0 a1) := by
 intro a0 a1 k
 have ih0 := laws_eqIntS.mono_l k
 unfold laws_eqIntS.f
 repeat' first
   | (with_reducible exact ih0 _ _ _)
   | (with_reducible exact LeO.refl _)
   | (with_reducible exact LeO.none _)
   | (with_reducible refine LeO.ite ?_ ?_)
   | (with_reducible refine LeO.bind ?_ (fun _ => ?_))
   | exact ih0 _ _ _
   | exact LeO.none _
   | refine LeO.ite ?_ ?_
   | refine LeO.bind ?_ (fun _ => ?_)
set_option maxHeartbeats 8000000 in
set_option maxRecDepth 100000 in
theorem laws_eqIntS.calls (k : Nat) (A0 : Option Addr) (c0 : Nat) (l0 : List Int) (A1 : Option Addr) (c1 : Nat) (l1 : List Int) (r : Bool) (w : World) (hr0 : Kd.C (Kd.int .i64) w A0 l0.length l0) (hc0 : l0.length ≤ c0) (hr1 : Kd.C (Kd.int .i64) w A1 l1.length l1) (hc1 : l1.length ≤ c1) (h : laws_eqIntS.f k l0 l1 = some r) :
  Calls Try.prog 12 #[.slice A0 l0.length c0, .slice A1 l1.length c1] w fun e w' => e = .returned (.bool r) ∧ Drawn0 w w' := by
 have HR0 := Aside0.mk hr0
 have HC0 := Aside0.mk hc0
 clear hr0 hc0
 have HR1 := Aside0.mk hr1
 have HC1 := Aside0.mk hc1
 clear hr1 hc1
 have H : (if (l0.length : Int) = (l1.length : Int) then (laws_eqIntS.l0 k l0 l1 0) else (some false)) = some r := h
 clear h
 by_cases c3 : (l0.length : Int) = (l1.length : Int)
 ·rw [if_pos c3] at H
  have c3b0 : ((l0.length : Int) == (l1.length : Int)) = true := beq_iff_eq.mpr c3
  have c3b1 : ((l0.length : Int) != (l1.length : Int)) = false := bne_eq_false_iff_eq.mpr c3
  have c3b2 : (l0.length == l1.length) = true := by first | simpa using c3 | (simp at c3 ⊢; omega)
  clear c3
  have H' := Aside0.mk H
  clear H
  go_enter Try.func12, Try.ntmps12
  go_wp2
  repeat (go_quiet (fail); try go_wp2)
  go_loopg [5] k (fun kq v5 w' => ∃ (x5_1 : Int), v5 = .int .i64 x5_1 ∧ Aside0 (laws_eqIntS.l0 kq l0 l1 x5_1 = some r) ∧ Aside0 (kq ≤ k) ∧ Drawn0 w w')
  case atStart => exact ⟨(0), (by first | rfl | (simp; done) | (simp [*]; done)), H', ⟨Nat.le_refl _⟩, by repeat (first | exact Drawn0.refl _ | apply Drawn0.step)⟩
  case round =>
   clear H'
   try clear c1
   try clear p2
   try clear c3
   try clear c3b0
   try clear c3b1
   try clear c3b2
   obtain ⟨x5_1, rfl, HA, HK1, ⟨m1, rfl⟩⟩ := hrel
   cases gk with
   | zero => exact absurd HA.out (by simp [laws_eqIntS.l0])
   | succ k1 =>
    have H := HA.out
    clear HA
    simp only [laws_eqIntS.l0] at H
    by_cases c4 : x5_1 < (l0.length : Int)
    ·rw [if_pos c4] at H
     have c4b0 : decide (x5_1 < (l0.length : Int)) = true := decide_eq_true c4
     clear c4
     by_cases c5 : 0 ≤ x5_1
     ·rw [if_pos c5] at H
      have c5b0 : decide (0 ≤ x5_1) = true := decide_eq_true c5
      clear c5
      by_cases c6 : x5_1 < (l1.length : Int)
      ·rw [if_pos c6] at H
       have c6b0 : decide (x5_1 < (l1.length : Int)) = true := decide_eq_true c6
       clear c6
       by_cases c7 : (rd l0 x5_1) = (rd l1 x5_1)
       ·rw [if_pos c7] at H
        have c7b0 : ((rd l0 x5_1) == (rd l1 x5_1)) = true := beq_iff_eq.mpr c7
        have c7b1 : ((rd l0 x5_1) != (rd l1 x5_1)) = false := bne_eq_false_iff_eq.mpr c7
        clear c7
        have H' := Aside0.mk H
        clear H
        have p230 : 0 ≤ (x5_1 : Int) := of_decide_eq_true (by first | (with_reducible assumption) | assumption)
        have q230 : x5_1 < (l0.length : Int) := of_decide_eq_true (by first | (with_reducible assumption) | assumption)
        obtain ⟨ad230, e230, hx230_0⟩ := Kd.at_int HR0.out x5_1 p230 q230
        cases e230
        replace p230 := eq_true p230
        replace q230 := eq_true q230
        have p231 : 0 ≤ (x5_1 : Int) := of_decide_eq_true (by first | (with_reducible assumption) | assumption)
        have q231 : x5_1 < (l1.length : Int) := of_decide_eq_true (by first | (with_reducible assumption) | assumption)
        obtain ⟨ad231, e231, hx231_0⟩ := Kd.at_int HR1.out x5_1 p231 q231
        cases e231
        replace p231 := eq_true p231
        replace q231 := eq_true q231
        go_wp2
        repeat (go_quiet (fail); try go_wp2)
        go_roundg k1
        case measure => have := HK1.out; omega
        case rel => exact ⟨(wrap64 (x5_1 + 1)), (by first | rfl | (simp; done) | (simp [*]; done)), H', ⟨by have := HK1.out; omega⟩, by repeat (first | exact Drawn0.refl _ | apply Drawn0.step)⟩
       ·rw [if_neg c7] at H
        have c7b0 : ((rd l0 x5_1) == (rd l1 x5_1)) = false := beq_eq_false_iff_ne.mpr c7
        have c7b1 : ((rd l0 x5_1) != (rd l1 x5_1)) = true := bne_iff_ne.mpr c7
        obtain rfl := Option.some.inj H
        have p230 : 0 ≤ (x5_1 : Int) := of_decide_eq_true (by first | (with_reducible assumption) | assumption)
        have q230 : x5_1 < (l0.length : Int) := of_decide_eq_true (by first | (with_reducible assumption) | assumption)
        obtain ⟨ad230, e230, hx230_0⟩ := Kd.at_int HR0.out x5_1 p230 q230
        cases e230
        replace p230 := eq_true p230
        replace q230 := eq_true q230
        have p231 : 0 ≤ (x5_1 : Int) := of_decide_eq_true (by first | (with_reducible assumption) | assumption)
        have q231 : x5_1 < (l1.length : Int) := of_decide_eq_true (by first | (with_reducible assumption) | assumption)
        obtain ⟨ad231, e231, hx231_0⟩ := Kd.at_int HR1.out x5_1 p231 q231
        cases e231
        replace p231 := eq_true p231
        replace q231 := eq_true q231
        go_wp2
        repeat (go_quiet (fail); try go_wp2)
        go_ret
        exact ⟨by first | rfl | (simp; done) | (simp [*]; done), by repeat (first | exact Drawn0.refl _ | apply Drawn0.step)⟩
      ·rw [if_neg c6] at H
       exact absurd H (by simp)
     ·rw [if_neg c5] at H
      exact absurd H (by simp)
    ·rw [if_neg c4] at H
     have c4b0 : decide (x5_1 < (l0.length : Int)) = false := decide_eq_false c4
     clear c4
     obtain rfl := Option.some.inj H
     go_wp2
     repeat (go_quiet (fail); try go_wp2)
     go_ret
     exact ⟨by first | rfl | (simp; done) | (simp [*]; done), by repeat (first | exact Drawn0.refl _ | apply Drawn0.step)⟩
 ·rw [if_neg c3] at H
  have c3b0 : ((l0.length : Int) == (l1.length : Int)) = false := beq_eq_false_iff_ne.mpr c3
  have c3b1 : ((l0.length : Int) != (l1.length : Int)) = true := bne_iff_ne.mpr c3
  have c3b2 : (l0.length == l1.length) = false := by first | simpa using c3 | (simp at c3 ⊢; omega)
  obtain rfl := Option.some.inj H
  go_enter Try.func12, Try.ntmps12
  go_wp2
  repeat (go_quiet (fail); try go_wp2)
  go_ret
  exact ⟨by first | rfl | (simp; done) | (simp [*]; done), by repeat (first | exact Drawn0.refl _ | apply Drawn0.step)⟩

/-! ### laws_FnExactStrangersBeside: function 3 -/
def laws_FnExactStrangersBeside.f (k : Nat) (a0_0 : Int) (l0_1 : List (S64)) (l1 : List Int) : Option (Bool) := if (l1.length : Int) > 1048576 then (some true) else ((laws_szParty.f a0_0 l0_1 1048576).bind fun t233 => (if t233 < 0 then (some true) else ((laws_toParty.f k a0_0 l0_1).bind fun bt234 => ((laws_toIntS.f k l1).bind fun t238 => ((spec_StrangersBeside.f k bt234.1 bt234.2 t238).bind fun bt241 => ((laws_toParty.f k a0_0 l0_1).bind fun bt243 => ((laws_toIntS.f k l1).bind fun t248 => ((impl_StrangersBeside.f k bt243.1 bt243.2 t248).bind fun bt251 => (if bt251.1 = bt241.1 then (if (bt251.2 != bt241.2) = true then (none) else ((laws_toParty.f k a0_0 l0_1).bind fun bt253 => ((laws_eqParty.f k bt243.1 bt243.2 bt253.1 bt253.2).bind fun t257 => (if t257 = true then ((laws_toIntS.f k l1).bind fun t258 => ((laws_eqIntS.f k t248 t258).bind fun t261 => (if t261 = true then (some true) else (none)))) else (none))))) else (none))))))))))
theorem laws_FnExactStrangersBeside.mono : ∀ a0 a1 a2 k, LeO (laws_FnExactStrangersBeside.f k a0 a1 a2) (laws_FnExactStrangersBeside.f (k + 1) a0 a1 a2) := by
 intro a0 a1 a2 k
 unfold laws_FnExactStrangersBeside.f
 repeat' first
   | (with_reducible exact impl_StrangersBeside.mono _ _ _ _)
   | (with_reducible exact laws_eqIntS.mono _ _ _)
   | (with_reducible exact laws_eqParty.mono _ _ _ _ _)
   | (with_reducible exact laws_toIntS.mono _ _)
   | (with_reducible exact laws_toParty.mono _ _ _)
   | (with_reducible exact spec_StrangersBeside.mono _ _ _ _)
   | (with_reducible exact LeO.refl _)
   | (with_reducible exact LeO.none _)
   | (with_reducible refine LeO.ite ?_ ?_)
   | (with_reducible refine LeO.bind ?_ (fun _ => ?_))
   | exact impl_StrangersBeside.mono _ _ _ _
   | exact laws_eqIntS.mono _ _ _
   | exact laws_eqParty.mono _ _ _ _ _
   | exact laws_toIntS.mono _ _
   | exact laws_toParty.mono _ _ _
   | exact spec_StrangersBeside.mono _ _ _ _
   | exact LeO.none _
   | refine LeO.ite ?_ ?_
   | refine LeO.bind ?_ (fun _ => ?_)
set_option maxHeartbeats 8000000 in
set_option maxRecDepth 100000 in
theorem laws_FnExactStrangersBeside.calls (k : Nat) (a0_0 : Int) (A0_1 : Option Addr) (c0_1 : Nat) (l0_1 : List (S64)) (A1 : Option Addr) (c1 : Nat) (l1 : List Int) (r : Bool) (w : World) (hr0_1 : Kd.C k64 w A0_1 l0_1.length l0_1) (hc0_1 : l0_1.length ≤ c0_1) (hr1 : Kd.C (Kd.int .i64) w A1 l1.length l1) (hc1 : l1.length ≤ c1) (h : laws_FnExactStrangersBeside.f k a0_0 l0_1 l1 = some r) :
  Calls Try.prog 3 #[.agg #[.int .i64 a0_0, .slice A0_1 l0_1.length c0_1], .slice A1 l1.length c1] w fun e w' => e = .returned (.bool r) ∧ Below w.heap.size w w' := by
 have hu24 := Try.underlying24
 have hu31 := Try.underlying31
 have HR0_1 := Aside0.mk hr0_1
 have HC0_1 := Aside0.mk hc0_1
 clear hr0_1 hc0_1
 have HR1 := Aside0.mk hr1
 have HC1 := Aside0.mk hc1
 clear hr1 hc1
 have HB := Aside0.mk (Below.refl w.heap.size w)
 have H : (if (l1.length : Int) > 1048576 then (some true) else ((laws_szParty.f a0_0 l0_1 1048576).bind fun t233 => (if t233 < 0 then (some true) else ((laws_toParty.f k a0_0 l0_1).bind fun bt234 => ((laws_toIntS.f k l1).bind fun t238 => ((spec_StrangersBeside.f k bt234.1 bt234.2 t238).bind fun bt241 => ((laws_toParty.f k a0_0 l0_1).bind fun bt243 => ((laws_toIntS.f k l1).bind fun t248 => ((impl_StrangersBeside.f k bt243.1 bt243.2 t248).bind fun bt251 => (if bt251.1 = bt241.1 then (if (bt251.2 != bt241.2) = true then (none) else ((laws_toParty.f k a0_0 l0_1).bind fun bt253 => ((laws_eqParty.f k bt243.1 bt243.2 bt253.1 bt253.2).bind fun t257 => (if t257 = true then ((laws_toIntS.f k l1).bind fun t258 => ((laws_eqIntS.f k t248 t258).bind fun t261 => (if t261 = true then (some true) else (none)))) else (none))))) else (none))))))))))) = some r := h
 clear h
 by_cases c3 : (l1.length : Int) > 1048576
 ·rw [if_pos c3] at H
  have c3b0 : decide (1048576 < (l1.length : Int)) = true := decide_eq_true c3
  have c3b1 : decide (1048576 < l1.length) = true := decide_eq_true (by omega)
  clear c3
  obtain rfl := Option.some.inj H
  go_enter Try.func3, Try.ntmps3
  go_wp2_with (first | ((with_reducible refine gate_dst (N := 2) rfl ?_); refine bxE 2 #[.int .i64 a0_0, .slice A0_1 l0_1.length c0_1] 24 rfl ?_; intro gb232 hg w4 hbox hb; have BK232 := Aside0.mk (hbox); have GW232 := gS HB hg; have GE232 := gS HB hg; replace HB := hS HB hb; clear hb hbox hg))
  go_ret
  exact ⟨by first | rfl | (simp [errW_none, errW_some] <;> rfl) | (simp [*, errW_none, errW_some] <;> rfl), hB⟩
 ·rw [if_neg c3] at H
  have c3b0 : decide (1048576 < (l1.length : Int)) = false := decide_eq_false c3
  have c3b1 : decide (1048576 < l1.length) = false := decide_eq_false (by omega)
  clear c3
  replace H := Option.bind_eq_some_iff.mp H
  obtain ⟨t233, A50, H⟩ := H
  try dsimp only at H
  have A5 := Aside0.mk A50
  clear A50
  by_cases c6 : t233 < 0
  ·rw [if_pos c6] at H
   have c6b0 : decide (t233 < 0) = true := decide_eq_true c6
   clear c6
   obtain rfl := Option.some.inj H
   go_enter Try.func3, Try.ntmps3
   go_wp2_with (first | ((with_reducible refine gate_dst (N := 2) rfl ?_); refine bxE 2 #[.int .i64 a0_0, .slice A0_1 l0_1.length c0_1] 24 rfl ?_; intro gb232 hg w7 hbox hb; have BK232 := Aside0.mk (hbox); have GW232 := gS HB hg; have GE232 := gS HB hg; replace HB := hS HB hb; clear hb hbox hg; have hcz8_0 := cz BK232 0; have hcz8_1 := cz BK232 1; have hfz8_0 := fz BK232 0; have hfz8_1 := fz BK232 1) | ((with_reducible refine gate_callee (f := 6) rfl ?_); refine goC (N := some 17) Try.func6 #[.agg #[.int .i64 a0_0, .slice A0_1 l0_1.length c0_1], .int .i64 1048576] rfl ?_; (with_reducible refine (laws_szParty.calls a0_0 _ _ l0_1 1048576 t233 _ ?side1 ?side2 A5.out).mono ?_); (case side1 => exact cS (Kd.C_below HR0_1.out HB.out)); (case side2 => exact HC0_1.out); rintro e w9 ⟨rfl, hb⟩; refine ⟨_, rfl, ?_⟩; replace BK232 := bS BK232 hb; replace HB := hS HB hb; (try clear hb); (try clear hb2); (try clear hk); (try clear hi)))
   go_ret
   exact ⟨by first | rfl | (simp [errW_none, errW_some] <;> rfl) | (simp [*, errW_none, errW_some] <;> rfl), hB⟩
  ·rw [if_neg c6] at H
   have c6b0 : decide (t233 < 0) = false := decide_eq_false c6
   clear c6
   replace H := Option.bind_eq_some_iff.mp H
   obtain ⟨⟨t234, t235⟩, A100, H⟩ := H
   try dsimp only at H
   have A10 := Aside0.mk A100
   clear A100
   replace H := Option.bind_eq_some_iff.mp H
   obtain ⟨t238, A110, H⟩ := H
   try dsimp only at H
   have A11 := Aside0.mk A110
   clear A110
   replace H := Option.bind_eq_some_iff.mp H
   obtain ⟨⟨t241, t242⟩, A120, H⟩ := H
   try dsimp only at H
   have A12 := Aside0.mk A120
   clear A120
   replace H := Option.bind_eq_some_iff.mp H
   obtain ⟨⟨t243, t244⟩, A130, H⟩ := H
   try dsimp only at H
   have A13 := Aside0.mk A130
   clear A130
   replace H := Option.bind_eq_some_iff.mp H
   obtain ⟨t248, A140, H⟩ := H
   try dsimp only at H
   have A14 := Aside0.mk A140
   clear A140
   replace H := Option.bind_eq_some_iff.mp H
   obtain ⟨⟨t251, t252⟩, A150, H⟩ := H
   try dsimp only at H
   have A15 := Aside0.mk A150
   clear A150
   by_cases c16 : t251 = t241
   ·rw [if_pos c16] at H
    have c16b0 : (t251 == t241) = true := beq_iff_eq.mpr c16
    have c16b1 : (t251 != t241) = false := bne_eq_false_iff_eq.mpr c16
    clear c16
    by_cases c17 : (t252 != t242) = true
    ·rw [if_pos c17] at H
     exact absurd H (by simp)
    ·rw [if_neg c17] at H
     have c17b0 : (t252 != t242) = false := by simpa using c17
     (try (have c17b1 : decide (t252 = t242) = true := by simpa using c17))
     (try (have c17b2 : (t252 == t242) = true := by simpa using c17))
     clear c17
     replace H := Option.bind_eq_some_iff.mp H
     obtain ⟨⟨t253, t254⟩, A180, H⟩ := H
     try dsimp only at H
     have A18 := Aside0.mk A180
     clear A180
     replace H := Option.bind_eq_some_iff.mp H
     obtain ⟨t257, A190, H⟩ := H
     try dsimp only at H
     have A19 := Aside0.mk A190
     clear A190
     by_cases c20 : t257 = true
     ·subst c20
      rw [if_pos rfl] at H
      replace H := Option.bind_eq_some_iff.mp H
      obtain ⟨t258, A210, H⟩ := H
      try dsimp only at H
      have A21 := Aside0.mk A210
      clear A210
      replace H := Option.bind_eq_some_iff.mp H
      obtain ⟨t261, A220, H⟩ := H
      try dsimp only at H
      have A22 := Aside0.mk A220
      clear A220
      by_cases c23 : t261 = true
      ·subst c23
       have H1 : (some true) = some r := by rw [if_pos rfl] at H; exact H
       clear H
       have H := H1
       clear H1
       obtain rfl := Option.some.inj H
       go_enter Try.func3, Try.ntmps3
       try go_wp2_with (first | ((with_reducible refine gate_dst (N := 2) rfl ?_); refine bxE 2 #[.int .i64 a0_0, .slice A0_1 l0_1.length c0_1] 24 rfl ?_; intro gb232 hg w24 hbox hb; have BK232 := Aside0.mk (hbox); have GW232 := gS HB hg; have GE232 := gS HB hg; replace HB := hS HB hb; clear hb hbox hg; have hcz25_0 := cz BK232 0; have hcz25_1 := cz BK232 1; have hfz25_0 := fz BK232 0; have hfz25_1 := fz BK232 1) | ((with_reducible refine gate_callee (f := 6) rfl ?_); refine goC (N := some 17) Try.func6 #[.agg #[.int .i64 a0_0, .slice A0_1 l0_1.length c0_1], .int .i64 1048576] rfl ?_; (with_reducible refine (laws_szParty.calls a0_0 _ _ l0_1 1048576 t233 _ ?side1 ?side2 A5.out).mono ?_); (case side1 => exact cS (Kd.C_below HR0_1.out HB.out)); (case side2 => exact HC0_1.out); rintro e w26 ⟨rfl, hb⟩; refine ⟨_, rfl, ?_⟩; replace BK232 := bS BK232 hb; replace HB := hS HB hb; (try clear hb); (try clear hb2); (try clear hk); (try clear hi); have hcz27_0 := cz BK232 0; have hcz27_1 := cz BK232 1; have hfz27_0 := fz BK232 0; have hfz27_1 := fz BK232 1) | ((with_reducible refine gate_callee (f := 8) rfl ?_); refine goC (N := some 22) Try.func8 #[.agg #[.int .i64 a0_0, .slice A0_1 l0_1.length c0_1]] rfl ?_; (with_reducible refine (laws_toParty.calls k a0_0 _ _ l0_1 t234 t235 _ ?side1 ?side2 A10.out).mono ?_); (case side1 => exact cS (Kd.C_below HR0_1.out HB.out)); (case side2 => exact HC0_1.out); rintro e w28 ⟨v236, rfl, ho0, hb⟩; refine ⟨_, rfl, ?_⟩; have HO237 := Aside0.mk (Kd.R_lower ho0 (below_size hB)); replace BK232 := bS BK232 hb; replace HB := hS HB hb; (try clear hb); (try clear hb2); (try clear hk); (try clear hi); (try clear ho0)) | ((with_reducible refine gate_callee (f := 9) rfl ?_); refine goC (N := some 24) Try.func9 #[.slice A1 l1.length c1] rfl ?_; (with_reducible refine (laws_toIntS.calls k _ _ l1 t238 _ ?side1 ?side2 A11.out).mono ?_); (case side1 => exact cS (Kd.C_below HR1.out HB.out)); (case side2 => exact HC1.out); rintro e w29 ⟨v239, rfl, ho0, hb⟩; refine ⟨_, rfl, ?_⟩; have HO240 := Aside0.mk (Kd.R_lower ho0 (below_size hB)); replace HO237 := Aside0.mk (Kd.R_below (rU HO237) hb); replace BK232 := bS BK232 hb; replace HB := hS HB hb; (try clear hb); (try clear hb2); (try clear hk); (try clear hi); (try clear ho0); obtain ⟨Ao30, co30, eo30⟩ := Kd.R_slice HO237.out; subst eo30; obtain ⟨Ao31, co31, eo31⟩ := Kd.R_slice HO240.out; subst eo31) | ((with_reducible refine gate_callee (f := 7) rfl ?_); refine goC (N := some 25) Try.func7 #[.agg #[.int .i64 t234, .slice Ao30 t235.length co30], .slice Ao31 t238.length co31] rfl ?_; (with_reducible refine (spec_StrangersBeside.calls k t234 _ _ t235 _ _ t238 t241 t242 _ ?side1 ?side2 ?side3 ?side4 A12.out).mono ?_); (case side1 => exact cS (Kd.R_reads' HO237.out).2.2); (case side2 => exact (Kd.R_reads' HO237.out).2.1); (case side3 => exact cS (Kd.R_reads' HO240.out).2.2); (case side4 => exact (Kd.R_reads' HO240.out).2.1); rintro e w32 ⟨rfl, hb⟩; refine ⟨_, rfl, ?_⟩; replace HO237 := Aside0.mk (Kd.R_below (rU HO237) hb); replace HO240 := Aside0.mk (Kd.R_below (rU HO240) hb); replace BK232 := bS BK232 hb; replace HB := hS HB hb; (try clear hb); (try clear hb2); (try clear hk); (try clear hi); have hcz33_0 := cz BK232 0; have hcz33_1 := cz BK232 1; have hfz33_0 := fz BK232 0; have hfz33_1 := fz BK232 1) | ((with_reducible refine gate_callee (f := 8) rfl ?_); refine goC (N := some 29) Try.func8 #[.agg #[.int .i64 a0_0, .slice A0_1 l0_1.length c0_1]] rfl ?_; (with_reducible refine (laws_toParty.calls k a0_0 _ _ l0_1 t243 t244 _ ?side1 ?side2 A13.out).mono ?_); (case side1 => exact cS (Kd.C_below HR0_1.out HB.out)); (case side2 => exact HC0_1.out); rintro e w34 ⟨v245, rfl, ho0, hb⟩; refine ⟨_, rfl, ?_⟩; have HO246 := Aside0.mk (Kd.R_lower (Kd.R_new' ho0 (Kd.R_lt (rU HO237))) (below_size hB)); replace HO237 := Aside0.mk (Kd.R_elder' (rU HO237) (Kd.R_base ho0) hb); replace HO240 := Aside0.mk (Kd.R_below (rU HO240) hb); replace BK232 := bS BK232 hb; replace HB := hS HB hb; (try clear hb); (try clear hb2); (try clear hk); (try clear hi); (try clear ho0)) | ((with_reducible refine gate_dst (N := 8) rfl ?_); refine bxE 8 #[.int .i64 0, .slice none 0 0] 31 rfl ?_; intro gb247 hg w35 hbox hb; have BK247 := Aside0.mk (hbox); have GW247 := gS HB hg; have GE247 := gS HB hg; have NB232_247 := nL BK232 hg; have NB247_232 := nG BK232 hg; replace HO237 := Aside0.mk (Kd.R_below (rU HO237) hb); replace HO240 := Aside0.mk (Kd.R_below (rU HO240) hb); replace HO246 := Aside0.mk (Kd.R_below (rU HO246) hb); replace BK232 := bS BK232 hb; replace HB := hS HB hb; clear hb hbox hg; have hnb36 := NB247_232.out; have hnc36 := NB232_247.out; have hcz37_0 := cz BK247 0; have hcz37_1 := cz BK247 1; have hfz37_0 := fz BK247 0; have hfz37_1 := fz BK247 1; obtain ⟨Ao38, co38, eo38⟩ := Kd.R_slice HO246.out; subst eo38) | ((with_reducible refine gate_callee (f := 9) rfl ?_); refine goC (N := some 31) Try.func9 #[.slice A1 l1.length c1] rfl ?_; (with_reducible refine (laws_toIntS.calls k _ _ l1 t248 _ ?side1 ?side2 A14.out).mono ?_); (case side1 => exact Kd.C_below HR1.out hB); (case side2 => exact HC1.out); rintro e w39 ⟨v249, rfl, ho0, hb⟩; refine ⟨_, rfl, ?_⟩; have HO250 := Aside0.mk (Kd.R_lower (Kd.R_new' ho0 (Kd.R_lt (by (with_reducible repeat (first | apply Kd.R_alloc | apply Kd.R_drewN | apply Kd.R_drew)); exact (Kd.R_mono (Kd.R_far (p := ⟨gb247, 1, none⟩) (Kd.R_far (p := ⟨gb247, 0, none⟩) (Kd.R_types HO240.out BK247.out (by decide)) (fun _ hk => hk.2) (.int .i64 t243)) (fun _ hk => hk.2) (.slice Ao38 t244.length co38)) (fun _ h_ => h_.1))))) (below_size hB)); replace HO237 := Aside0.mk (Kd.R_below (by (with_reducible repeat (first | apply Kd.R_alloc | apply Kd.R_drewN | apply Kd.R_drew)); exact (Kd.R_mono (Kd.R_far (p := ⟨gb247, 1, none⟩) (Kd.R_far (p := ⟨gb247, 0, none⟩) (Kd.R_types HO237.out BK247.out (by decide)) (fun _ hk => hk.2) (.int .i64 t243)) (fun _ hk => hk.2) (.slice Ao38 t244.length co38)) (fun _ h_ => h_.1))) hb); replace HO240 := Aside0.mk (Kd.R_elder' (by (with_reducible repeat (first | apply Kd.R_alloc | apply Kd.R_drewN | apply Kd.R_drew)); exact (Kd.R_mono (Kd.R_far (p := ⟨gb247, 1, none⟩) (Kd.R_far (p := ⟨gb247, 0, none⟩) (Kd.R_types HO240.out BK247.out (by decide)) (fun _ hk => hk.2) (.int .i64 t243)) (fun _ hk => hk.2) (.slice Ao38 t244.length co38)) (fun _ h_ => h_.1))) (Kd.R_base ho0) hb); replace HO246 := Aside0.mk (Kd.R_below (by (with_reducible repeat (first | apply Kd.R_alloc | apply Kd.R_drewN | apply Kd.R_drew)); exact (Kd.R_mono (Kd.R_far (p := ⟨gb247, 1, none⟩) (Kd.R_far (p := ⟨gb247, 0, none⟩) (Kd.R_types HO246.out BK247.out (by decide)) (fun _ hk => hk.2) (.int .i64 t243)) (fun _ hk => hk.2) (.slice Ao38 t244.length co38)) (fun _ h_ => h_.1))) hb); replace BK232 := Aside0.mk (blk_below (g := gb232) (o := .cells #[.int .i64 a0_0, .slice A0_1 l0_1.length c0_1] 24 (0, 0)) (by (with_reducible repeat (first | refine blk_drewN ?_ _ | refine blk_drew ?_ | refine blk_alloc ?_ _)); refine blk_far ?_ NB232_247.out _; (with_reducible repeat (first | refine blk_drewN ?_ _ | refine blk_drew ?_ | refine blk_alloc ?_ _)); refine blk_far ?_ NB232_247.out _; (with_reducible repeat (first | refine blk_drewN ?_ _ | refine blk_drew ?_ | refine blk_alloc ?_ _)); exact BK232.out) hb); replace BK247 := Aside0.mk (blk_below (g := gb247) (o := .cells #[.int .i64 t243, .slice Ao38 t244.length co38] 31 (0, 0)) (by (with_reducible repeat (first | refine blk_drewN ?_ _ | refine blk_drew ?_ | refine blk_alloc ?_ _)); refine blk_put (cs := #[.int .i64 t243, .slice none 0 0]) ?_ 1 _ rfl; (with_reducible repeat (first | refine blk_drewN ?_ _ | refine blk_drew ?_ | refine blk_alloc ?_ _)); refine blk_put (cs := #[.int .i64 0, .slice none 0 0]) ?_ 0 _ rfl; (with_reducible repeat (first | refine blk_drewN ?_ _ | refine blk_drew ?_ | refine blk_alloc ?_ _)); exact BK247.out) hb); replace HB := hS HB hb; (try clear hb); (try clear hb2); (try clear hk); (try clear hi); (try clear ho0); have hcz40_0 := cz BK247 0; have hcz40_1 := cz BK247 1; have hfz40_0 := fz BK247 0; have hfz40_1 := fz BK247 1; obtain ⟨Ao41, co41, eo41⟩ := Kd.R_slice HO250.out; subst eo41) | ((with_reducible refine gate_callee (f := 10) rfl ?_); refine goC (N := some 35) Try.func10 #[.agg #[.int .i64 t243, .slice Ao38 t244.length co38], .slice Ao41 t248.length co41] rfl ?_; (with_reducible refine (impl_StrangersBeside.calls k t243 _ _ t244 _ _ t248 t251 t252 _ ?side1 ?side2 ?side3 ?side4 A15.out).mono ?_); (case side1 => exact cS (Kd.R_reads' HO246.out).2.2); (case side2 => exact (Kd.R_reads' HO246.out).2.1); (case side3 => exact cS (Kd.R_reads' HO250.out).2.2); (case side4 => exact (Kd.R_reads' HO250.out).2.1); rintro e w42 ⟨rfl, hb⟩; refine ⟨_, rfl, ?_⟩; replace HO237 := Aside0.mk (Kd.R_below (rU HO237) hb); replace HO240 := Aside0.mk (Kd.R_below (rU HO240) hb); replace HO246 := Aside0.mk (Kd.R_below (rU HO246) hb); replace HO250 := Aside0.mk (Kd.R_below (rU HO250) hb); replace BK232 := bS BK232 hb; replace BK247 := bS BK247 hb; replace HB := hS HB hb; (try clear hb); (try clear hb2); (try clear hk); (try clear hi)))
       replace HO237 := Aside0.mk (Kd.R_drew HO237.out)
       replace HO240 := Aside0.mk (Kd.R_drew HO240.out)
       replace HO246 := Aside0.mk (Kd.R_drew HO246.out)
       replace HO250 := Aside0.mk (Kd.R_drew HO250.out)
       replace BK232 := Aside0.mk (blk_drew BK232.out)
       replace BK247 := Aside0.mk (blk_drew BK247.out)
       replace HB := Aside0.mk (below_drew1 HB.out)
       refine start_ (n := 5) (S := fun w' => w'.cell? ⟨gb247, 0, none⟩ = some (.int .i64 t243) ∧ w'.cell? ⟨gb247, 1, none⟩ = some (.slice Ao38 t244.length co38) ∧ w'.cell? ⟨gb232, 0, none⟩ = some (.int .i64 a0_0) ∧ w'.cell? ⟨gb232, 1, none⟩ = some (.slice A0_1 l0_1.length c0_1)) (ds := []) (bz 5 0) (by kernel_rfl) rfl rfl ⟨(blk_cell BK247.out 0).trans rfl, (blk_cell BK247.out 1).trans rfl, (blk_cell BK232.out 0).trans rfl, (blk_cell BK232.out 1).trans rfl⟩ (fun hHeld => ?_)
       generalize w42.drew = w43 at HO237 HO240 HO246 HO250 BK232 BK247 HB hHeld ⊢
       refine run_ [(1, 0, 1, some 46), (1, 1, 3, some 47)] ?_
       repeat ((apply tag1; refine run_t (v := ?_) (a' := ?_) rfl rfl (by kernel_rfl) (fun _ _ _ h => h) (by rfl) ?_ hHeld ?_ ?_; rotate_left 2; (rintro w' ⟨s0, s1, s2, s3⟩; go_simp; with_reducible rfl); (first | (simp only [Act.put, List.setIfInBounds_toArray, List.set_cons_zero, List.set_cons_succ, i64_w, i32_w]; rfl) | rfl)))
       refine run_nil ?_
       refine one_ (i := 2) (N := some 48) (bz 5 7) rfl rfl (by kernel_rfl) (by decide) (fun K hK => ?_)
       refine goes_ Try.func8 (by kernel_rfl) rfl #[.agg #[.int .i64 a0_0, .slice A0_1 l0_1.length c0_1]] (by rfl) rfl rfl mapT ?_
       with_reducible refine (laws_toParty.calls k a0_0 _ _ l0_1 t253 t254 _ ?side1 ?side2 A18.out).mono ?_
       (case side1 => exact cS (Kd.C_below HR0_1.out HB.out))
       (case side2 => exact HC0_1.out)
       rintro e w44 ⟨v255, rfl, ho0, hb⟩
       refine ⟨_, rfl, ?_⟩
       have HO256 := Aside0.mk (Kd.R_lower (Kd.R_new' (Kd.R_new' ho0 (Kd.R_lt (rU HO237))) (Kd.R_lt (rU HO246))) (below_size hB))
       replace HO237 := Aside0.mk (Kd.R_elder' (rU HO237) (Kd.R_base ho0) hb)
       replace HO240 := Aside0.mk (Kd.R_below (rU HO240) hb)
       replace HO246 := Aside0.mk (Kd.R_elder' (rU HO246) (Kd.R_base ho0) hb)
       replace HO250 := Aside0.mk (Kd.R_below (rU HO250) hb)
       replace BK232 := bS BK232 hb
       replace BK247 := bS BK247 hb
       replace HB := hS HB hb
       (try clear hb)
       (try clear hb2)
       (try clear hk)
       (try clear hi)
       (try clear ho0)
       obtain ⟨Ao45, co45, eo45⟩ := Kd.R_slice HO256.out
       (first | subst eo45 | (injection eo45 with f1_ f2_ f3_; have f4_ := f1_.symm; have f5_ := f3_.symm; clear f1_ f2_ f3_; subst f4_; subst f5_))
       refine hK.out _ _ ⟨(blk_cell BK247.out 0).trans rfl, (blk_cell BK247.out 1).trans rfl, (blk_cell BK232.out 0).trans rfl, (blk_cell BK232.out 1).trans rfl⟩ (fun hHeld => ?_)
       clear hK K
       refine norm_ (a' := ?_) ?_ ?_
       rotate_left
       ·show Act.put _ (some 48) _ = _
        simp only [Act.put, List.setIfInBounds_toArray, List.set_cons_zero, List.set_cons_succ, i64_w, i32_w]
        rfl
       refine one_ (i := 3) (N := some 49) (bz 5 15) rfl rfl (by kernel_rfl) (by decide) (fun K hK => ?_)
       refine goes_ Try.func11 (by kernel_rfl) rfl #[.agg #[.int .i64 t243, .slice Ao38 t244.length co38], .agg #[.int .i64 t253, .slice Ao45 t254.length co45]] (by rfl) rfl rfl mapT ?_
       with_reducible refine (laws_eqParty.calls k t243 _ _ t244 t253 _ _ t254 true _ ?side1 ?side2 ?side3 ?side4 A19.out).mono ?_
       (case side1 => exact cS (Kd.R_reads' HO246.out).2.2)
       (case side2 => exact (Kd.R_reads' HO246.out).2.1)
       (case side3 => exact cS (Kd.R_reads' HO256.out).2.2)
       (case side4 => exact (Kd.R_reads' HO256.out).2.1)
       rintro e w46 ⟨rfl, hb⟩
       refine ⟨_, rfl, ?_⟩
       replace HO237 := Aside0.mk (Kd.R_below (rU HO237) hb)
       replace HO240 := Aside0.mk (Kd.R_below (rU HO240) hb)
       replace HO246 := Aside0.mk (Kd.R_below (rU HO246) hb)
       replace HO250 := Aside0.mk (Kd.R_below (rU HO250) hb)
       replace HO256 := Aside0.mk (Kd.R_below (rU HO256) hb)
       replace BK232 := bS BK232 hb
       replace BK247 := bS BK247 hb
       replace HB := hS HB hb
       (try clear hb)
       (try clear hb2)
       (try clear hk)
       (try clear hi)
       refine hK.out _ _ ⟨(blk_cell BK247.out 0).trans rfl, (blk_cell BK247.out 1).trans rfl, (blk_cell BK232.out 0).trans rfl, (blk_cell BK232.out 1).trans rfl⟩ (fun hHeld => ?_)
       clear hK K
       refine norm_ (a' := ?_) ?_ ?_
       rotate_left
       ·show Act.put _ (some 49) _ = _
        simp only [Act.put, List.setIfInBounds_toArray, List.set_cons_zero, List.set_cons_succ, i64_w, i32_w]
        rfl
       refine run_ [(0, 4, 31, some 50)] ?_
       repeat ((apply tag0; refine run_p (v := ?_) (a' := ?_) rfl rfl (by kernel_rfl) (fun _ _ _ h => h) (by rfl) ?_ ?_ ?_; rotate_left 2; (intro w'; go_simp; with_reducible rfl); (first | (simp only [Act.put, List.setIfInBounds_toArray, List.set_cons_zero, List.set_cons_succ, i64_w, i32_w]; rfl) | rfl)))
       refine run_nil ?_
       refine done_ (by kernel_rfl) ?_
       try go_wp2_with (first | ((with_reducible refine gate_callee (f := 9) rfl ?_); refine goC (N := some 53) Try.func9 #[.slice A1 l1.length c1] rfl ?_; (with_reducible refine (laws_toIntS.calls k _ _ l1 t258 _ ?side1 ?side2 A21.out).mono ?_); (case side1 => exact cS (Kd.C_below HR1.out HB.out)); (case side2 => exact HC1.out); rintro e w47 ⟨v259, rfl, ho0, hb⟩; refine ⟨_, rfl, ?_⟩; have HO260 := Aside0.mk (Kd.R_lower (Kd.R_new' (Kd.R_new' ho0 (Kd.R_lt (rU HO240))) (Kd.R_lt (rU HO250))) (below_size hB)); replace HO237 := Aside0.mk (Kd.R_below (rU HO237) hb); replace HO240 := Aside0.mk (Kd.R_elder' (rU HO240) (Kd.R_base ho0) hb); replace HO246 := Aside0.mk (Kd.R_below (rU HO246) hb); replace HO250 := Aside0.mk (Kd.R_elder' (rU HO250) (Kd.R_base ho0) hb); replace HO256 := Aside0.mk (Kd.R_below (rU HO256) hb); replace BK232 := bS BK232 hb; replace BK247 := bS BK247 hb; replace HB := hS HB hb; (try clear hb); (try clear hb2); (try clear hk); (try clear hi); (try clear ho0); obtain ⟨Ao48, co48, eo48⟩ := Kd.R_slice HO260.out; subst eo48) | ((with_reducible refine gate_callee (f := 12) rfl ?_); refine goC (N := some 54) Try.func12 #[.slice Ao41 t248.length co41, .slice Ao48 t258.length co48] rfl ?_; (with_reducible refine (laws_eqIntS.calls k _ _ t248 _ _ t258 true _ ?side1 ?side2 ?side3 ?side4 A22.out).mono ?_); (case side1 => exact cS (Kd.R_reads' HO250.out).2.2); (case side2 => exact (Kd.R_reads' HO250.out).2.1); (case side3 => exact cS (Kd.R_reads' HO260.out).2.2); (case side4 => exact (Kd.R_reads' HO260.out).2.1); rintro e w' ⟨rfl, ⟨nd, rfl⟩⟩; refine ⟨_, rfl, ?_⟩))
       go_ret
       exact ⟨by first | rfl | (simp [errW_none, errW_some] <;> rfl) | (simp [*, errW_none, errW_some] <;> rfl), hB⟩
      ·replace c23 := Bool.eq_false_iff.mpr c23
       subst c23
       have H1 : (none) = some r := by rw [if_neg (show ¬ (false = true) by decide)] at H; exact H
       clear H
       have H := H1
       clear H1
       exact absurd H (by simp)
     ·replace c20 := Bool.eq_false_iff.mpr c20
      subst c20
      have H1 : (none) = some r := by rw [if_neg (show ¬ (false = true) by decide)] at H; exact H
      clear H
      have H := H1
      clear H1
      exact absurd H (by simp)
   ·rw [if_neg c16] at H
    exact absurd H (by simp)

end Go.Proofs.Ytjpfbkkikcpmhaa.PFnExactStrangersBeside
