-- Of this session's own program wip/gen/gen.py (it drives the kit's print): contracts of the functions that the law reaches.
import Derived.Test.YtdnkipagpagfiaaDoorPSol3x0
import Derived.Test.YtdnkipagpagfiaaDoorPSol3x2
import Derived.Test.YtdnkipagpagfiaaDoorPSol3x3
import Derived.Test.YtdnkipagpagfiaaDoorPSol3x4
import Derived.Test.YtdnkipagpagfiaaDoorPSol3x9
import Derived.Test.YtdnkipagpagfiaaDoorPSol3x13
namespace Go.Proofs.YtdnkipagpagfiaaDoor.PSol3
open Go.RowKit Go.Proofs.YtdnkipagpagfiaaDoorW.PrintWords Go.Proofs.YtdnkipagpagfiaaDoorW.PrintLast Go.Proofs.YtdnkipagpagfiaaDoorW.PrintMore Go.Proofs.YtdnkipagpagfiaaDoor.Base
attribute [local go_sem] max2_int min2_int max_two min_two max_three min_three max_four min_four   -- for this text's walks alone
set_option linter.unusedVariables false
set_option linter.unusedSimpArgs false

/-! ### laws_eqParty: function 19 -/
def laws_eqParty.f (k : Nat) (a0_0 : Int) (l0_1 : List (S110)) (a1_0 : Int) (l1_1 : List (S110)) : Option (Bool) := if a0_0 = a1_0 then ((laws_eqPairS.f k l0_1 l1_1).bind fun t108 => (if t108 = true then (some true) else (some false))) else (some false)
theorem laws_eqParty.mono : ∀ a0 a1 a2 a3 k, LeO (laws_eqParty.f k a0 a1 a2 a3) (laws_eqParty.f (k + 1) a0 a1 a2 a3) := by
 intro a0 a1 a2 a3 k
 unfold laws_eqParty.f
 repeat' first
   | (with_reducible exact laws_eqPairS.mono _ _ _)
   | (with_reducible exact LeO.refl _)
   | (with_reducible exact LeO.none _)
   | (with_reducible refine LeO.ite ?_ ?_)
   | (with_reducible refine LeO.bind ?_ (fun _ => ?_))
   | exact laws_eqPairS.mono _ _ _
   | exact LeO.none _
   | refine LeO.ite ?_ ?_
   | refine LeO.bind ?_ (fun _ => ?_)
set_option maxHeartbeats 8000000 in
set_option maxRecDepth 100000 in
theorem laws_eqParty.calls (k : Nat) (a0_0 : Int) (A0_1 : Option Addr) (c0_1 : Nat) (l0_1 : List (S110)) (a1_0 : Int) (A1_1 : Option Addr) (c1_1 : Nat) (l1_1 : List (S110)) (r : Bool) (w : World) (hr0_1 : Kd.C k110 w A0_1 l0_1.length l0_1) (hc0_1 : l0_1.length ≤ c0_1) (hr1_1 : Kd.C k110 w A1_1 l1_1.length l1_1) (hc1_1 : l1_1.length ≤ c1_1) (h : laws_eqParty.f k a0_0 l0_1 a1_0 l1_1 = some r) :
  Calls Tryd.prog 19 #[.agg #[.int .i64 a0_0, .slice A0_1 l0_1.length c0_1], .agg #[.int .i64 a1_0, .slice A1_1 l1_1.length c1_1]] w fun e w' => e = .returned (.bool r) ∧ Below w.heap.size w w' := by
 have hu34 := Tryd.underlying34
 have HR0_1 := Aside0.mk hr0_1
 have HC0_1 := Aside0.mk hc0_1
 clear hr0_1 hc0_1
 have HR1_1 := Aside0.mk hr1_1
 have HC1_1 := Aside0.mk hc1_1
 clear hr1_1 hc1_1
 have HB := Aside0.mk (Below.refl w.heap.size w)
 have H : (if a0_0 = a1_0 then ((laws_eqPairS.f k l0_1 l1_1).bind fun t108 => (if t108 = true then (some true) else (some false))) else (some false)) = some r := h
 clear h
 by_cases c3 : a0_0 = a1_0
 ·rw [if_pos c3] at H
  have c3b0 : (a0_0 == a1_0) = true := beq_iff_eq.mpr c3
  have c3b1 : (a0_0 != a1_0) = false := bne_eq_false_iff_eq.mpr c3
  clear c3
  replace H := Option.bind_eq_some_iff.mp H
  obtain ⟨t108, A40, H⟩ := H
  try dsimp only at H
  have A4 := Aside0.mk A40
  clear A40
  by_cases c5 : t108 = true
  ·subst c5
   have H1 : (some true) = some r := by rw [if_pos rfl] at H; exact H
   clear H
   have H := H1
   clear H1
   obtain rfl := Option.some.inj H
   go_enter Tryd.func19, Tryd.ntmps19
   go_wp2_with (first | ((with_reducible refine gate_dst (N := 2) rfl ?_); refine bxE 2 #[.int .i64 a0_0, .slice A0_1 l0_1.length c0_1] 34 rfl ?_; intro gb106 hg w6 hbox hb; have BK106 := Aside0.mk (hbox); have GW106 := gS HB hg; have GE106 := gS HB hg; replace HB := hS HB hb; clear hb hbox hg) | ((with_reducible refine gate_dst (N := 3) rfl ?_); refine bxE 3 #[.int .i64 a1_0, .slice A1_1 l1_1.length c1_1] 34 rfl ?_; intro gb107 hg w7 hbox hb; have BK107 := Aside0.mk (hbox); have GW107 := gS HB hg; have GE107 := gS HB hg; have NB106_107 := nL BK106 hg; have NB107_106 := nG BK106 hg; replace BK106 := bS BK106 hb; replace HB := hS HB hb; clear hb hbox hg; have hnb8 := NB106_107.out; have hnc8 := NB107_106.out; have hcz9_0 := cz BK106 0; have hcz9_1 := cz BK106 1; have hfz9_0 := fz BK106 0; have hfz9_1 := fz BK106 1; have hcz10_0 := cz BK107 0; have hcz10_1 := cz BK107 1; have hfz10_0 := fz BK107 0; have hfz10_1 := fz BK107 1) | ((with_reducible refine gate_callee (f := 51) rfl ?_); refine goC (N := some 14) Tryd.func51 #[.slice A0_1 l0_1.length c0_1, .slice A1_1 l1_1.length c1_1] rfl ?_; (with_reducible refine (laws_eqPairS.calls k _ _ l0_1 _ _ l1_1 true _ ?side1 ?side2 ?side3 ?side4 A4.out).mono ?_); (case side1 => exact cS (Kd.C_below HR0_1.out HB.out)); (case side2 => exact HC0_1.out); (case side3 => exact cS (Kd.C_below HR1_1.out HB.out)); (case side4 => exact HC1_1.out); rintro e w11 ⟨rfl, hb⟩; refine ⟨_, rfl, ?_⟩; replace BK106 := bS BK106 hb; replace BK107 := bS BK107 hb; replace HB := hS HB hb; (try clear hb); (try clear hb2); (try clear hk); (try clear hi)))
   go_ret
   exact ⟨by first | rfl | (simp [errW_none, errW_some] <;> rfl) | (simp [*, errW_none, errW_some] <;> rfl), hB⟩
  ·replace c5 := Bool.eq_false_iff.mpr c5
   subst c5
   have H1 : (some false) = some r := by rw [if_neg (show ¬ (false = true) by decide)] at H; exact H
   clear H
   have H := H1
   clear H1
   obtain rfl := Option.some.inj H
   go_enter Tryd.func19, Tryd.ntmps19
   go_wp2_with (first | ((with_reducible refine gate_dst (N := 2) rfl ?_); refine bxE 2 #[.int .i64 a0_0, .slice A0_1 l0_1.length c0_1] 34 rfl ?_; intro gb106 hg w12 hbox hb; have BK106 := Aside0.mk (hbox); have GW106 := gS HB hg; have GE106 := gS HB hg; replace HB := hS HB hb; clear hb hbox hg) | ((with_reducible refine gate_dst (N := 3) rfl ?_); refine bxE 3 #[.int .i64 a1_0, .slice A1_1 l1_1.length c1_1] 34 rfl ?_; intro gb107 hg w13 hbox hb; have BK107 := Aside0.mk (hbox); have GW107 := gS HB hg; have GE107 := gS HB hg; have NB106_107 := nL BK106 hg; have NB107_106 := nG BK106 hg; replace BK106 := bS BK106 hb; replace HB := hS HB hb; clear hb hbox hg; have hnb14 := NB106_107.out; have hnc14 := NB107_106.out; have hcz15_0 := cz BK106 0; have hcz15_1 := cz BK106 1; have hfz15_0 := fz BK106 0; have hfz15_1 := fz BK106 1; have hcz16_0 := cz BK107 0; have hcz16_1 := cz BK107 1; have hfz16_0 := fz BK107 0; have hfz16_1 := fz BK107 1) | ((with_reducible refine gate_callee (f := 51) rfl ?_); refine goC (N := some 14) Tryd.func51 #[.slice A0_1 l0_1.length c0_1, .slice A1_1 l1_1.length c1_1] rfl ?_; (with_reducible refine (laws_eqPairS.calls k _ _ l0_1 _ _ l1_1 false _ ?side1 ?side2 ?side3 ?side4 A4.out).mono ?_); (case side1 => exact cS (Kd.C_below HR0_1.out HB.out)); (case side2 => exact HC0_1.out); (case side3 => exact cS (Kd.C_below HR1_1.out HB.out)); (case side4 => exact HC1_1.out); rintro e w17 ⟨rfl, hb⟩; refine ⟨_, rfl, ?_⟩; replace BK106 := bS BK106 hb; replace BK107 := bS BK107 hb; replace HB := hS HB hb; (try clear hb); (try clear hb2); (try clear hk); (try clear hi)))
   go_ret
   exact ⟨by first | rfl | (simp [errW_none, errW_some] <;> rfl) | (simp [*, errW_none, errW_some] <;> rfl), hB⟩
 ·rw [if_neg c3] at H
  have c3b0 : (a0_0 == a1_0) = false := beq_eq_false_iff_ne.mpr c3
  have c3b1 : (a0_0 != a1_0) = true := bne_iff_ne.mpr c3
  obtain rfl := Option.some.inj H
  go_enter Tryd.func19, Tryd.ntmps19
  go_wp2_with (first | ((with_reducible refine gate_dst (N := 2) rfl ?_); refine bxE 2 #[.int .i64 a0_0, .slice A0_1 l0_1.length c0_1] 34 rfl ?_; intro gb106 hg w18 hbox hb; have BK106 := Aside0.mk (hbox); have GW106 := gS HB hg; have GE106 := gS HB hg; replace HB := hS HB hb; clear hb hbox hg) | ((with_reducible refine gate_dst (N := 3) rfl ?_); refine bxE 3 #[.int .i64 a1_0, .slice A1_1 l1_1.length c1_1] 34 rfl ?_; intro gb107 hg w19 hbox hb; have BK107 := Aside0.mk (hbox); have GW107 := gS HB hg; have GE107 := gS HB hg; have NB106_107 := nL BK106 hg; have NB107_106 := nG BK106 hg; replace BK106 := bS BK106 hb; replace HB := hS HB hb; clear hb hbox hg; have hnb20 := NB106_107.out; have hnc20 := NB107_106.out; have hcz21_0 := cz BK106 0; have hcz21_1 := cz BK106 1; have hfz21_0 := fz BK106 0; have hfz21_1 := fz BK106 1; have hcz22_0 := cz BK107 0; have hcz22_1 := cz BK107 1; have hfz22_0 := fz BK107 0; have hfz22_1 := fz BK107 1))
  go_ret
  exact ⟨by first | rfl | (simp [errW_none, errW_some] <;> rfl) | (simp [*, errW_none, errW_some] <;> rfl), hB⟩

/-! ### laws_markParty: function 23 -/
def laws_markParty.f (k : Nat) (a0_0 : Int) (l0_1 : List (S110)) (a1 : Int) : Option (Int × (List (S110))) := (laws_markPairS.f k l0_1 a1).bind fun bt120 => (some (bt120.1, bt120.2))
theorem laws_markParty.mono : ∀ a0 a1 a2 k, LeO (laws_markParty.f k a0 a1 a2) (laws_markParty.f (k + 1) a0 a1 a2) := by
 intro a0 a1 a2 k
 unfold laws_markParty.f
 repeat' first
   | (with_reducible exact laws_markPairS.mono _ _ _)
   | (with_reducible exact LeO.refl _)
   | (with_reducible exact LeO.none _)
   | (with_reducible refine LeO.ite ?_ ?_)
   | (with_reducible refine LeO.bind ?_ (fun _ => ?_))
   | exact laws_markPairS.mono _ _ _
   | exact LeO.none _
   | refine LeO.ite ?_ ?_
   | refine LeO.bind ?_ (fun _ => ?_)
set_option maxHeartbeats 8000000 in
set_option maxRecDepth 100000 in
theorem laws_markParty.calls (k : Nat) (a0_0 : Int) (P0_1_ : Nat → Prop) (u9000_ : Value) (l0_1 : List (S110)) (a1 : Int) (r1 : Int) (r2 : List (S110)) (w0 w : World) (hB : Below w0.heap.size w0 w) (ho0_1 : Kd.R k110 110 w w0.heap.size P0_1_ u9000_ l0_1) (h : laws_markParty.f k a0_0 l0_1 a1 = some (r1, r2)) :
  Calls Tryd.prog 23 #[.agg #[.int .i64 a0_0, u9000_], .int .i64 a1] w fun e w' => e = .returned (.int .i64 r1) ∧ Kd.R k110 110 w' w0.heap.size (fun k_ => (P0_1_ k_ ∨ w.heap.size ≤ k_)) u9000_ r2 ∧ Below w0.heap.size w0 w' ∧ Kept w w' (fun k_ => P0_1_ k_) := by
 have hu34 := Tryd.underlying34
 have HO0_1 := Aside0.mk (show Kd.R k110 110 w w0.heap.size (fun k_ => (P0_1_ k_ ∨ w.heap.size ≤ k_)) u9000_ l0_1 from Kd.R_mono ho0_1 (fun k_ hk => (.inl hk)))
 have HK := Aside0.mk (Kept.refl w (fun k_ => P0_1_ k_))
 have HW0 := Aside0.mk hB.size
 have HB := Aside0.mk hB
 clear hB
 have H : ((laws_markPairS.f k l0_1 a1).bind fun bt120 => (some (bt120.1, bt120.2))) = some (r1, r2) := h
 clear h
 replace H := Option.bind_eq_some_iff.mp H
 obtain ⟨⟨t120, t121⟩, A30, H⟩ := H
 replace H : (some (t120, t121)) = some (r1, r2) := H
 have A3 := Aside0.mk A30
 clear A30
 simp only [Option.some.injEq, Prod.mk.injEq] at H
 obtain ⟨rfl, rfl⟩ := H
 obtain ⟨Ao4, co4, eo4⟩ := Kd.R_slice HO0_1.out
 subst eo4
 go_enter Tryd.func23, Tryd.ntmps23
 go_wp2_with (first | ((with_reducible refine gate_dst (N := 2) rfl ?_); refine bxE 2 #[.int .i64 a0_0, .slice Ao4 l0_1.length co4] 34 rfl ?_; intro gb119 hg w5 hbox hb; have BK119 := Aside0.mk (hbox); have GW119 := Aside0.mk ((by rw [hg]; exact (by first | exact HK.out.1 | exact (show Kept w _ (fun k_ => P0_1_ k_) from by repeat (first | (with_reducible first | exact HK.out | apply Kept.alloc | apply Kept.drewN | apply Kept.drew) | exact HK.out)).1) : w.heap.size ≤ gb119)); have GE119 := Aside0.mk ((by rw [hg]; exact (below_size hB) : w0.heap.size ≤ gb119)); replace HO0_1 := Aside0.mk (Kd.R_below (by (with_reducible repeat (first | apply Kd.R_alloc | apply Kd.R_drewN | apply Kd.R_drew)); exact HO0_1.out) hb); replace HK := Aside0.mk (Kept.below (S := (fun k_ => P0_1_ k_)) (by repeat (first | (with_reducible first | exact HK.out | apply Kept.alloc | apply Kept.drewN | apply Kept.drew) | exact HK.out)) hb); replace HB := hS HB hb; clear hb hbox hg; have hcz6_0 := cz BK119 0; have hcz6_1 := cz BK119 1; have hfz6_0 := fz BK119 0; have hfz6_1 := fz BK119 1) | ((with_reducible refine gate_callee (f := 52) rfl ?_); refine goC (N := some 8) Tryd.func52 #[.slice Ao4 l0_1.length co4, .int .i64 a1] rfl ?_; (with_reducible refine (laws_markPairS.calls k (fun k_ => some k_ = (.slice Ao4 l0_1.length co4 : Value).ownBlock) (.slice Ao4 l0_1.length co4) l0_1 a1 t120 t121 w0 _ ?side1 ?side2 A3.out).mono ?_); (case side1 => repeat (first | (with_reducible first | exact HB.out | apply below_alloc | apply pw_below_drewN | apply below_drew1 | refine below_set ?_ GE119.out) | exact HB.out)); (case side2 => exact Kd.R_tight rfl HO0_1.out); rintro e w7 ⟨rfl, hy0, hb, hkp⟩; refine ⟨_, rfl, ?_⟩; replace BK119 := Aside0.mk (blk_kept bK hkp (fun hs_ => (fun e_ => (Kd.R_ne HO0_1.out BK119.out (by decide)) e_) hs_)); replace HK := Aside0.mk (Kept.then_ (S := (fun k_ => P0_1_ k_)) (by repeat (first | (with_reducible first | exact HK.out | apply Kept.alloc | apply Kept.drewN | apply Kept.drew | refine Kept.setCell ?_ (.inr GW119.out) _) | exact HK.out)) hkp (fun k_ hs_ => (fun e_ => (HO0_1.out.1 k_ e_.symm)) hs_)); replace HO0_1 := Aside0.mk (Kd.R_reok rfl hy0 (fun k_ e_ => HO0_1.out.1 k_ e_)); replace HB := Aside0.mk (hb); (try clear hb); (try clear hkp); (try clear hy0)))
 go_ret
 exact ⟨by first | rfl | (simp [errW_none, errW_some] <;> rfl) | (simp [*, errW_none, errW_some] <;> rfl), by (with_reducible repeat (first | apply Kd.R_alloc | apply Kd.R_drewN | apply Kd.R_drew)); exact HO0_1.out, hB, by repeat (first | (with_reducible first | exact HK.out | apply Kept.alloc | apply Kept.drewN | apply Kept.drew | refine Kept.setCell ?_ (.inr GW119.out) _) | exact HK.out)⟩

/-! ### spec_FirstSolution: function 41 -/
def spec_FirstSolution.f (k : Nat) (a0_0 : Int) (l0_1 : List (S30)) : Option (Int × (List (S110)) × Bool) := (spec_pzGood.f k a0_0 l0_1).bind fun t345 => (if t345 = true then ((spec_pzAll.f k a0_0 l0_1).bind fun t346 => (if (t346.length : Int) = 0 then (some (0, ([] : List (S110)), false)) else (if 0 < (t346.length : Int) then (some ((rd_T34 t346 0).f0, (rd_T34 t346 0).f1, true)) else (none)))) else (some (0, ([] : List (S110)), false)))
theorem spec_FirstSolution.mono : ∀ a0 a1 k, LeO (spec_FirstSolution.f k a0 a1) (spec_FirstSolution.f (k + 1) a0 a1) := by
 intro a0 a1 k
 unfold spec_FirstSolution.f
 repeat' first
   | (with_reducible exact spec_pzAll.mono _ _ _)
   | (with_reducible exact spec_pzGood.mono _ _ _)
   | (with_reducible exact LeO.refl _)
   | (with_reducible exact LeO.none _)
   | (with_reducible refine LeO.ite ?_ ?_)
   | (with_reducible refine LeO.bind ?_ (fun _ => ?_))
   | exact spec_pzAll.mono _ _ _
   | exact spec_pzGood.mono _ _ _
   | exact LeO.none _
   | refine LeO.ite ?_ ?_
   | refine LeO.bind ?_ (fun _ => ?_)
set_option maxHeartbeats 8000000 in
set_option maxRecDepth 100000 in
theorem spec_FirstSolution.calls (k : Nat) (a0_0 : Int) (A0_1 : Option Addr) (c0_1 : Nat) (l0_1 : List (S30)) (r1 : Int) (r2 : List (S110)) (r3 : Bool) (w : World) (hr0_1 : Kd.C k30 w A0_1 l0_1.length l0_1) (hc0_1 : l0_1.length ≤ c0_1) (h : spec_FirstSolution.f k a0_0 l0_1 = some (r1, r2, r3)) :
  Calls Tryd.prog 41 #[.agg #[.int .i64 a0_0, .slice A0_1 l0_1.length c0_1]] w fun e w' => ∃ v1_ : Value, e = .returned (.tuple #[.agg #[.int .i64 r1, v1_], .bool r3]) ∧ Kd.V k110 110 w' w.heap.size (fun k_ => (w.heap.size ≤ k_)) v1_ r2 ∧ Below w.heap.size w w' := by
 have hu40 := Tryd.underlying40
 have hu34 := Tryd.underlying34
 have HR0_1 := Aside0.mk hr0_1
 have HC0_1 := Aside0.mk hc0_1
 clear hr0_1 hc0_1
 have HB := Aside0.mk (Below.refl w.heap.size w)
 have H : ((spec_pzGood.f k a0_0 l0_1).bind fun t345 => (if t345 = true then ((spec_pzAll.f k a0_0 l0_1).bind fun t346 => (if (t346.length : Int) = 0 then (some (0, ([] : List (S110)), false)) else (if 0 < (t346.length : Int) then (some ((rd_T34 t346 0).f0, (rd_T34 t346 0).f1, true)) else (none)))) else (some (0, ([] : List (S110)), false)))) = some (r1, r2, r3) := h
 clear h
 replace H := Option.bind_eq_some_iff.mp H
 obtain ⟨t345, A20, H⟩ := H
 try dsimp only at H
 have A2 := Aside0.mk A20
 clear A20
 by_cases c3 : t345 = true
 ·subst c3
  rw [if_pos rfl] at H
  replace H := Option.bind_eq_some_iff.mp H
  obtain ⟨t346, A40, H⟩ := H
  try dsimp only at H
  have A4 := Aside0.mk A40
  clear A40
  by_cases c5 : (t346.length : Int) = 0
  ·rw [if_pos c5] at H
   have c5b0 : ((t346.length : Int) == 0) = true := beq_iff_eq.mpr c5
   have c5b1 : ((t346.length : Int) != 0) = false := bne_eq_false_iff_eq.mpr c5
   clear c5
   simp only [Option.some.injEq, Prod.mk.injEq] at H
   obtain ⟨rfl, rfl, rfl⟩ := H
   go_enter Tryd.func41, Tryd.ntmps41
   go_wp2_with (first | ((with_reducible refine gate_dst (N := 1) rfl ?_); refine bxE 1 #[.int .i64 a0_0, .slice A0_1 l0_1.length c0_1] 40 rfl ?_; intro gb343 hg w6 hbox hb; have BK343 := Aside0.mk (hbox); have GW343 := gS HB hg; have GE343 := gS HB hg; replace HB := hS HB hb; clear hb hbox hg) | ((with_reducible refine gate_dst (N := 2) rfl ?_); refine bxE 2 #[.int .i64 0, .slice none 0 0] 34 rfl ?_; intro gb344 hg w7 hbox hb; have BK344 := Aside0.mk (hbox); have GW344 := gS HB hg; have GE344 := gS HB hg; have NB343_344 := nL BK343 hg; have NB344_343 := nG BK343 hg; replace BK343 := bS BK343 hb; replace HB := hS HB hb; clear hb hbox hg; have hnb8 := NB343_344.out; have hnc8 := NB344_343.out; have hcz9_0 := cz BK343 0; have hcz9_1 := cz BK343 1; have hfz9_0 := fz BK343 0; have hfz9_1 := fz BK343 1) | ((with_reducible refine gate_callee (f := 83) rfl ?_); refine goC (N := some 6) Tryd.func83 #[.agg #[.int .i64 a0_0, .slice A0_1 l0_1.length c0_1]] rfl ?_; (with_reducible refine (spec_pzGood.calls k a0_0 _ _ l0_1 true _ ?side1 ?side2 A2.out).mono ?_); (case side1 => exact cS (Kd.C_below HR0_1.out HB.out)); (case side2 => exact HC0_1.out); rintro e w10 ⟨rfl, hb⟩; refine ⟨_, rfl, ?_⟩; replace BK343 := bS BK343 hb; replace BK344 := bS BK344 hb; replace HB := hS HB hb; (try clear hb); (try clear hb2); (try clear hk); (try clear hi); have hcz11_0 := cz BK343 0; have hcz11_1 := cz BK343 1; have hfz11_0 := fz BK343 0; have hfz11_1 := fz BK343 1) | ((with_reducible refine gate_callee (f := 84) rfl ?_); refine goC (N := some 13) Tryd.func84 #[.int .i64 a0_0, .slice A0_1 l0_1.length c0_1] rfl ?_; (with_reducible refine (spec_pzAll.calls k a0_0 _ _ l0_1 t346 _ ?side1 ?side2 A4.out).mono ?_); (case side1 => exact cS (Kd.C_below HR0_1.out HB.out)); (case side2 => exact HC0_1.out); rintro e w12 ⟨v347, rfl, ho0, hb⟩; refine ⟨_, rfl, ?_⟩; have HO348 := Aside0.mk (Kd.N_lower (Kd.N_mono (ok' := fun k_ => (w.heap.size ≤ k_) ∧ k_ ≠ gb343 ∧ k_ ≠ gb344) ho0 (fun k_ hk_ => ⟨(Nat.le_trans (below_size hB) hk_), (Kd.freshB (g := gb343) (o := .cells #[.int .i64 a0_0, .slice A0_1 l0_1.length c0_1] 40 (0, 0)) bK k_ hk_), (Kd.freshB (g := gb344) (o := .cells #[.int .i64 0, .slice none 0 0] 34 (0, 0)) bK k_ hk_)⟩)) (below_size hB)); replace BK343 := bS BK343 hb; replace BK344 := bS BK344 hb; replace HB := hS HB hb; (try clear hb); (try clear hb2); (try clear hk); (try clear hi); (try clear ho0); obtain ⟨Ao13, co13, eo13⟩ := Kd.N_slice HO348.out; subst eo13; have hcz14_0 := cz BK344 0; have hcz14_1 := cz BK344 1; have hfz14_0 := fz BK344 0; have hfz14_1 := fz BK344 1))
   refine bodyPost_ret (results_ct rfl _ _ gb344 34 #[.int .i64 0, .slice none 0 0] (0, 0) _ rfl (by (with_reducible repeat (first | refine blk_drewN ?_ _ | refine blk_drew ?_ | refine blk_alloc ?_ _)); refine blk_put (cs := #[.int .i64 0, .slice none 0 0]) ?_ 1 _ rfl; (with_reducible repeat (first | refine blk_drewN ?_ _ | refine blk_drew ?_ | refine blk_alloc ?_ _)); refine blk_put (cs := #[.int .i64 0, .slice none 0 0]) ?_ 0 _ rfl; (with_reducible repeat (first | refine blk_drewN ?_ _ | refine blk_drew ?_ | refine blk_alloc ?_ _)); exact BK344.out) Tryd.underlying34 rfl (by kernel_rfl)) rfl ?_
   exact ⟨_, by first | rfl | (simp [errW_none, errW_some] <;> rfl) | (simp [*, errW_none, errW_some] <;> rfl), Kd.V_nil _ _ _ _ _, hB⟩
  ·rw [if_neg c5] at H
   have c5b0 : ((t346.length : Int) == 0) = false := beq_eq_false_iff_ne.mpr c5
   have c5b1 : ((t346.length : Int) != 0) = true := bne_iff_ne.mpr c5
   have c5b2 : ¬ (t346 = []) := fun h_ => c5 (by rw [h_]; rfl)
   by_cases c15 : 0 < (t346.length : Int)
   ·rw [if_pos c15] at H
    have c15b0 : decide (0 < (t346.length : Int)) = true := decide_eq_true c15
    have c15b1 : decide (0 < t346.length) = true := decide_eq_true (by omega)
    clear c15
    simp only [Option.some.injEq, Prod.mk.injEq] at H
    obtain ⟨rfl, rfl, rfl⟩ := H
    go_enter Tryd.func41, Tryd.ntmps41
    go_wp2_with (first | ((with_reducible refine gate_dst (N := 1) rfl ?_); refine bxE 1 #[.int .i64 a0_0, .slice A0_1 l0_1.length c0_1] 40 rfl ?_; intro gb343 hg w16 hbox hb; have BK343 := Aside0.mk (hbox); have GW343 := gS HB hg; have GE343 := gS HB hg; replace HB := hS HB hb; clear hb hbox hg) | ((with_reducible refine gate_dst (N := 2) rfl ?_); refine bxE 2 #[.int .i64 0, .slice none 0 0] 34 rfl ?_; intro gb344 hg w17 hbox hb; have BK344 := Aside0.mk (hbox); have GW344 := gS HB hg; have GE344 := gS HB hg; have NB343_344 := nL BK343 hg; have NB344_343 := nG BK343 hg; replace BK343 := bS BK343 hb; replace HB := hS HB hb; clear hb hbox hg; have hnb18 := NB343_344.out; have hnc18 := NB344_343.out; have hcz19_0 := cz BK343 0; have hcz19_1 := cz BK343 1; have hfz19_0 := fz BK343 0; have hfz19_1 := fz BK343 1) | ((with_reducible refine gate_callee (f := 83) rfl ?_); refine goC (N := some 6) Tryd.func83 #[.agg #[.int .i64 a0_0, .slice A0_1 l0_1.length c0_1]] rfl ?_; (with_reducible refine (spec_pzGood.calls k a0_0 _ _ l0_1 true _ ?side1 ?side2 A2.out).mono ?_); (case side1 => exact cS (Kd.C_below HR0_1.out HB.out)); (case side2 => exact HC0_1.out); rintro e w20 ⟨rfl, hb⟩; refine ⟨_, rfl, ?_⟩; replace BK343 := bS BK343 hb; replace BK344 := bS BK344 hb; replace HB := hS HB hb; (try clear hb); (try clear hb2); (try clear hk); (try clear hi); have hcz21_0 := cz BK343 0; have hcz21_1 := cz BK343 1; have hfz21_0 := fz BK343 0; have hfz21_1 := fz BK343 1) | ((with_reducible refine gate_callee (f := 84) rfl ?_); refine goC (N := some 13) Tryd.func84 #[.int .i64 a0_0, .slice A0_1 l0_1.length c0_1] rfl ?_; (with_reducible refine (spec_pzAll.calls k a0_0 _ _ l0_1 t346 _ ?side1 ?side2 A4.out).mono ?_); (case side1 => exact cS (Kd.C_below HR0_1.out HB.out)); (case side2 => exact HC0_1.out); rintro e w22 ⟨v347, rfl, ho0, hb⟩; refine ⟨_, rfl, ?_⟩; have HO348 := Aside0.mk (Kd.N_lower (Kd.N_mono (ok' := fun k_ => (w.heap.size ≤ k_) ∧ k_ ≠ gb343 ∧ k_ ≠ gb344) ho0 (fun k_ hk_ => ⟨(Nat.le_trans (below_size hB) hk_), (Kd.freshB (g := gb343) (o := .cells #[.int .i64 a0_0, .slice A0_1 l0_1.length c0_1] 40 (0, 0)) bK k_ hk_), (Kd.freshB (g := gb344) (o := .cells #[.int .i64 0, .slice none 0 0] 34 (0, 0)) bK k_ hk_)⟩)) (below_size hB)); replace BK343 := bS BK343 hb; replace BK344 := bS BK344 hb; replace HB := hS HB hb; (try clear hb); (try clear hb2); (try clear hk); (try clear hi); (try clear ho0); obtain ⟨Ao23, co23, eo23⟩ := Kd.N_slice HO348.out; subst eo23; have p349 : 0 ≤ (0 : Int) := (by omega); have q349 : 0 < (t346.length : Int) := of_decide_eq_true (by first | (with_reducible assumption) | assumption); obtain ⟨ad349, A349_1, c349_1, e349, hx349_0, hx349_1, hl349_1, hi349_1⟩ := at_T34 (Kd.N_reads' HO348.out).2.2 0 p349 q349; cases e349; obtain ⟨ce349, hce349, hMe349, hcc349⟩ := Kd.N_get HO348.out z34 0 p349 (by first | exact q349 | exact of_decide_eq_true (by first | (with_reducible assumption) | assumption) | (have e_ := (Kd.N_reads' HO348.out).1; omega)); obtain ⟨ua349_1, uc349_1, rfl, ul349_1, ge349_1⟩ := k34_openF hMe349; have hv349_1 := hcc349 1 _ rfl; rw [add_field _ _ 1 (by omega)] at hv349_1; replace hv349_1 := Option.some.inj (hv349_1.symm.trans hx349_1); injection hv349_1 with hva_ hvn_ hvc_; rw [hva_] at ge349_1; rw [hvc_] at ul349_1; have HL349_1 := Aside0.mk (show Kd.V k110 110 _ w.heap.size _ _ ((rd_T34 t346 0).f1) from Kd.V_mk ul349_1 ge349_1); clear hva_ hvn_ hvc_ ge349_1 ul349_1; clear hcc349 hce349; have qi349 : (0 < t346.length) = True := eq_true (by omega); (try rw [show ((0 : Int)).toNat = 0 from rfl] at hx349_0); (try rw [show 0 * 2 = 0 from rfl] at hx349_0); (try rw [Addr.add_zero'] at hx349_0); (try rw [show ((0 : Int)).toNat = 0 from rfl] at hx349_1); (try rw [show 0 * 2 = 0 from rfl] at hx349_1); (try rw [Addr.add_zero'] at hx349_1); have HR349_1 := Aside0.mk hi349_1; have HC349_1 := Aside0.mk hl349_1; clear hi349_1 hl349_1; replace p349 := eq_true p349; replace q349 := eq_true q349; have hcz24_0 := cz BK344 0; have hcz24_1 := cz BK344 1; have hfz24_0 := fz BK344 0; have hfz24_1 := fz BK344 1))
    refine bodyPost_ret (results_ct rfl _ _ gb344 34 #[.int .i64 ((rd_T34 t346 0).f0), .slice A349_1 ((rd_T34 t346 0).f1).length c349_1] (0, 0) _ rfl (by (with_reducible repeat (first | refine blk_drewN ?_ _ | refine blk_drew ?_ | refine blk_alloc ?_ _)); refine blk_put (cs := #[.int .i64 ((rd_T34 t346 0).f0), .slice none 0 0]) ?_ 1 _ rfl; (with_reducible repeat (first | refine blk_drewN ?_ _ | refine blk_drew ?_ | refine blk_alloc ?_ _)); refine blk_put (cs := #[.int .i64 0, .slice none 0 0]) ?_ 0 _ rfl; (with_reducible repeat (first | refine blk_drewN ?_ _ | refine blk_drew ?_ | refine blk_alloc ?_ _)); exact BK344.out) Tryd.underlying34 rfl (by kernel_rfl)) rfl ?_
    exact ⟨_, by first | rfl | (simp [errW_none, errW_some] <;> rfl) | (simp [*, errW_none, errW_some] <;> rfl), by (with_reducible repeat (first | apply Kd.V_alloc | apply Kd.V_drewN | apply Kd.V_drew)); exact Kd.V_mono (Kd.V_far (p := ⟨gb344, 1, none⟩) (Kd.V_far (p := ⟨gb344, 0, none⟩) (Kd.V_mono HL349_1.out (fun k_ hk => (⟨hk, hk.1.2.2⟩ : _ ∧ k_ ≠ gb344))) (fun _ hk => hk.2) (.int .i64 ((rd_T34 t346 0).f0))) (fun _ hk => hk.2) (.slice A349_1 ((rd_T34 t346 0).f1).length c349_1)) (fun _ hk => hk.1.1.1), hB⟩
   ·rw [if_neg c15] at H
    exact absurd H (by simp)
 ·replace c3 := Bool.eq_false_iff.mpr c3
  subst c3
  rw [if_neg (show ¬ (false = true) by decide)] at H
  simp only [Option.some.injEq, Prod.mk.injEq] at H
  obtain ⟨rfl, rfl, rfl⟩ := H
  go_enter Tryd.func41, Tryd.ntmps41
  go_wp2_with (first | ((with_reducible refine gate_dst (N := 1) rfl ?_); refine bxE 1 #[.int .i64 a0_0, .slice A0_1 l0_1.length c0_1] 40 rfl ?_; intro gb343 hg w25 hbox hb; have BK343 := Aside0.mk (hbox); have GW343 := gS HB hg; have GE343 := gS HB hg; replace HB := hS HB hb; clear hb hbox hg) | ((with_reducible refine gate_dst (N := 2) rfl ?_); refine bxE 2 #[.int .i64 0, .slice none 0 0] 34 rfl ?_; intro gb344 hg w26 hbox hb; have BK344 := Aside0.mk (hbox); have GW344 := gS HB hg; have GE344 := gS HB hg; have NB343_344 := nL BK343 hg; have NB344_343 := nG BK343 hg; replace BK343 := bS BK343 hb; replace HB := hS HB hb; clear hb hbox hg; have hnb27 := NB343_344.out; have hnc27 := NB344_343.out; have hcz28_0 := cz BK343 0; have hcz28_1 := cz BK343 1; have hfz28_0 := fz BK343 0; have hfz28_1 := fz BK343 1) | ((with_reducible refine gate_callee (f := 83) rfl ?_); refine goC (N := some 6) Tryd.func83 #[.agg #[.int .i64 a0_0, .slice A0_1 l0_1.length c0_1]] rfl ?_; (with_reducible refine (spec_pzGood.calls k a0_0 _ _ l0_1 false _ ?side1 ?side2 A2.out).mono ?_); (case side1 => exact cS (Kd.C_below HR0_1.out HB.out)); (case side2 => exact HC0_1.out); rintro e w29 ⟨rfl, hb⟩; refine ⟨_, rfl, ?_⟩; replace BK343 := bS BK343 hb; replace BK344 := bS BK344 hb; replace HB := hS HB hb; (try clear hb); (try clear hb2); (try clear hk); (try clear hi); have hcz30_0 := cz BK344 0; have hcz30_1 := cz BK344 1; have hfz30_0 := fz BK344 0; have hfz30_1 := fz BK344 1))
  refine bodyPost_ret (results_ct rfl _ _ gb344 34 #[.int .i64 0, .slice none 0 0] (0, 0) _ rfl (by (with_reducible repeat (first | refine blk_drewN ?_ _ | refine blk_drew ?_ | refine blk_alloc ?_ _)); refine blk_put (cs := #[.int .i64 0, .slice none 0 0]) ?_ 1 _ rfl; (with_reducible repeat (first | refine blk_drewN ?_ _ | refine blk_drew ?_ | refine blk_alloc ?_ _)); refine blk_put (cs := #[.int .i64 0, .slice none 0 0]) ?_ 0 _ rfl; (with_reducible repeat (first | refine blk_drewN ?_ _ | refine blk_drew ?_ | refine blk_alloc ?_ _)); exact BK344.out) Tryd.underlying34 rfl (by kernel_rfl)) rfl ?_
  exact ⟨_, by first | rfl | (simp [errW_none, errW_some] <;> rfl) | (simp [*, errW_none, errW_some] <;> rfl), Kd.V_nil _ _ _ _ _, hB⟩

/-! ### impl_FirstSolution: function 42 -/
def impl_FirstSolution.f (k : Nat) (a0_0 : Int) (l0_1 : List (S30)) : Option (Int × (List (S110)) × Bool) := (impl_CountSolutions.f k a0_0 l0_1).bind fun bt466 => (if bt466.1 = 0 then (some (0, ([] : List (S110)), false)) else ((impl_Puzzle_all.f k a0_0 l0_1).bind fun t468 => (if 0 < (t468.length : Int) then (some ((rd_T34 t468 0).f0, (rd_T34 t468 0).f1, true)) else (none))))
theorem impl_FirstSolution.mono : ∀ a0 a1 k, LeO (impl_FirstSolution.f k a0 a1) (impl_FirstSolution.f (k + 1) a0 a1) := by
 intro a0 a1 k
 unfold impl_FirstSolution.f
 repeat' first
   | (with_reducible exact impl_CountSolutions.mono _ _ _)
   | (with_reducible exact impl_Puzzle_all.mono _ _ _)
   | (with_reducible exact LeO.refl _)
   | (with_reducible exact LeO.none _)
   | (with_reducible refine LeO.ite ?_ ?_)
   | (with_reducible refine LeO.bind ?_ (fun _ => ?_))
   | exact impl_CountSolutions.mono _ _ _
   | exact impl_Puzzle_all.mono _ _ _
   | exact LeO.none _
   | refine LeO.ite ?_ ?_
   | refine LeO.bind ?_ (fun _ => ?_)
set_option maxHeartbeats 8000000 in
set_option maxRecDepth 100000 in
theorem impl_FirstSolution.calls (k : Nat) (a0_0 : Int) (A0_1 : Option Addr) (c0_1 : Nat) (l0_1 : List (S30)) (r1 : Int) (r2 : List (S110)) (r3 : Bool) (w : World) (hr0_1 : Kd.C k30 w A0_1 l0_1.length l0_1) (hc0_1 : l0_1.length ≤ c0_1) (h : impl_FirstSolution.f k a0_0 l0_1 = some (r1, r2, r3)) (hG : GTab 0 w := by first | exact Aside0.out ‹Aside0 (GTab _ _)› | exact GTab.up (Aside0.out ‹Aside0 (GTab _ _)›) (by repeat (first | (with_reducible first | exact Below.refl _ _ | exact Aside0.out ‹Aside0 (Below _ _ _)› | apply below_alloc | apply pw_below_drewN | apply below_drew1 | refine below_set ?_ (Aside0.out (by assumption))) | exact Aside0.out ‹Aside0 (Below _ _ _)›))) :
  Calls Tryd.prog 42 #[.agg #[.int .i64 a0_0, .slice A0_1 l0_1.length c0_1]] w fun e w' => ∃ v1_ : Value, e = .returned (.tuple #[.agg #[.int .i64 r1, v1_], .bool r3]) ∧ Kd.R k110 110 w' w.heap.size (fun _ => True) v1_ r2 ∧ Below w.heap.size w w' := by
 have hu40 := Tryd.underlying40
 have hu34 := Tryd.underlying34
 have HG := Aside0.mk (p := GTab _ _) hG
 clear hG
 have HR0_1 := Aside0.mk hr0_1
 have HC0_1 := Aside0.mk hc0_1
 clear hr0_1 hc0_1
 have HB := Aside0.mk (Below.refl w.heap.size w)
 have H : ((impl_CountSolutions.f k a0_0 l0_1).bind fun bt466 => (if bt466.1 = 0 then (some (0, ([] : List (S110)), false)) else ((impl_Puzzle_all.f k a0_0 l0_1).bind fun t468 => (if 0 < (t468.length : Int) then (some ((rd_T34 t468 0).f0, (rd_T34 t468 0).f1, true)) else (none))))) = some (r1, r2, r3) := h
 clear h
 replace H := Option.bind_eq_some_iff.mp H
 obtain ⟨⟨t466, t467⟩, A20, H⟩ := H
 try dsimp only at H
 have A2 := Aside0.mk A20
 clear A20
 by_cases c3 : t466 = 0
 ·rw [if_pos c3] at H
  have c3b0 : (t466 == 0) = true := beq_iff_eq.mpr c3
  have c3b1 : (t466 != 0) = false := bne_eq_false_iff_eq.mpr c3
  clear c3
  simp only [Option.some.injEq, Prod.mk.injEq] at H
  obtain ⟨rfl, rfl, rfl⟩ := H
  go_enter Tryd.func42, Tryd.ntmps42
  go_wp2_with (first | ((with_reducible refine gate_dst (N := 1) rfl ?_); refine bxE 1 #[.int .i64 a0_0, .slice A0_1 l0_1.length c0_1] 40 rfl ?_; intro gb464 hg w4 hbox hb; have BK464 := Aside0.mk (hbox); have GW464 := gS HB hg; have GE464 := gS HB hg; replace HB := hS HB hb; clear hb hbox hg) | ((with_reducible refine gate_dst (N := 2) rfl ?_); refine bxE 2 #[.int .i64 0, .slice none 0 0] 34 rfl ?_; intro gb465 hg w5 hbox hb; have BK465 := Aside0.mk (hbox); have GW465 := gS HB hg; have GE465 := gS HB hg; have NB464_465 := nL BK464 hg; have NB465_464 := nG BK464 hg; replace BK464 := bS BK464 hb; replace HB := hS HB hb; clear hb hbox hg; have hnb6 := NB464_465.out; have hnc6 := NB465_464.out; have hcz7_0 := cz BK464 0; have hcz7_1 := cz BK464 1; have hfz7_0 := fz BK464 0; have hfz7_1 := fz BK464 1) | ((with_reducible refine gate_callee (f := 29) rfl ?_); refine goC (N := some 8) Tryd.func29 #[.agg #[.int .i64 a0_0, .slice A0_1 l0_1.length c0_1]] rfl ?_; (with_reducible refine (impl_CountSolutions.calls k a0_0 _ _ l0_1 t466 t467 _ ?side1 ?side2 A2.out).mono ?_); (case side1 => exact cS (Kd.C_below HR0_1.out HB.out)); (case side2 => exact HC0_1.out); rintro e w8 ⟨rfl, hb⟩; refine ⟨_, rfl, ?_⟩; replace BK464 := bS BK464 hb; replace BK465 := bS BK465 hb; replace HB := hS HB hb; (try clear hb); (try clear hb2); (try clear hk); (try clear hi); have hcz9_0 := cz BK465 0; have hcz9_1 := cz BK465 1; have hfz9_0 := fz BK465 0; have hfz9_1 := fz BK465 1))
  refine bodyPost_ret (results_ct rfl _ _ gb465 34 #[.int .i64 0, .slice none 0 0] (0, 0) _ rfl (by (with_reducible repeat (first | refine blk_drewN ?_ _ | refine blk_drew ?_ | refine blk_alloc ?_ _)); refine blk_put (cs := #[.int .i64 0, .slice none 0 0]) ?_ 1 _ rfl; (with_reducible repeat (first | refine blk_drewN ?_ _ | refine blk_drew ?_ | refine blk_alloc ?_ _)); refine blk_put (cs := #[.int .i64 0, .slice none 0 0]) ?_ 0 _ rfl; (with_reducible repeat (first | refine blk_drewN ?_ _ | refine blk_drew ?_ | refine blk_alloc ?_ _)); exact BK465.out) Tryd.underlying34 rfl (by kernel_rfl)) rfl ?_
  exact ⟨_, by first | rfl | (simp [errW_none, errW_some] <;> rfl) | (simp [*, errW_none, errW_some] <;> rfl), by first | exact Kd.R_nil _ _ _ _ _ | exact Kd.N_nil _ _ _ _ _ | exact Kd.V_nil _ _ _ _ _ | exact Kd.Q_nil _ _ _ _ _ | exact Kd.S_nil _ _ _ _ _, hB⟩
 ·rw [if_neg c3] at H
  have c3b0 : (t466 == 0) = false := beq_eq_false_iff_ne.mpr c3
  have c3b1 : (t466 != 0) = true := bne_iff_ne.mpr c3
  replace H := Option.bind_eq_some_iff.mp H
  obtain ⟨t468, A100, H⟩ := H
  try dsimp only at H
  have A10 := Aside0.mk A100
  clear A100
  by_cases c11 : 0 < (t468.length : Int)
  ·rw [if_pos c11] at H
   have c11b0 : decide (0 < (t468.length : Int)) = true := decide_eq_true c11
   have c11b1 : decide (0 < t468.length) = true := decide_eq_true (by omega)
   clear c11
   simp only [Option.some.injEq, Prod.mk.injEq] at H
   obtain ⟨rfl, rfl, rfl⟩ := H
   go_enter Tryd.func42, Tryd.ntmps42
   go_wp2_with (first | ((with_reducible refine gate_dst (N := 1) rfl ?_); refine bxE 1 #[.int .i64 a0_0, .slice A0_1 l0_1.length c0_1] 40 rfl ?_; intro gb464 hg w12 hbox hb; have BK464 := Aside0.mk (hbox); have GW464 := gS HB hg; have GE464 := gS HB hg; replace HB := hS HB hb; clear hb hbox hg) | ((with_reducible refine gate_dst (N := 2) rfl ?_); refine bxE 2 #[.int .i64 0, .slice none 0 0] 34 rfl ?_; intro gb465 hg w13 hbox hb; have BK465 := Aside0.mk (hbox); have GW465 := gS HB hg; have GE465 := gS HB hg; have NB464_465 := nL BK464 hg; have NB465_464 := nG BK464 hg; replace BK464 := bS BK464 hb; replace HB := hS HB hb; clear hb hbox hg; have hnb14 := NB464_465.out; have hnc14 := NB465_464.out; have hcz15_0 := cz BK464 0; have hcz15_1 := cz BK464 1; have hfz15_0 := fz BK464 0; have hfz15_1 := fz BK464 1) | ((with_reducible refine gate_callee (f := 29) rfl ?_); refine goC (N := some 8) Tryd.func29 #[.agg #[.int .i64 a0_0, .slice A0_1 l0_1.length c0_1]] rfl ?_; (with_reducible refine (impl_CountSolutions.calls k a0_0 _ _ l0_1 t466 t467 _ ?side1 ?side2 A2.out).mono ?_); (case side1 => exact cS (Kd.C_below HR0_1.out HB.out)); (case side2 => exact HC0_1.out); rintro e w16 ⟨rfl, hb⟩; refine ⟨_, rfl, ?_⟩; replace BK464 := bS BK464 hb; replace BK465 := bS BK465 hb; replace HB := hS HB hb; (try clear hb); (try clear hb2); (try clear hk); (try clear hi); have hcz17_0 := cz BK464 0; have hcz17_1 := cz BK464 1; have hfz17_0 := fz BK464 0; have hfz17_1 := fz BK464 1) | ((with_reducible refine gate_callee (f := 87) rfl ?_); refine goC (N := some 15) Tryd.func87 #[.agg #[.int .i64 a0_0, .slice A0_1 l0_1.length c0_1]] rfl ?_; (with_reducible refine (impl_Puzzle_all.calls k a0_0 _ _ l0_1 t468 _ ?side1 ?side2 A10.out).mono ?_); (case side1 => exact cS (Kd.C_below HR0_1.out HB.out)); (case side2 => exact HC0_1.out); rintro e w18 ⟨v469, rfl, ho0, hb⟩; refine ⟨_, rfl, ?_⟩; have HO470 := Aside0.mk (Kd.S_lower (Kd.S_newB ho0 (g := gb465) (o := .cells #[.int .i64 0, .slice none 0 0] 34 (0, 0)) bK) (below_size hB)); replace BK464 := bS BK464 hb; replace BK465 := bS BK465 hb; replace HB := hS HB hb; (try clear hb); (try clear hb2); (try clear hk); (try clear hi); (try clear ho0); obtain ⟨Ao19, co19, eo19⟩ := Kd.S_slice HO470.out; subst eo19; have p471 : 0 ≤ (0 : Int) := (by omega); have q471 : 0 < (t468.length : Int) := of_decide_eq_true (by first | (with_reducible assumption) | assumption); obtain ⟨ad471, A471_1, c471_1, e471, hx471_0, hx471_1, hl471_1, hi471_1⟩ := at_T34 (Kd.S_reads' HO470.out).2.2 0 p471 q471; cases e471; obtain ⟨ce471, hce471, hMe471, hcc471⟩ := Kd.S_get HO470.out z34 0 p471 (by first | exact q471 | exact of_decide_eq_true (by first | (with_reducible assumption) | assumption) | (have e_ := (Kd.S_reads' HO470.out).1; omega)); obtain ⟨ve471_1, rfl, ge471_1⟩ := k34_openM hMe471; have hv471_1 := hcc471 1 _ rfl; rw [add_field _ _ 1 (by omega)] at hv471_1; replace hv471_1 := Option.some.inj (hv471_1.symm.trans hx471_1); rw [hv471_1] at ge471_1; have HL471_1 := Aside0.mk (show Kd.R k110 110 _ _ _ _ ((rd_T34 t468 0).f1) from ge471_1); clear hv471_1 ge471_1; clear hcc471 hce471; have qi471 : (0 < t468.length) = True := eq_true (by omega); (try rw [show ((0 : Int)).toNat = 0 from rfl] at hx471_0); (try rw [show 0 * 2 = 0 from rfl] at hx471_0); (try rw [Addr.add_zero'] at hx471_0); (try rw [show ((0 : Int)).toNat = 0 from rfl] at hx471_1); (try rw [show 0 * 2 = 0 from rfl] at hx471_1); (try rw [Addr.add_zero'] at hx471_1); have HR471_1 := Aside0.mk hi471_1; have HC471_1 := Aside0.mk hl471_1; clear hi471_1 hl471_1; replace p471 := eq_true p471; replace q471 := eq_true q471; have hcz20_0 := cz BK465 0; have hcz20_1 := cz BK465 1; have hfz20_0 := fz BK465 0; have hfz20_1 := fz BK465 1))
   refine bodyPost_ret (results_ct rfl _ _ gb465 34 #[.int .i64 ((rd_T34 t468 0).f0), .slice A471_1 ((rd_T34 t468 0).f1).length c471_1] (0, 0) _ rfl (by (with_reducible repeat (first | refine blk_drewN ?_ _ | refine blk_drew ?_ | refine blk_alloc ?_ _)); refine blk_put (cs := #[.int .i64 ((rd_T34 t468 0).f0), .slice none 0 0]) ?_ 1 _ rfl; (with_reducible repeat (first | refine blk_drewN ?_ _ | refine blk_drew ?_ | refine blk_alloc ?_ _)); refine blk_put (cs := #[.int .i64 0, .slice none 0 0]) ?_ 0 _ rfl; (with_reducible repeat (first | refine blk_drewN ?_ _ | refine blk_drew ?_ | refine blk_alloc ?_ _)); exact BK465.out) Tryd.underlying34 rfl (by kernel_rfl)) rfl ?_
   exact ⟨_, by first | rfl | (simp [errW_none, errW_some] <;> rfl) | (simp [*, errW_none, errW_some] <;> rfl), by (with_reducible repeat (first | apply Kd.R_alloc | apply Kd.R_drewN | apply Kd.R_drew)); exact Kd.R_mono (Kd.R_far (p := ⟨gb465, 1, none⟩) (Kd.R_far (p := ⟨gb465, 0, none⟩) (Kd.R_types HL471_1.out BK465.out (by decide)) (fun _ hk => hk.2) (.int .i64 ((rd_T34 t468 0).f0))) (fun _ hk => hk.2) (.slice A471_1 ((rd_T34 t468 0).f1).length c471_1)) (fun _ hk => trivial), hB⟩
  ·rw [if_neg c11] at H
   exact absurd H (by simp)

/-! ### laws_heldParty: function 43 -/
def laws_heldParty.f (k : Nat) (a0_0 : Int) (l0_1 : List (S110)) (a1 : Int) : Option (Int) := (laws_heldPairS.f k l0_1 a1).bind fun t475 => (if t475 < 0 then (some (-1)) else (some t475))
theorem laws_heldParty.mono : ∀ a0 a1 a2 k, LeO (laws_heldParty.f k a0 a1 a2) (laws_heldParty.f (k + 1) a0 a1 a2) := by
 intro a0 a1 a2 k
 unfold laws_heldParty.f
 repeat' first
   | (with_reducible exact laws_heldPairS.mono _ _ _)
   | (with_reducible exact LeO.refl _)
   | (with_reducible exact LeO.none _)
   | (with_reducible refine LeO.ite ?_ ?_)
   | (with_reducible refine LeO.bind ?_ (fun _ => ?_))
   | exact laws_heldPairS.mono _ _ _
   | exact LeO.none _
   | refine LeO.ite ?_ ?_
   | refine LeO.bind ?_ (fun _ => ?_)
set_option maxHeartbeats 8000000 in
set_option maxRecDepth 100000 in
theorem laws_heldParty.calls (k : Nat) (a0_0 : Int) (A0_1 : Option Addr) (c0_1 : Nat) (l0_1 : List (S110)) (a1 : Int) (r : Int) (w : World) (hr0_1 : Kd.C k110 w A0_1 l0_1.length l0_1) (hc0_1 : l0_1.length ≤ c0_1) (h : laws_heldParty.f k a0_0 l0_1 a1 = some r) :
  Calls Tryd.prog 43 #[.agg #[.int .i64 a0_0, .slice A0_1 l0_1.length c0_1], .int .i64 a1] w fun e w' => e = .returned (.int .i64 r) ∧ Below w.heap.size w w' := by
 have hu34 := Tryd.underlying34
 have HR0_1 := Aside0.mk hr0_1
 have HC0_1 := Aside0.mk hc0_1
 clear hr0_1 hc0_1
 have HB := Aside0.mk (Below.refl w.heap.size w)
 have H : ((laws_heldPairS.f k l0_1 a1).bind fun t475 => (if t475 < 0 then (some (-1)) else (some t475))) = some r := h
 clear h
 replace H := Option.bind_eq_some_iff.mp H
 obtain ⟨t475, A30, H⟩ := H
 try dsimp only at H
 have A3 := Aside0.mk A30
 clear A30
 by_cases c4 : t475 < 0
 ·rw [if_pos c4] at H
  have c4b0 : decide (t475 < 0) = true := decide_eq_true c4
  clear c4
  obtain rfl := Option.some.inj H
  go_enter Tryd.func43, Tryd.ntmps43
  go_wp2_with (first | ((with_reducible refine gate_dst (N := 2) rfl ?_); refine bxE 2 #[.int .i64 a0_0, .slice A0_1 l0_1.length c0_1] 34 rfl ?_; intro gb474 hg w5 hbox hb; have BK474 := Aside0.mk (hbox); have GW474 := gS HB hg; have GE474 := gS HB hg; replace HB := hS HB hb; clear hb hbox hg; have hcz6_0 := cz BK474 0; have hcz6_1 := cz BK474 1; have hfz6_0 := fz BK474 0; have hfz6_1 := fz BK474 1) | ((with_reducible refine gate_callee (f := 53) rfl ?_); refine goC (N := some 8) Tryd.func53 #[.slice A0_1 l0_1.length c0_1, .int .i64 a1] rfl ?_; (with_reducible refine (laws_heldPairS.calls k _ _ l0_1 a1 t475 _ ?side1 ?side2 A3.out).mono ?_); (case side1 => exact cS (Kd.C_below HR0_1.out HB.out)); (case side2 => exact HC0_1.out); rintro e w' ⟨rfl, ⟨nd, rfl⟩⟩; refine ⟨_, rfl, ?_⟩))
  go_ret
  exact ⟨by first | rfl | (simp [errW_none, errW_some] <;> rfl) | (simp [*, errW_none, errW_some] <;> rfl), hB⟩
 ·rw [if_neg c4] at H
  have c4b0 : decide (t475 < 0) = false := decide_eq_false c4
  clear c4
  obtain rfl := Option.some.inj H
  go_enter Tryd.func43, Tryd.ntmps43
  go_wp2_with (first | ((with_reducible refine gate_dst (N := 2) rfl ?_); refine bxE 2 #[.int .i64 a0_0, .slice A0_1 l0_1.length c0_1] 34 rfl ?_; intro gb474 hg w7 hbox hb; have BK474 := Aside0.mk (hbox); have GW474 := gS HB hg; have GE474 := gS HB hg; replace HB := hS HB hb; clear hb hbox hg; have hcz8_0 := cz BK474 0; have hcz8_1 := cz BK474 1; have hfz8_0 := fz BK474 0; have hfz8_1 := fz BK474 1) | ((with_reducible refine gate_callee (f := 53) rfl ?_); refine goC (N := some 8) Tryd.func53 #[.slice A0_1 l0_1.length c0_1, .int .i64 a1] rfl ?_; (with_reducible refine (laws_heldPairS.calls k _ _ l0_1 a1 t475 _ ?side1 ?side2 A3.out).mono ?_); (case side1 => exact cS (Kd.C_below HR0_1.out HB.out)); (case side2 => exact HC0_1.out); rintro e w' ⟨rfl, ⟨nd, rfl⟩⟩; refine ⟨_, rfl, ?_⟩))
  go_ret
  exact ⟨by first | rfl | (simp [errW_none, errW_some] <;> rfl) | (simp [*, errW_none, errW_some] <;> rfl), hB⟩

/-! ### laws_FnExactFirstSolution: function 10 -/
def laws_FnExactFirstSolution.f (k : Nat) (a0_0 : Int) (l0_1 : List (S23)) : Option (Bool) := (laws_szPuzzle.f a0_0 l0_1 1048576).bind fun t477 => (if t477 < 0 then (some true) else ((laws_toPuzzle.f k a0_0 l0_1).bind fun bt478 => ((spec_FirstSolution.f k bt478.1 bt478.2).bind fun bt482 => ((laws_toPuzzle.f k a0_0 l0_1).bind fun bt488 => ((impl_FirstSolution.f k bt488.1 bt488.2).bind fun bt493 => ((laws_eqParty.f k bt493.1 bt493.2.1 bt482.1 bt482.2.1).bind fun t499 => (if t499 = true then (if (bt493.2.2 != bt482.2.2) = true then (none) else ((laws_toPuzzle.f k a0_0 l0_1).bind fun bt500 => ((laws_eqPuzzle.f k bt488.1 bt488.2 bt500.1 bt500.2).bind fun t504 => (if t504 = true then ((laws_markPuzzle.f k bt488.1 bt488.2 1).bind fun bt505 => (if bt505.1 < 0 then (none) else ((laws_eqParty.f k bt493.1 bt493.2.1 bt482.1 bt482.2.1).bind fun t507 => (if t507 = true then ((laws_markParty.f k bt493.1 bt493.2.1 1).bind fun bt508 => ((laws_heldParty.f k bt493.1 bt508.2 1).bind fun t510 => (if t510 < 0 then (none) else (if t510 = bt508.1 then ((laws_toPuzzle.f k a0_0 l0_1).bind fun bt511 => ((impl_FirstSolution.f k bt511.1 bt511.2).bind fun bt515 => ((laws_eqParty.f k bt515.1 bt515.2.1 bt482.1 bt482.2.1).bind fun t521 => (if t521 = true then (if (bt515.2.2 != bt482.2.2) = true then (none) else ((laws_heldParty.f k bt493.1 bt508.2 1).bind fun t522 => (if t522 < 0 then (none) else (if t522 = bt508.1 then (some true) else (none))))) else (none))))) else (none))))) else (none))))) else (none))))) else (none))))))))
theorem laws_FnExactFirstSolution.mono : ∀ a0 a1 k, LeO (laws_FnExactFirstSolution.f k a0 a1) (laws_FnExactFirstSolution.f (k + 1) a0 a1) := by
 intro a0 a1 k
 unfold laws_FnExactFirstSolution.f
 repeat' first
   | (with_reducible exact impl_FirstSolution.mono _ _ _)
   | (with_reducible exact laws_eqParty.mono _ _ _ _ _)
   | (with_reducible exact laws_eqPuzzle.mono _ _ _ _ _)
   | (with_reducible exact laws_heldParty.mono _ _ _ _)
   | (with_reducible exact laws_markParty.mono _ _ _ _)
   | (with_reducible exact laws_markPuzzle.mono _ _ _ _)
   | (with_reducible exact laws_toPuzzle.mono _ _ _)
   | (with_reducible exact spec_FirstSolution.mono _ _ _)
   | (with_reducible exact LeO.refl _)
   | (with_reducible exact LeO.none _)
   | (with_reducible refine LeO.ite ?_ ?_)
   | (with_reducible refine LeO.bind ?_ (fun _ => ?_))
   | exact impl_FirstSolution.mono _ _ _
   | exact laws_eqParty.mono _ _ _ _ _
   | exact laws_eqPuzzle.mono _ _ _ _ _
   | exact laws_heldParty.mono _ _ _ _
   | exact laws_markParty.mono _ _ _ _
   | exact laws_markPuzzle.mono _ _ _ _
   | exact laws_toPuzzle.mono _ _ _
   | exact spec_FirstSolution.mono _ _ _
   | exact LeO.none _
   | refine LeO.ite ?_ ?_
   | refine LeO.bind ?_ (fun _ => ?_)
set_option maxHeartbeats 8000000 in
set_option maxRecDepth 100000 in
theorem laws_FnExactFirstSolution.calls (k : Nat) (a0_0 : Int) (A0_1 : Option Addr) (c0_1 : Nat) (l0_1 : List (S23)) (r : Bool) (w : World) (hr0_1 : Kd.C k23 w A0_1 l0_1.length l0_1) (hc0_1 : l0_1.length ≤ c0_1) (h : laws_FnExactFirstSolution.f k a0_0 l0_1 = some r) (hG : GTab 0 w := by first | exact Aside0.out ‹Aside0 (GTab _ _)› | exact GTab.up (Aside0.out ‹Aside0 (GTab _ _)›) (by repeat (first | (with_reducible first | exact Below.refl _ _ | exact Aside0.out ‹Aside0 (Below _ _ _)› | apply below_alloc | apply pw_below_drewN | apply below_drew1 | refine below_set ?_ (Aside0.out (by assumption))) | exact Aside0.out ‹Aside0 (Below _ _ _)›))) :
  Calls Tryd.prog 10 #[.agg #[.int .i64 a0_0, .slice A0_1 l0_1.length c0_1]] w fun e w' => e = .returned (.bool r) ∧ Below w.heap.size w w' := by
 have hu49 := Tryd.underlying49
 have hu34 := Tryd.underlying34
 have hu40 := Tryd.underlying40
 have HG := Aside0.mk (p := GTab _ _) hG
 clear hG
 have HR0_1 := Aside0.mk hr0_1
 have HC0_1 := Aside0.mk hc0_1
 clear hr0_1 hc0_1
 have HB := Aside0.mk (Below.refl w.heap.size w)
 have H : ((laws_szPuzzle.f a0_0 l0_1 1048576).bind fun t477 => (if t477 < 0 then (some true) else ((laws_toPuzzle.f k a0_0 l0_1).bind fun bt478 => ((spec_FirstSolution.f k bt478.1 bt478.2).bind fun bt482 => ((laws_toPuzzle.f k a0_0 l0_1).bind fun bt488 => ((impl_FirstSolution.f k bt488.1 bt488.2).bind fun bt493 => ((laws_eqParty.f k bt493.1 bt493.2.1 bt482.1 bt482.2.1).bind fun t499 => (if t499 = true then (if (bt493.2.2 != bt482.2.2) = true then (none) else ((laws_toPuzzle.f k a0_0 l0_1).bind fun bt500 => ((laws_eqPuzzle.f k bt488.1 bt488.2 bt500.1 bt500.2).bind fun t504 => (if t504 = true then ((laws_markPuzzle.f k bt488.1 bt488.2 1).bind fun bt505 => (if bt505.1 < 0 then (none) else ((laws_eqParty.f k bt493.1 bt493.2.1 bt482.1 bt482.2.1).bind fun t507 => (if t507 = true then ((laws_markParty.f k bt493.1 bt493.2.1 1).bind fun bt508 => ((laws_heldParty.f k bt493.1 bt508.2 1).bind fun t510 => (if t510 < 0 then (none) else (if t510 = bt508.1 then ((laws_toPuzzle.f k a0_0 l0_1).bind fun bt511 => ((impl_FirstSolution.f k bt511.1 bt511.2).bind fun bt515 => ((laws_eqParty.f k bt515.1 bt515.2.1 bt482.1 bt482.2.1).bind fun t521 => (if t521 = true then (if (bt515.2.2 != bt482.2.2) = true then (none) else ((laws_heldParty.f k bt493.1 bt508.2 1).bind fun t522 => (if t522 < 0 then (none) else (if t522 = bt508.1 then (some true) else (none))))) else (none))))) else (none))))) else (none))))) else (none))))) else (none))))))))) = some r := h
 clear h
 replace H := Option.bind_eq_some_iff.mp H
 obtain ⟨t477, A20, H⟩ := H
 try dsimp only at H
 have A2 := Aside0.mk A20
 clear A20
 by_cases c3 : t477 < 0
 ·rw [if_pos c3] at H
  have c3b0 : decide (t477 < 0) = true := decide_eq_true c3
  clear c3
  obtain rfl := Option.some.inj H
  go_enter Tryd.func10, Tryd.ntmps10
  go_wp2_with (first | ((with_reducible refine gate_dst (N := 1) rfl ?_); refine bxE 1 #[.int .i64 a0_0, .slice A0_1 l0_1.length c0_1] 49 rfl ?_; intro gb476 hg w4 hbox hb; have BK476 := Aside0.mk (hbox); have GW476 := gS HB hg; have GE476 := gS HB hg; replace HB := hS HB hb; clear hb hbox hg; have hcz5_0 := cz BK476 0; have hcz5_1 := cz BK476 1; have hfz5_0 := fz BK476 0; have hfz5_1 := fz BK476 1) | ((with_reducible refine gate_callee (f := 26) rfl ?_); refine goC (N := some 16) Tryd.func26 #[.agg #[.int .i64 a0_0, .slice A0_1 l0_1.length c0_1], .int .i64 1048576] rfl ?_; (with_reducible refine (laws_szPuzzle.calls a0_0 _ _ l0_1 1048576 t477 _ ?side1 ?side2 A2.out).mono ?_); (case side1 => exact cS (Kd.C_below HR0_1.out HB.out)); (case side2 => exact HC0_1.out); rintro e w6 ⟨rfl, hb⟩; refine ⟨_, rfl, ?_⟩; replace BK476 := bS BK476 hb; replace HB := hS HB hb; (try clear hb); (try clear hb2); (try clear hk); (try clear hi)))
  go_ret
  exact ⟨by first | rfl | (simp [errW_none, errW_some] <;> rfl) | (simp [*, errW_none, errW_some] <;> rfl), hB⟩
 ·rw [if_neg c3] at H
  have c3b0 : decide (t477 < 0) = false := decide_eq_false c3
  clear c3
  replace H := Option.bind_eq_some_iff.mp H
  obtain ⟨⟨t478, t479⟩, A70, H⟩ := H
  try dsimp only at H
  have A7 := Aside0.mk A70
  clear A70
  replace H := Option.bind_eq_some_iff.mp H
  obtain ⟨⟨t482, t483, t486⟩, A80, H⟩ := H
  try dsimp only at H
  have A8 := Aside0.mk A80
  clear A80
  replace H := Option.bind_eq_some_iff.mp H
  obtain ⟨⟨t488, t489⟩, A90, H⟩ := H
  try dsimp only at H
  have A9 := Aside0.mk A90
  clear A90
  replace H := Option.bind_eq_some_iff.mp H
  obtain ⟨⟨t493, t494, t497⟩, A100, H⟩ := H
  try dsimp only at H
  have A10 := Aside0.mk A100
  clear A100
  replace H := Option.bind_eq_some_iff.mp H
  obtain ⟨t499, A110, H⟩ := H
  try dsimp only at H
  have A11 := Aside0.mk A110
  clear A110
  by_cases c12 : t499 = true
  ·subst c12
   rw [if_pos rfl] at H
   by_cases c13 : (t497 != t486) = true
   ·rw [if_pos c13] at H
    exact absurd H (by simp)
   ·rw [if_neg c13] at H
    have c13b0 : (t497 != t486) = false := by simpa using c13
    (try (have c13b1 : decide (t497 = t486) = true := by simpa using c13))
    (try (have c13b2 : (t497 == t486) = true := by simpa using c13))
    clear c13
    replace H := Option.bind_eq_some_iff.mp H
    obtain ⟨⟨t500, t501⟩, A140, H⟩ := H
    try dsimp only at H
    have A14 := Aside0.mk A140
    clear A140
    replace H := Option.bind_eq_some_iff.mp H
    obtain ⟨t504, A150, H⟩ := H
    try dsimp only at H
    have A15 := Aside0.mk A150
    clear A150
    by_cases c16 : t504 = true
    ·subst c16
     rw [if_pos rfl] at H
     replace H := Option.bind_eq_some_iff.mp H
     obtain ⟨⟨t505, t506⟩, A170, H⟩ := H
     try dsimp only at H
     have A17 := Aside0.mk A170
     clear A170
     by_cases c18 : t505 < 0
     ·rw [if_pos c18] at H
      exact absurd H (by simp)
     ·rw [if_neg c18] at H
      have c18b0 : decide (t505 < 0) = false := decide_eq_false c18
      clear c18
      replace H := Option.bind_eq_some_iff.mp H
      obtain ⟨t507, A190, H⟩ := H
      try dsimp only at H
      have A19 := Aside0.mk A190
      clear A190
      by_cases c20 : t507 = true
      ·subst c20
       rw [if_pos rfl] at H
       replace H := Option.bind_eq_some_iff.mp H
       obtain ⟨⟨t508, t509⟩, A210, H⟩ := H
       try dsimp only at H
       have A21 := Aside0.mk A210
       clear A210
       replace H := Option.bind_eq_some_iff.mp H
       obtain ⟨t510, A220, H⟩ := H
       try dsimp only at H
       have A22 := Aside0.mk A220
       clear A220
       by_cases c23 : t510 < 0
       ·rw [if_pos c23] at H
        exact absurd H (by simp)
       ·rw [if_neg c23] at H
        have c23b0 : decide (t510 < 0) = false := decide_eq_false c23
        clear c23
        by_cases c24 : t510 = t508
        ·rw [if_pos c24] at H
         have c24b0 : (t510 == t508) = true := beq_iff_eq.mpr c24
         have c24b1 : (t510 != t508) = false := bne_eq_false_iff_eq.mpr c24
         clear c24
         replace H := Option.bind_eq_some_iff.mp H
         obtain ⟨⟨t511, t512⟩, A250, H⟩ := H
         try dsimp only at H
         have A25 := Aside0.mk A250
         clear A250
         replace H := Option.bind_eq_some_iff.mp H
         obtain ⟨⟨t515, t516, t519⟩, A260, H⟩ := H
         try dsimp only at H
         have A26 := Aside0.mk A260
         clear A260
         replace H := Option.bind_eq_some_iff.mp H
         obtain ⟨t521, A270, H⟩ := H
         try dsimp only at H
         have A27 := Aside0.mk A270
         clear A270
         by_cases c28 : t521 = true
         ·subst c28
          rw [if_pos rfl] at H
          by_cases c29 : (t519 != t486) = true
          ·rw [if_pos c29] at H
           exact absurd H (by simp)
          ·rw [if_neg c29] at H
           have c29b0 : (t519 != t486) = false := by simpa using c29
           (try (have c29b1 : decide (t519 = t486) = true := by simpa using c29))
           (try (have c29b2 : (t519 == t486) = true := by simpa using c29))
           clear c29
           replace H := Option.bind_eq_some_iff.mp H
           obtain ⟨t522, A300, H⟩ := H
           try dsimp only at H
           have A30 := Aside0.mk A300
           clear A300
           by_cases c31 : t522 < 0
           ·rw [if_pos c31] at H
            exact absurd H (by simp)
           ·rw [if_neg c31] at H
            have c31b0 : decide (t522 < 0) = false := decide_eq_false c31
            clear c31
            by_cases c32 : t522 = t508
            ·rw [if_pos c32] at H
             have c32b0 : (t522 == t508) = true := beq_iff_eq.mpr c32
             have c32b1 : (t522 != t508) = false := bne_eq_false_iff_eq.mpr c32
             clear c32
             obtain rfl := Option.some.inj H
             go_enter Tryd.func10, Tryd.ntmps10
             try go_wp2_with (first | ((with_reducible refine gate_dst (N := 1) rfl ?_); refine bxE 1 #[.int .i64 a0_0, .slice A0_1 l0_1.length c0_1] 49 rfl ?_; intro gb476 hg w33 hbox hb; have BK476 := Aside0.mk (hbox); have GW476 := gS HB hg; have GE476 := gS HB hg; replace HB := hS HB hb; clear hb hbox hg; have hcz34_0 := cz BK476 0; have hcz34_1 := cz BK476 1; have hfz34_0 := fz BK476 0; have hfz34_1 := fz BK476 1) | ((with_reducible refine gate_callee (f := 26) rfl ?_); refine goC (N := some 16) Tryd.func26 #[.agg #[.int .i64 a0_0, .slice A0_1 l0_1.length c0_1], .int .i64 1048576] rfl ?_; (with_reducible refine (laws_szPuzzle.calls a0_0 _ _ l0_1 1048576 t477 _ ?side1 ?side2 A2.out).mono ?_); (case side1 => exact cS (Kd.C_below HR0_1.out HB.out)); (case side2 => exact HC0_1.out); rintro e w35 ⟨rfl, hb⟩; refine ⟨_, rfl, ?_⟩; replace BK476 := bS BK476 hb; replace HB := hS HB hb; (try clear hb); (try clear hb2); (try clear hk); (try clear hi); have hcz36_0 := cz BK476 0; have hcz36_1 := cz BK476 1; have hfz36_0 := fz BK476 0; have hfz36_1 := fz BK476 1) | ((with_reducible refine gate_callee (f := 28) rfl ?_); refine goC (N := some 21) Tryd.func28 #[.agg #[.int .i64 a0_0, .slice A0_1 l0_1.length c0_1]] rfl ?_; (with_reducible refine (laws_toPuzzle.calls k a0_0 _ _ l0_1 t478 t479 _ ?side1 ?side2 A7.out).mono ?_); (case side1 => exact cS (Kd.C_below HR0_1.out HB.out)); (case side2 => exact HC0_1.out); rintro e w37 ⟨v480, rfl, ho0, hb⟩; refine ⟨_, rfl, ?_⟩; have HO481 := Aside0.mk (Kd.R_lower ho0 (below_size hB)); replace BK476 := bS BK476 hb; replace HB := hS HB hb; (try clear hb); (try clear hb2); (try clear hk); (try clear hi); (try clear ho0); obtain ⟨Ao38, co38, eo38⟩ := Kd.R_slice HO481.out; subst eo38) | ((with_reducible refine gate_callee (f := 41) rfl ?_); refine goC (N := some 22) Tryd.func41 #[.agg #[.int .i64 t478, .slice Ao38 t479.length co38]] rfl ?_; (with_reducible refine (spec_FirstSolution.calls k t478 _ _ t479 t482 t483 t486 _ ?side1 ?side2 A8.out).mono ?_); (case side1 => exact cS (Kd.R_reads' HO481.out).2.2); (case side2 => exact (Kd.R_reads' HO481.out).2.1); rintro e w39 ⟨v484, rfl, ho0, hb⟩; refine ⟨_, rfl, ?_⟩; have HO485 := Aside0.mk (Kd.V_lower (Kd.V_mono (ok' := fun k_ => some k_ ≠ (.slice Ao38 t479.length co38 : Value).ownBlock ∧ k_ ≠ gb476) ho0 (fun k_ hk_ => ⟨(Kd.fresh' (Kd.R_lt (rU HO481)) k_ hk_), (Kd.freshB (g := gb476) (o := .cells #[.int .i64 a0_0, .slice A0_1 l0_1.length c0_1] 49 (0, 0)) bK k_ hk_)⟩)) (below_size hB)); replace HO481 := Aside0.mk (Kd.R_below (rU HO481) hb); replace BK476 := bS BK476 hb; replace HB := hS HB hb; (try clear hb); (try clear hb2); (try clear hk); (try clear hi); (try clear ho0)) | ((with_reducible refine gate_dst (N := 4) rfl ?_); refine bxE 4 #[.int .i64 0, .slice none 0 0] 34 rfl ?_; intro gb487 hg w40 hbox hb; have BK487 := Aside0.mk (hbox); have GW487 := gS HB hg; have GE487 := gS HB hg; have NB476_487 := nL BK476 hg; have NB487_476 := nG BK476 hg; replace HO481 := Aside0.mk (Kd.R_below (rU HO481) hb); replace HO485 := Aside0.mk (Kd.V_below (Kd.V_elderB (by (with_reducible repeat (first | apply Kd.V_alloc | apply Kd.V_drewN | apply Kd.V_drew)); exact HO485.out) gb487 (Nat.le_of_eq hg.symm)) hb); replace BK476 := bS BK476 hb; replace HB := hS HB hb; clear hb hbox hg; have hnb41 := NB487_476.out; have hnc41 := NB476_487.out; have hcz42_0 := cz BK487 0; have hcz42_1 := cz BK487 1; have hfz42_0 := fz BK487 0; have hfz42_1 := fz BK487 1; obtain ⟨Ao43, co43, eo43⟩ := Kd.V_slice HO485.out; subst eo43; have hcz44_0 := cz BK476 0; have hcz44_1 := cz BK476 1; have hfz44_0 := fz BK476 0; have hfz44_1 := fz BK476 1) | ((with_reducible refine gate_callee (f := 28) rfl ?_); refine goC (N := some 26) Tryd.func28 #[.agg #[.int .i64 a0_0, .slice A0_1 l0_1.length c0_1]] rfl ?_; (with_reducible refine (laws_toPuzzle.calls k a0_0 _ _ l0_1 t488 t489 _ ?side1 ?side2 A9.out).mono ?_); (case side1 => exact Kd.C_below HR0_1.out hB); (case side2 => exact HC0_1.out); rintro e w45 ⟨v490, rfl, ho0, hb⟩; refine ⟨_, rfl, ?_⟩; have HO491 := Aside0.mk (Kd.R_lower (Kd.R_new' ho0 (Kd.R_lt (by (with_reducible repeat (first | apply Kd.R_alloc | apply Kd.R_drewN | apply Kd.R_drew)); exact (Kd.R_mono (Kd.R_far (p := ⟨gb487, 1, none⟩) (Kd.R_far (p := ⟨gb487, 0, none⟩) (Kd.R_types HO481.out BK487.out (by decide)) (fun _ hk => hk.2) (.int .i64 t482)) (fun _ hk => hk.2) (.slice Ao43 t483.length co43)) (fun _ h_ => h_.1))))) (below_size hB)); replace HO481 := Aside0.mk (Kd.R_elder' (by (with_reducible repeat (first | apply Kd.R_alloc | apply Kd.R_drewN | apply Kd.R_drew)); exact (Kd.R_mono (Kd.R_far (p := ⟨gb487, 1, none⟩) (Kd.R_far (p := ⟨gb487, 0, none⟩) (Kd.R_types HO481.out BK487.out (by decide)) (fun _ hk => hk.2) (.int .i64 t482)) (fun _ hk => hk.2) (.slice Ao43 t483.length co43)) (fun _ h_ => h_.1))) (Kd.R_base ho0) hb); replace HO485 := Aside0.mk (Kd.V_elder' (by (with_reducible repeat (first | apply Kd.V_alloc | apply Kd.V_drewN | apply Kd.V_drew)); exact (Kd.V_mono (Kd.V_far (p := ⟨gb487, 1, none⟩) (Kd.V_far (p := ⟨gb487, 0, none⟩) (Kd.V_mono HO485.out (fun k_ hk => (⟨hk, hk.2⟩ : _ ∧ k_ ≠ gb487))) (fun _ hk => hk.2) (.int .i64 t482)) (fun _ hk => hk.2) (.slice Ao43 t483.length co43)) (fun _ h_ => h_.1))) (Kd.R_base ho0) hb); replace BK476 := Aside0.mk (blk_below (g := gb476) (o := .cells #[.int .i64 a0_0, .slice A0_1 l0_1.length c0_1] 49 (0, 0)) (by (with_reducible repeat (first | refine blk_drewN ?_ _ | refine blk_drew ?_ | refine blk_alloc ?_ _)); refine blk_far ?_ NB476_487.out _; (with_reducible repeat (first | refine blk_drewN ?_ _ | refine blk_drew ?_ | refine blk_alloc ?_ _)); refine blk_far ?_ NB476_487.out _; (with_reducible repeat (first | refine blk_drewN ?_ _ | refine blk_drew ?_ | refine blk_alloc ?_ _)); exact BK476.out) hb); replace BK487 := Aside0.mk (blk_below (g := gb487) (o := .cells #[.int .i64 t482, .slice Ao43 t483.length co43] 34 (0, 0)) (by (with_reducible repeat (first | refine blk_drewN ?_ _ | refine blk_drew ?_ | refine blk_alloc ?_ _)); refine blk_put (cs := #[.int .i64 t482, .slice none 0 0]) ?_ 1 _ rfl; (with_reducible repeat (first | refine blk_drewN ?_ _ | refine blk_drew ?_ | refine blk_alloc ?_ _)); refine blk_put (cs := #[.int .i64 0, .slice none 0 0]) ?_ 0 _ rfl; (with_reducible repeat (first | refine blk_drewN ?_ _ | refine blk_drew ?_ | refine blk_alloc ?_ _)); exact BK487.out) hb); replace HB := hS HB hb; (try clear hb); (try clear hb2); (try clear hk); (try clear hi); (try clear ho0)) | ((with_reducible refine gate_dst (N := 6) rfl ?_); refine bxE 6 #[.int .i64 0, .slice none 0 0] 40 rfl ?_; intro gb492 hg w46 hbox hb; have BK492 := Aside0.mk (hbox); have GW492 := gS HB hg; have GE492 := gS HB hg; have NB476_492 := nL BK476 hg; have NB492_476 := nG BK476 hg; have NB487_492 := nL BK487 hg; have NB492_487 := nG BK487 hg; replace HO481 := Aside0.mk (Kd.R_below (rU HO481) hb); replace HO485 := Aside0.mk (Kd.V_below (Kd.V_elderB (by (with_reducible repeat (first | apply Kd.V_alloc | apply Kd.V_drewN | apply Kd.V_drew)); exact HO485.out) gb492 (Nat.le_of_eq hg.symm)) hb); replace HO491 := Aside0.mk (Kd.R_below (rU HO491) hb); replace BK476 := bS BK476 hb; replace BK487 := bS BK487 hb; replace HB := hS HB hb; clear hb hbox hg; have hnb47 := NB492_476.out; have hnc47 := NB476_492.out; have hnb48 := NB492_487.out; have hnc48 := NB487_492.out; have hcz49_0 := cz BK492 0; have hcz49_1 := cz BK492 1; have hfz49_0 := fz BK492 0; have hfz49_1 := fz BK492 1; obtain ⟨Ao50, co50, eo50⟩ := Kd.R_slice HO491.out; subst eo50) | ((with_reducible refine gate_callee (f := 42) rfl ?_); refine goC (N := some 29) Tryd.func42 #[.agg #[.int .i64 t488, .slice Ao50 t489.length co50]] rfl ?_; (with_reducible refine (impl_FirstSolution.calls k t488 _ _ t489 t493 t494 t497 _ ?side1 ?side2 A10.out).mono ?_); (case side1 => refine (Kd.R_reads' (e := 30) (base := w.heap.size) (ok := fun k_ => (True ∧ some k_ ≠ (.slice Ao38 t479.length co38 : Value).ownBlock)) (n := t489.length) (c := co50) ?_).2.2; exact (by (with_reducible repeat (first | apply Kd.R_alloc | apply Kd.R_drewN | apply Kd.R_drew)); exact (Kd.R_mono (Kd.R_far (p := ⟨gb492, 1, none⟩) (Kd.R_far (p := ⟨gb492, 0, none⟩) (Kd.R_types HO491.out BK492.out (by decide)) (fun _ hk => hk.2) (.int .i64 t488)) (fun _ hk => hk.2) (.slice Ao50 t489.length co50)) (fun _ h_ => h_.1)))); (case side2 => exact (Kd.R_reads' HO491.out).2.1); rintro e w51 ⟨v495, rfl, ho0, hb⟩; refine ⟨_, rfl, ?_⟩; have HO496 := Aside0.mk (Kd.R_lower ho0 (below_size hB)); replace HO481 := Aside0.mk (Kd.R_below (by (with_reducible repeat (first | apply Kd.R_alloc | apply Kd.R_drewN | apply Kd.R_drew)); exact (Kd.R_mono (Kd.R_far (p := ⟨gb492, 1, none⟩) (Kd.R_far (p := ⟨gb492, 0, none⟩) (Kd.R_types HO481.out BK492.out (by decide)) (fun _ hk => hk.2) (.int .i64 t488)) (fun _ hk => hk.2) (.slice Ao50 t489.length co50)) (fun _ h_ => h_.1))) hb); replace HO485 := Aside0.mk (Kd.V_elder' (by (with_reducible repeat (first | apply Kd.V_alloc | apply Kd.V_drewN | apply Kd.V_drew)); exact (Kd.V_mono (Kd.V_far (p := ⟨gb492, 1, none⟩) (Kd.V_far (p := ⟨gb492, 0, none⟩) (Kd.V_mono HO485.out (fun k_ hk => (⟨hk, hk.2⟩ : _ ∧ k_ ≠ gb492))) (fun _ hk => hk.2) (.int .i64 t488)) (fun _ hk => hk.2) (.slice Ao50 t489.length co50)) (fun _ h_ => h_.1))) (Kd.R_base ho0) hb); replace HO491 := Aside0.mk (Kd.R_below (by (with_reducible repeat (first | apply Kd.R_alloc | apply Kd.R_drewN | apply Kd.R_drew)); exact (Kd.R_mono (Kd.R_far (p := ⟨gb492, 1, none⟩) (Kd.R_far (p := ⟨gb492, 0, none⟩) (Kd.R_types HO491.out BK492.out (by decide)) (fun _ hk => hk.2) (.int .i64 t488)) (fun _ hk => hk.2) (.slice Ao50 t489.length co50)) (fun _ h_ => h_.1))) hb); replace BK476 := Aside0.mk (blk_below (g := gb476) (o := .cells #[.int .i64 a0_0, .slice A0_1 l0_1.length c0_1] 49 (0, 0)) (by (with_reducible repeat (first | refine blk_drewN ?_ _ | refine blk_drew ?_ | refine blk_alloc ?_ _)); refine blk_far ?_ NB476_492.out _; (with_reducible repeat (first | refine blk_drewN ?_ _ | refine blk_drew ?_ | refine blk_alloc ?_ _)); refine blk_far ?_ NB476_492.out _; (with_reducible repeat (first | refine blk_drewN ?_ _ | refine blk_drew ?_ | refine blk_alloc ?_ _)); exact BK476.out) hb); replace BK487 := Aside0.mk (blk_below (g := gb487) (o := .cells #[.int .i64 t482, .slice Ao43 t483.length co43] 34 (0, 0)) (by (with_reducible repeat (first | refine blk_drewN ?_ _ | refine blk_drew ?_ | refine blk_alloc ?_ _)); refine blk_far ?_ NB487_492.out _; (with_reducible repeat (first | refine blk_drewN ?_ _ | refine blk_drew ?_ | refine blk_alloc ?_ _)); refine blk_far ?_ NB487_492.out _; (with_reducible repeat (first | refine blk_drewN ?_ _ | refine blk_drew ?_ | refine blk_alloc ?_ _)); exact BK487.out) hb); replace BK492 := Aside0.mk (blk_below (g := gb492) (o := .cells #[.int .i64 t488, .slice Ao50 t489.length co50] 40 (0, 0)) (by (with_reducible repeat (first | refine blk_drewN ?_ _ | refine blk_drew ?_ | refine blk_alloc ?_ _)); refine blk_put (cs := #[.int .i64 t488, .slice none 0 0]) ?_ 1 _ rfl; (with_reducible repeat (first | refine blk_drewN ?_ _ | refine blk_drew ?_ | refine blk_alloc ?_ _)); refine blk_put (cs := #[.int .i64 0, .slice none 0 0]) ?_ 0 _ rfl; (with_reducible repeat (first | refine blk_drewN ?_ _ | refine blk_drew ?_ | refine blk_alloc ?_ _)); exact BK492.out) hb); replace HB := hS HB hb; (try clear hb); (try clear hb2); (try clear hk); (try clear hi); (try clear ho0)) | ((with_reducible refine gate_dst (N := 7) rfl ?_); refine bxE 7 #[.int .i64 0, .slice none 0 0] 34 rfl ?_; intro gb498 hg w52 hbox hb; have BK498 := Aside0.mk (hbox); have GW498 := gS HB hg; have GE498 := gS HB hg; have NB476_498 := nL BK476 hg; have NB498_476 := nG BK476 hg; have NB487_498 := nL BK487 hg; have NB498_487 := nG BK487 hg; have NB492_498 := nL BK492 hg; have NB498_492 := nG BK492 hg; replace HO481 := Aside0.mk (Kd.R_below (rU HO481) hb); replace HO485 := Aside0.mk (Kd.V_below (Kd.V_elderB (by (with_reducible repeat (first | apply Kd.V_alloc | apply Kd.V_drewN | apply Kd.V_drew)); exact HO485.out) gb498 (Nat.le_of_eq hg.symm)) hb); replace HO491 := Aside0.mk (Kd.R_below (rU HO491) hb); replace HO496 := Aside0.mk (Kd.R_below (rU HO496) hb); replace BK476 := bS BK476 hb; replace BK487 := bS BK487 hb; replace BK492 := bS BK492 hb; replace HB := hS HB hb; clear hb hbox hg; have hnb53 := NB498_476.out; have hnc53 := NB476_498.out; have hnb54 := NB498_487.out; have hnc54 := NB487_498.out; have hnb55 := NB498_492.out; have hnc55 := NB492_498.out; have hcz56_0 := cz BK498 0; have hcz56_1 := cz BK498 1; have hfz56_0 := fz BK498 0; have hfz56_1 := fz BK498 1; obtain ⟨Ao57, co57, eo57⟩ := Kd.R_slice HO496.out; subst eo57; have hcz58_0 := cz BK487 0; have hcz58_1 := cz BK487 1; have hfz58_0 := fz BK487 0; have hfz58_1 := fz BK487 1) | ((with_reducible refine gate_callee (f := 19) rfl ?_); refine goC (N := some 34) Tryd.func19 #[.agg #[.int .i64 t493, .slice Ao57 t494.length co57], .agg #[.int .i64 t482, .slice Ao43 t483.length co43]] rfl ?_; (with_reducible refine (laws_eqParty.calls k t493 _ _ t494 t482 _ _ t483 true _ ?side1 ?side2 ?side3 ?side4 A11.out).mono ?_); (case side1 => refine (Kd.R_reads' (e := 110) (base := w.heap.size) (ok := fun k_ => True) (n := t494.length) (c := co57) ?_).2.2; exact (by (with_reducible repeat (first | apply Kd.R_alloc | apply Kd.R_drewN | apply Kd.R_drew)); exact (Kd.R_mono (Kd.R_far (p := ⟨gb498, 1, none⟩) (Kd.R_far (p := ⟨gb498, 0, none⟩) (Kd.R_types HO496.out BK498.out (by decide)) (fun _ hk => hk.2) (.int .i64 t493)) (fun _ hk => hk.2) (.slice Ao57 t494.length co57)) (fun _ h_ => h_.1)))); (case side2 => exact (Kd.R_reads' HO496.out).2.1); (case side3 => refine (Kd.V_reads' (e := 110) (base := w.heap.size) (ok := fun k_ => ((((((some k_ ≠ (.slice Ao38 t479.length co38 : Value).ownBlock ∧ k_ ≠ gb476) ∧ k_ ≠ gb487) ∧ some k_ ≠ (.slice Ao50 t489.length co50 : Value).ownBlock) ∧ k_ ≠ gb492) ∧ some k_ ≠ (.slice Ao57 t494.length co57 : Value).ownBlock) ∧ k_ ≠ gb498)) (n := t483.length) (c := co43) ?_).2.2; exact (by (with_reducible repeat (first | apply Kd.V_alloc | apply Kd.V_drewN | apply Kd.V_drew)); exact (Kd.V_mono (Kd.V_far (p := ⟨gb498, 1, none⟩) (Kd.V_far (p := ⟨gb498, 0, none⟩) (Kd.V_mono HO485.out (fun k_ hk => (⟨hk, hk.2⟩ : _ ∧ k_ ≠ gb498))) (fun _ hk => hk.2) (.int .i64 t493)) (fun _ hk => hk.2) (.slice Ao57 t494.length co57)) (fun _ h_ => h_.1)))); (case side4 => exact (Kd.V_reads' HO485.out).2.1); rintro e w59 ⟨rfl, hb⟩; refine ⟨_, rfl, ?_⟩; replace HO481 := Aside0.mk (Kd.R_below (by (with_reducible repeat (first | apply Kd.R_alloc | apply Kd.R_drewN | apply Kd.R_drew)); exact (Kd.R_mono (Kd.R_far (p := ⟨gb498, 1, none⟩) (Kd.R_far (p := ⟨gb498, 0, none⟩) (Kd.R_types HO481.out BK498.out (by decide)) (fun _ hk => hk.2) (.int .i64 t493)) (fun _ hk => hk.2) (.slice Ao57 t494.length co57)) (fun _ h_ => h_.1))) hb); replace HO485 := Aside0.mk (Kd.V_below (by (with_reducible repeat (first | apply Kd.V_alloc | apply Kd.V_drewN | apply Kd.V_drew)); exact (Kd.V_mono (Kd.V_far (p := ⟨gb498, 1, none⟩) (Kd.V_far (p := ⟨gb498, 0, none⟩) (Kd.V_mono HO485.out (fun k_ hk => (⟨hk, hk.2⟩ : _ ∧ k_ ≠ gb498))) (fun _ hk => hk.2) (.int .i64 t493)) (fun _ hk => hk.2) (.slice Ao57 t494.length co57)) (fun _ h_ => h_.1))) hb); replace HO491 := Aside0.mk (Kd.R_below (by (with_reducible repeat (first | apply Kd.R_alloc | apply Kd.R_drewN | apply Kd.R_drew)); exact (Kd.R_mono (Kd.R_far (p := ⟨gb498, 1, none⟩) (Kd.R_far (p := ⟨gb498, 0, none⟩) (Kd.R_types HO491.out BK498.out (by decide)) (fun _ hk => hk.2) (.int .i64 t493)) (fun _ hk => hk.2) (.slice Ao57 t494.length co57)) (fun _ h_ => h_.1))) hb); replace HO496 := Aside0.mk (Kd.R_below (by (with_reducible repeat (first | apply Kd.R_alloc | apply Kd.R_drewN | apply Kd.R_drew)); exact (Kd.R_mono (Kd.R_far (p := ⟨gb498, 1, none⟩) (Kd.R_far (p := ⟨gb498, 0, none⟩) (Kd.R_types HO496.out BK498.out (by decide)) (fun _ hk => hk.2) (.int .i64 t493)) (fun _ hk => hk.2) (.slice Ao57 t494.length co57)) (fun _ h_ => h_.1))) hb); replace BK476 := Aside0.mk (blk_below (g := gb476) (o := .cells #[.int .i64 a0_0, .slice A0_1 l0_1.length c0_1] 49 (0, 0)) (by (with_reducible repeat (first | refine blk_drewN ?_ _ | refine blk_drew ?_ | refine blk_alloc ?_ _)); refine blk_far ?_ NB476_498.out _; (with_reducible repeat (first | refine blk_drewN ?_ _ | refine blk_drew ?_ | refine blk_alloc ?_ _)); refine blk_far ?_ NB476_498.out _; (with_reducible repeat (first | refine blk_drewN ?_ _ | refine blk_drew ?_ | refine blk_alloc ?_ _)); exact BK476.out) hb); replace BK487 := Aside0.mk (blk_below (g := gb487) (o := .cells #[.int .i64 t482, .slice Ao43 t483.length co43] 34 (0, 0)) (by (with_reducible repeat (first | refine blk_drewN ?_ _ | refine blk_drew ?_ | refine blk_alloc ?_ _)); refine blk_far ?_ NB487_498.out _; (with_reducible repeat (first | refine blk_drewN ?_ _ | refine blk_drew ?_ | refine blk_alloc ?_ _)); refine blk_far ?_ NB487_498.out _; (with_reducible repeat (first | refine blk_drewN ?_ _ | refine blk_drew ?_ | refine blk_alloc ?_ _)); exact BK487.out) hb); replace BK492 := Aside0.mk (blk_below (g := gb492) (o := .cells #[.int .i64 t488, .slice Ao50 t489.length co50] 40 (0, 0)) (by (with_reducible repeat (first | refine blk_drewN ?_ _ | refine blk_drew ?_ | refine blk_alloc ?_ _)); refine blk_far ?_ NB492_498.out _; (with_reducible repeat (first | refine blk_drewN ?_ _ | refine blk_drew ?_ | refine blk_alloc ?_ _)); refine blk_far ?_ NB492_498.out _; (with_reducible repeat (first | refine blk_drewN ?_ _ | refine blk_drew ?_ | refine blk_alloc ?_ _)); exact BK492.out) hb); replace BK498 := Aside0.mk (blk_below (g := gb498) (o := .cells #[.int .i64 t493, .slice Ao57 t494.length co57] 34 (0, 0)) (by (with_reducible repeat (first | refine blk_drewN ?_ _ | refine blk_drew ?_ | refine blk_alloc ?_ _)); refine blk_put (cs := #[.int .i64 t493, .slice none 0 0]) ?_ 1 _ rfl; (with_reducible repeat (first | refine blk_drewN ?_ _ | refine blk_drew ?_ | refine blk_alloc ?_ _)); refine blk_put (cs := #[.int .i64 0, .slice none 0 0]) ?_ 0 _ rfl; (with_reducible repeat (first | refine blk_drewN ?_ _ | refine blk_drew ?_ | refine blk_alloc ?_ _)); exact BK498.out) hb); replace HB := hS HB hb; (try clear hb); (try clear hb2); (try clear hk); (try clear hi)))
             replace HO481 := Aside0.mk (Kd.R_drew HO481.out)
             replace HO485 := Aside0.mk (Kd.V_drew HO485.out)
             replace HO491 := Aside0.mk (Kd.R_drew HO491.out)
             replace HO496 := Aside0.mk (Kd.R_drew HO496.out)
             replace BK476 := Aside0.mk (blk_drew BK476.out)
             replace BK487 := Aside0.mk (blk_drew BK487.out)
             replace BK492 := Aside0.mk (blk_drew BK492.out)
             replace BK498 := Aside0.mk (blk_drew BK498.out)
             replace HB := Aside0.mk (below_drew1 HB.out)
             refine start_ (n := 5) (S := fun w' => w'.cell? ⟨gb492, 0, none⟩ = some (.int .i64 t488) ∧ w'.cell? ⟨gb492, 1, none⟩ = some (.slice Ao50 t489.length co50) ∧ w'.cell? ⟨gb476, 0, none⟩ = some (.int .i64 a0_0) ∧ w'.cell? ⟨gb476, 1, none⟩ = some (.slice A0_1 l0_1.length c0_1)) (ds := []) (bz 5 0) (by kernel_rfl) rfl rfl ⟨(blk_cell BK492.out 0).trans rfl, (blk_cell BK492.out 1).trans rfl, (blk_cell BK476.out 0).trans rfl, (blk_cell BK476.out 1).trans rfl⟩ (fun hHeld => ?_)
             generalize w59.drew = w60 at HO481 HO485 HO491 HO496 BK476 BK487 BK492 BK498 HB hHeld ⊢
             refine run_ [(1, 0, 1, some 41), (1, 1, 3, some 42)] ?_
             repeat ((apply tag1; refine run_t (v := ?_) (a' := ?_) rfl rfl (by kernel_rfl) (fun _ _ _ h => h) (by rfl) ?_ hHeld ?_ ?_; rotate_left 2; (rintro w' ⟨s0, s1, s2, s3⟩; go_simp; with_reducible rfl); (first | (simp only [Act.put, List.setIfInBounds_toArray, List.set_cons_zero, List.set_cons_succ, i64_w, i32_w]; rfl) | rfl)))
             refine run_nil ?_
             refine one_ (i := 2) (N := some 43) (bz 5 7) rfl rfl (by kernel_rfl) (by decide) (fun K hK => ?_)
             refine goes_ Tryd.func28 (by kernel_rfl) rfl #[.agg #[.int .i64 a0_0, .slice A0_1 l0_1.length c0_1]] (by rfl) rfl rfl mapT ?_
             with_reducible refine (laws_toPuzzle.calls k a0_0 _ _ l0_1 t500 t501 _ ?side1 ?side2 A14.out).mono ?_
             (case side1 => exact cS (Kd.C_below HR0_1.out HB.out))
             (case side2 => exact HC0_1.out)
             rintro e w61 ⟨v502, rfl, ho0, hb⟩
             refine ⟨_, rfl, ?_⟩
             have HO503 := Aside0.mk (Kd.R_lower (Kd.R_new' (Kd.R_new' ho0 (Kd.R_lt (rU HO481))) (Kd.R_lt (rU HO491))) (below_size hB))
             replace HO481 := Aside0.mk (Kd.R_elder' (rU HO481) (Kd.R_base ho0) hb)
             replace HO485 := Aside0.mk (Kd.V_elder' (by (with_reducible repeat (first | apply Kd.V_alloc | apply Kd.V_drewN | apply Kd.V_drew)); exact HO485.out) (Kd.R_base ho0) hb)
             replace HO491 := Aside0.mk (Kd.R_elder' (rU HO491) (Kd.R_base ho0) hb)
             replace HO496 := Aside0.mk (Kd.R_below (rU HO496) hb)
             replace BK476 := bS BK476 hb
             replace BK487 := bS BK487 hb
             replace BK492 := bS BK492 hb
             replace BK498 := bS BK498 hb
             replace HB := hS HB hb
             (try clear hb)
             (try clear hb2)
             (try clear hk)
             (try clear hi)
             (try clear ho0)
             obtain ⟨Ao62, co62, eo62⟩ := Kd.R_slice HO503.out
             (first | subst eo62 | (injection eo62 with f1_ f2_ f3_; have f4_ := f1_.symm; have f5_ := f3_.symm; clear f1_ f2_ f3_; subst f4_; subst f5_))
             refine hK.out _ _ ⟨(blk_cell BK492.out 0).trans rfl, (blk_cell BK492.out 1).trans rfl, (blk_cell BK476.out 0).trans rfl, (blk_cell BK476.out 1).trans rfl⟩ (fun hHeld => ?_)
             clear hK K
             refine norm_ (a' := ?_) ?_ ?_
             rotate_left
             ·show Act.put _ (some 43) _ = _
              simp only [Act.put, List.setIfInBounds_toArray, List.set_cons_zero, List.set_cons_succ, i64_w, i32_w]
              rfl
             refine one_ (i := 3) (N := some 44) (bz 5 15) rfl rfl (by kernel_rfl) (by decide) (fun K hK => ?_)
             refine goes_ Tryd.func22 (by kernel_rfl) rfl #[.agg #[.int .i64 t488, .slice Ao50 t489.length co50], .agg #[.int .i64 t500, .slice Ao62 t501.length co62]] (by rfl) rfl rfl mapT ?_
             with_reducible refine (laws_eqPuzzle.calls k t488 _ _ t489 t500 _ _ t501 true _ ?side1 ?side2 ?side3 ?side4 A15.out).mono ?_
             (case side1 => exact cS (Kd.R_reads' HO491.out).2.2)
             (case side2 => exact (Kd.R_reads' HO491.out).2.1)
             (case side3 => exact cS (Kd.R_reads' HO503.out).2.2)
             (case side4 => exact (Kd.R_reads' HO503.out).2.1)
             rintro e w63 ⟨rfl, hb⟩
             refine ⟨_, rfl, ?_⟩
             replace HO481 := Aside0.mk (Kd.R_below (rU HO481) hb)
             replace HO485 := Aside0.mk (Kd.V_below (by (with_reducible repeat (first | apply Kd.V_alloc | apply Kd.V_drewN | apply Kd.V_drew)); exact HO485.out) hb)
             replace HO491 := Aside0.mk (Kd.R_below (rU HO491) hb)
             replace HO496 := Aside0.mk (Kd.R_below (rU HO496) hb)
             replace HO503 := Aside0.mk (Kd.R_below (rU HO503) hb)
             replace BK476 := bS BK476 hb
             replace BK487 := bS BK487 hb
             replace BK492 := bS BK492 hb
             replace BK498 := bS BK498 hb
             replace HB := hS HB hb
             (try clear hb)
             (try clear hb2)
             (try clear hk)
             (try clear hi)
             refine hK.out _ _ ⟨(blk_cell BK492.out 0).trans rfl, (blk_cell BK492.out 1).trans rfl, (blk_cell BK476.out 0).trans rfl, (blk_cell BK476.out 1).trans rfl⟩ (fun hHeld => ?_)
             clear hK K
             refine norm_ (a' := ?_) ?_ ?_
             rotate_left
             ·show Act.put _ (some 44) _ = _
              simp only [Act.put, List.setIfInBounds_toArray, List.set_cons_zero, List.set_cons_succ, i64_w, i32_w]
              rfl
             refine run_ [(0, 4, 31, some 45)] ?_
             repeat ((apply tag0; refine run_p (v := ?_) (a' := ?_) rfl rfl (by kernel_rfl) (fun _ _ _ h => h) (by rfl) ?_ ?_ ?_; rotate_left 2; (intro w'; go_simp; with_reducible rfl); (first | (simp only [Act.put, List.setIfInBounds_toArray, List.set_cons_zero, List.set_cons_succ, i64_w, i32_w]; rfl) | rfl)))
             refine run_nil ?_
             refine done_ (by kernel_rfl) ?_
             have hcz64_0 := cz BK492 0
             have hcz64_1 := cz BK492 1
             have hfz64_0 := fz BK492 0
             have hfz64_1 := fz BK492 1
             try go_wp2_with (first | ((with_reducible refine gate_callee (f := 24) rfl ?_); refine goC (N := some 48) Tryd.func24 #[.agg #[.int .i64 t488, .slice Ao50 t489.length co50], .int .i64 1] rfl ?_; (with_reducible refine (laws_markPuzzle.calls k t488 (fun k_ => some k_ = (.slice Ao50 t489.length co50 : Value).ownBlock) (.slice Ao50 t489.length co50) t489 1 t505 t506 w _ ?side1 ?side2 A17.out).mono ?_); (case side1 => repeat (first | (with_reducible first | exact HB.out | apply below_alloc | apply pw_below_drewN | apply below_drew1 | refine below_set ?_ GE476.out | refine below_set ?_ GE487.out | refine below_set ?_ GE492.out | refine below_set ?_ GE498.out) | exact HB.out)); (case side2 => exact Kd.R_tight rfl (rU HO491)); rintro e w65 ⟨rfl, hy0, hb, hkp⟩; refine ⟨_, rfl, ?_⟩; have n0_ := Aside0.mk (blk_kept bK hkp (fun hs_ => (fun e_ => (Kd.R_ne HO491.out BK476.out (by decide)) e_) hs_)); have n1_ := Aside0.mk (Kd.R_mono (ok' := fun k_ => some k_ ≠ (.slice Ao50 t489.length co50 : Value).ownBlock ∧ some k_ ≠ (.slice Ao62 t501.length co62 : Value).ownBlock) (Kd.R_keptB (rU HO481) hkp (fun k_ hk_ hs_ => pjn hk_ hs_)) (fun k_ hk_ => pj hk_)); have n2_ := Aside0.mk (Kd.V_mono (ok' := fun k_ => some k_ ≠ (.slice Ao38 t479.length co38 : Value).ownBlock ∧ some k_ ≠ (.slice Ao50 t489.length co50 : Value).ownBlock ∧ some k_ ≠ (.slice Ao57 t494.length co57 : Value).ownBlock ∧ some k_ ≠ (.slice Ao62 t501.length co62 : Value).ownBlock ∧ k_ ≠ gb476 ∧ k_ ≠ gb487 ∧ k_ ≠ gb492 ∧ k_ ≠ gb498) (Kd.V_keptB (HO485.out) hkp (fun k_ hk_ hs_ => by simp only [hk_] at hs_)) (fun k_ hk_ => by simp only [hk_, ne_eq, not_false_eq_true, and_self])); have n3_ := Aside0.mk (blk_kept bK hkp (fun hs_ => (fun e_ => (Kd.R_ne HO491.out BK487.out (by decide)) e_) hs_)); have n4_ := Aside0.mk (Kd.R_reok rfl hy0 (fun k_ e_ => HO491.out.1 k_ e_)); have n5_ := Aside0.mk (blk_kept bK hkp (fun hs_ => (fun e_ => (Kd.R_ne HO491.out BK492.out (by decide)) e_) hs_)); have n6_ := Aside0.mk (Kd.R_mono (ok' := fun k_ => True) (Kd.R_keptB ((Kd.R_apart' (rU HO496) (Kd.R_typed (rU HO491)) (by decide))) hkp (fun k_ hk_ hs_ => pjn hk_ hs_)) (fun k_ hk_ => trivial)); have n7_ := Aside0.mk (blk_kept bK hkp (fun hs_ => (fun e_ => (Kd.R_ne HO491.out BK498.out (by decide)) e_) hs_)); have n8_ := Aside0.mk (Kd.R_mono (ok' := fun k_ => some k_ ≠ (.slice Ao38 t479.length co38 : Value).ownBlock ∧ some k_ ≠ (.slice Ao50 t489.length co50 : Value).ownBlock) (Kd.R_keptB (rU HO503) hkp (fun k_ hk_ hs_ => pjn hk_ hs_)) (fun k_ hk_ => pj hk_)); have n9_ := Aside0.mk (hb); clear BK476; clear HO481; clear HO485; clear BK487; clear HO491; clear BK492; clear HO496; clear BK498; clear HO503; clear HB; have BK476 := n0_; have HO481 := n1_; have HO485 := n2_; have BK487 := n3_; have HO491 := n4_; have BK492 := n5_; have HO496 := n6_; have BK498 := n7_; have HO503 := n8_; have HB := n9_; clear n0_ n1_ n2_ n3_ n4_ n5_ n6_ n7_ n8_ n9_; (try clear hb); (try clear hkp); (try clear hy0); have hcz66_0 := cz BK498 0; have hcz66_1 := cz BK498 1; have hfz66_0 := fz BK498 0; have hfz66_1 := fz BK498 1; have hcz67_0 := cz BK487 0; have hcz67_1 := cz BK487 1; have hfz67_0 := fz BK487 0; have hfz67_1 := fz BK487 1) | (go_at_call 19; (with_reducible refine (laws_eqParty.calls k t493 _ _ t494 t482 _ _ t483 true _ ?side1 ?side2 ?side3 ?side4 A19.out).mono ?_); (case side1 => exact cS (Kd.R_reads' HO496.out).2.2); (case side2 => exact (Kd.R_reads' HO496.out).2.1); (case side3 => exact cS (Kd.V_reads' HO485.out).2.2); (case side4 => exact (Kd.V_reads' HO485.out).2.1); rintro e w68 ⟨rfl, hb⟩; replace HO481 := Aside0.mk (Kd.R_below (rU HO481) hb); replace HO485 := Aside0.mk (Kd.V_below (by (with_reducible repeat (first | apply Kd.V_alloc | apply Kd.V_drewN | apply Kd.V_drew)); exact HO485.out) hb); replace HO491 := Aside0.mk (Kd.R_below (rU HO491) hb); replace HO496 := Aside0.mk (Kd.R_below (rU HO496) hb); replace HO503 := Aside0.mk (Kd.R_below (rU HO503) hb); replace BK476 := bS BK476 hb; replace BK487 := bS BK487 hb; replace BK492 := bS BK492 hb; replace BK498 := bS BK498 hb; replace HB := hS HB hb; (try clear hb); (try clear hb2); (try clear hk); (try clear hi); have hcz69_0 := cz BK498 0; have hcz69_1 := cz BK498 1; have hfz69_0 := fz BK498 0; have hfz69_1 := fz BK498 1) | ((with_reducible refine gate_callee (f := 23) rfl ?_); refine goC (N := some 64) Tryd.func23 #[.agg #[.int .i64 t493, .slice Ao57 t494.length co57], .int .i64 1] rfl ?_; (with_reducible refine (laws_markParty.calls k t493 (fun k_ => some k_ = (.slice Ao57 t494.length co57 : Value).ownBlock) (.slice Ao57 t494.length co57) t494 1 t508 t509 w _ ?side1 ?side2 A21.out).mono ?_); (case side1 => repeat (first | (with_reducible first | exact HB.out | apply below_alloc | apply pw_below_drewN | apply below_drew1 | refine below_set ?_ GE476.out | refine below_set ?_ GE487.out | refine below_set ?_ GE492.out | refine below_set ?_ GE498.out) | exact HB.out)); (case side2 => exact Kd.R_tight rfl (rU HO496)); rintro e w70 ⟨rfl, hy0, hb, hkp⟩; refine ⟨_, rfl, ?_⟩; have n0_ := Aside0.mk (blk_kept bK hkp (fun hs_ => (fun e_ => (Kd.R_ne HO496.out BK476.out (by decide)) e_) hs_)); have n1_ := Aside0.mk (Kd.R_mono (ok' := fun k_ => some k_ ≠ (.slice Ao50 t489.length co50 : Value).ownBlock ∧ some k_ ≠ (.slice Ao62 t501.length co62 : Value).ownBlock) (Kd.R_keptB ((Kd.R_apart' (rU HO481) (Kd.R_typed (rU HO496)) (by decide))) hkp (fun k_ hk_ hs_ => pjn hk_ hs_)) (fun k_ hk_ => pj hk_)); have n2_ := Aside0.mk (Kd.V_mono (ok' := fun k_ => some k_ ≠ (.slice Ao38 t479.length co38 : Value).ownBlock ∧ some k_ ≠ (.slice Ao50 t489.length co50 : Value).ownBlock ∧ some k_ ≠ (.slice Ao57 t494.length co57 : Value).ownBlock ∧ some k_ ≠ (.slice Ao62 t501.length co62 : Value).ownBlock ∧ k_ ≠ gb476 ∧ k_ ≠ gb487 ∧ k_ ≠ gb492 ∧ k_ ≠ gb498) (Kd.V_keptB (HO485.out) hkp (fun k_ hk_ hs_ => by simp only [hk_] at hs_)) (fun k_ hk_ => by simp only [hk_, ne_eq, not_false_eq_true, and_self])); have n3_ := Aside0.mk (blk_kept bK hkp (fun hs_ => (fun e_ => (Kd.R_ne HO496.out BK487.out (by decide)) e_) hs_)); have n4_ := Aside0.mk (Kd.R_mono (ok' := fun k_ => some k_ ≠ (.slice Ao38 t479.length co38 : Value).ownBlock ∧ some k_ ≠ (.slice Ao62 t501.length co62 : Value).ownBlock) (Kd.R_keptB ((Kd.R_apart' (rU HO491) (Kd.R_typed (rU HO496)) (by decide))) hkp (fun k_ hk_ hs_ => pjn hk_ hs_)) (fun k_ hk_ => pj hk_)); have n5_ := Aside0.mk (blk_kept bK hkp (fun hs_ => (fun e_ => (Kd.R_ne HO496.out BK492.out (by decide)) e_) hs_)); have n6_ := Aside0.mk (Kd.R_reok rfl hy0 (fun k_ e_ => HO496.out.1 k_ e_)); have n7_ := Aside0.mk (blk_kept bK hkp (fun hs_ => (fun e_ => (Kd.R_ne HO496.out BK498.out (by decide)) e_) hs_)); have n8_ := Aside0.mk (Kd.R_mono (ok' := fun k_ => some k_ ≠ (.slice Ao38 t479.length co38 : Value).ownBlock ∧ some k_ ≠ (.slice Ao50 t489.length co50 : Value).ownBlock) (Kd.R_keptB ((Kd.R_apart' (rU HO503) (Kd.R_typed (rU HO496)) (by decide))) hkp (fun k_ hk_ hs_ => pjn hk_ hs_)) (fun k_ hk_ => pj hk_)); have n9_ := Aside0.mk (hb); clear BK476; clear HO481; clear HO485; clear BK487; clear HO491; clear BK492; clear HO496; clear BK498; clear HO503; clear HB; have BK476 := n0_; have HO481 := n1_; have HO485 := n2_; have BK487 := n3_; have HO491 := n4_; have BK492 := n5_; have HO496 := n6_; have BK498 := n7_; have HO503 := n8_; have HB := n9_; clear n0_ n1_ n2_ n3_ n4_ n5_ n6_ n7_ n8_ n9_; (try clear hb); (try clear hkp); (try clear hy0); have hcz71_0 := cz BK498 0; have hcz71_1 := cz BK498 1; have hfz71_0 := fz BK498 0; have hfz71_1 := fz BK498 1) | ((with_reducible refine gate_callee (f := 43) rfl ?_); refine goesL_ (some 67) rfl rfl Tryd.func43 (by kernel_rfl) rfl #[.agg #[.int .i64 t493, .slice Ao57 t509.length co57], .int .i64 1] rfl (by (try simp only [List.map_toArray, List.map_cons, List.map_nil]); first | done | (rw [show t509.length = t494.length from (Kd.R_reads' HO496.out).1.symm] <;> rfl) | rfl | (simp only [List.length_drop, List.length_take]; rfl)) ?_; (with_reducible refine (laws_heldParty.calls k t493 _ _ t509 1 t510 _ ?side1 ?side2 A22.out).mono ?_); (case side1 => exact cS (Kd.R_reads' HO496.out).2.2); (case side2 => rw [show t509.length = t494.length from (Kd.R_reads' HO496.out).1.symm]; exact (Kd.R_reads' HO496.out).2.1); rintro e w72 ⟨rfl, hb⟩; refine ⟨_, rfl, ?_⟩; replace HO481 := Aside0.mk (Kd.R_below (rU HO481) hb); replace HO485 := Aside0.mk (Kd.V_below (by (with_reducible repeat (first | apply Kd.V_alloc | apply Kd.V_drewN | apply Kd.V_drew)); exact HO485.out) hb); replace HO491 := Aside0.mk (Kd.R_below (rU HO491) hb); replace HO496 := Aside0.mk (Kd.R_below (rU HO496) hb); replace HO503 := Aside0.mk (Kd.R_below (rU HO503) hb); replace BK476 := bS BK476 hb; replace BK487 := bS BK487 hb; replace BK492 := bS BK492 hb; replace BK498 := bS BK498 hb; replace HB := hS HB hb; (try clear hb); (try clear hb2); (try clear hk); (try clear hi); have hcz73_0 := cz BK476 0; have hcz73_1 := cz BK476 1; have hfz73_0 := fz BK476 0; have hfz73_1 := fz BK476 1) | ((with_reducible refine gate_callee (f := 28) rfl ?_); refine goC (N := some 75) Tryd.func28 #[.agg #[.int .i64 a0_0, .slice A0_1 l0_1.length c0_1]] rfl ?_; (with_reducible refine (laws_toPuzzle.calls k a0_0 _ _ l0_1 t511 t512 _ ?side1 ?side2 A25.out).mono ?_); (case side1 => exact cS (Kd.C_below HR0_1.out HB.out)); (case side2 => exact HC0_1.out); rintro e w74 ⟨v513, rfl, ho0, hb⟩; refine ⟨_, rfl, ?_⟩; have HO514 := Aside0.mk (Kd.R_lower (Kd.R_new' (Kd.R_new' (Kd.R_new' ho0 (Kd.R_lt (rU HO481))) (Kd.R_lt (rU HO491))) (Kd.R_lt (rU HO503))) (below_size hB)); replace HO481 := Aside0.mk (Kd.R_elder' (rU HO481) (Kd.R_base ho0) hb); replace HO485 := Aside0.mk (Kd.V_elder' (by (with_reducible repeat (first | apply Kd.V_alloc | apply Kd.V_drewN | apply Kd.V_drew)); exact HO485.out) (Kd.R_base ho0) hb); replace HO491 := Aside0.mk (Kd.R_elder' (rU HO491) (Kd.R_base ho0) hb); replace HO496 := Aside0.mk (Kd.R_below (rU HO496) hb); replace HO503 := Aside0.mk (Kd.R_elder' (rU HO503) (Kd.R_base ho0) hb); replace BK476 := bS BK476 hb; replace BK487 := bS BK487 hb; replace BK492 := bS BK492 hb; replace BK498 := bS BK498 hb; replace HB := hS HB hb; (try clear hb); (try clear hb2); (try clear hk); (try clear hi); (try clear ho0); obtain ⟨Ao75, co75, eo75⟩ := Kd.R_slice HO514.out; subst eo75) | ((with_reducible refine gate_callee (f := 42) rfl ?_); refine goC (N := some 76) Tryd.func42 #[.agg #[.int .i64 t511, .slice Ao75 t512.length co75]] rfl ?_; (with_reducible refine (impl_FirstSolution.calls k t511 _ _ t512 t515 t516 t519 _ ?side1 ?side2 A26.out).mono ?_); (case side1 => exact cS (Kd.R_reads' HO514.out).2.2); (case side2 => exact (Kd.R_reads' HO514.out).2.1); rintro e w76 ⟨v517, rfl, ho0, hb⟩; refine ⟨_, rfl, ?_⟩; have HO518 := Aside0.mk (Kd.R_lower (Kd.R_new' ho0 (Kd.R_lt (rU HO496))) (below_size hB)); replace HO481 := Aside0.mk (Kd.R_below (rU HO481) hb); replace HO485 := Aside0.mk (Kd.V_elder' (by (with_reducible repeat (first | apply Kd.V_alloc | apply Kd.V_drewN | apply Kd.V_drew)); exact HO485.out) (Kd.R_base ho0) hb); replace HO491 := Aside0.mk (Kd.R_below (rU HO491) hb); replace HO496 := Aside0.mk (Kd.R_elder' (rU HO496) (Kd.R_base ho0) hb); replace HO503 := Aside0.mk (Kd.R_below (rU HO503) hb); replace HO514 := Aside0.mk (Kd.R_below (rU HO514) hb); replace BK476 := bS BK476 hb; replace BK487 := bS BK487 hb; replace BK492 := bS BK492 hb; replace BK498 := bS BK498 hb; replace HB := hS HB hb; (try clear hb); (try clear hb2); (try clear hk); (try clear hi); (try clear ho0)) | ((with_reducible refine gate_dst (N := 12) rfl ?_); refine bxE 12 #[.int .i64 0, .slice none 0 0] 34 rfl ?_; intro gb520 hg w77 hbox hb; have BK520 := Aside0.mk (hbox); have GW520 := gS HB hg; have GE520 := gS HB hg; have NB476_520 := nL BK476 hg; have NB520_476 := nG BK476 hg; have NB487_520 := nL BK487 hg; have NB520_487 := nG BK487 hg; have NB492_520 := nL BK492 hg; have NB520_492 := nG BK492 hg; have NB498_520 := nL BK498 hg; have NB520_498 := nG BK498 hg; replace HO481 := Aside0.mk (Kd.R_below (rU HO481) hb); replace HO485 := Aside0.mk (Kd.V_below (Kd.V_elderB (by (with_reducible repeat (first | apply Kd.V_alloc | apply Kd.V_drewN | apply Kd.V_drew)); exact HO485.out) gb520 (Nat.le_of_eq hg.symm)) hb); replace HO491 := Aside0.mk (Kd.R_below (rU HO491) hb); replace HO496 := Aside0.mk (Kd.R_below (rU HO496) hb); replace HO503 := Aside0.mk (Kd.R_below (rU HO503) hb); replace HO514 := Aside0.mk (Kd.R_below (rU HO514) hb); replace HO518 := Aside0.mk (Kd.R_below (rU HO518) hb); replace BK476 := bS BK476 hb; replace BK487 := bS BK487 hb; replace BK492 := bS BK492 hb; replace BK498 := bS BK498 hb; replace HB := hS HB hb; clear hb hbox hg; have hnb78 := NB520_476.out; have hnc78 := NB476_520.out; have hnb79 := NB520_487.out; have hnc79 := NB487_520.out; have hnb80 := NB520_492.out; have hnc80 := NB492_520.out; have hnb81 := NB520_498.out; have hnc81 := NB498_520.out; have hcz82_0 := cz BK520 0; have hcz82_1 := cz BK520 1; have hfz82_0 := fz BK520 0; have hfz82_1 := fz BK520 1; obtain ⟨Ao83, co83, eo83⟩ := Kd.R_slice HO518.out; subst eo83; have hcz84_0 := cz BK487 0; have hcz84_1 := cz BK487 1; have hfz84_0 := fz BK487 0; have hfz84_1 := fz BK487 1) | ((with_reducible refine gate_callee (f := 19) rfl ?_); refine goC (N := some 81) Tryd.func19 #[.agg #[.int .i64 t515, .slice Ao83 t516.length co83], .agg #[.int .i64 t482, .slice Ao43 t483.length co43]] rfl ?_; (with_reducible refine (laws_eqParty.calls k t515 _ _ t516 t482 _ _ t483 true _ ?side1 ?side2 ?side3 ?side4 A27.out).mono ?_); (case side1 => refine (Kd.R_reads' (e := 110) (base := w.heap.size) (ok := fun k_ => (True ∧ some k_ ≠ (.slice Ao57 t494.length co57 : Value).ownBlock)) (n := t516.length) (c := co83) ?_).2.2; exact (by (with_reducible repeat (first | apply Kd.R_alloc | apply Kd.R_drewN | apply Kd.R_drew)); exact (Kd.R_mono (Kd.R_far (p := ⟨gb520, 1, none⟩) (Kd.R_far (p := ⟨gb520, 0, none⟩) (Kd.R_types HO518.out BK520.out (by decide)) (fun _ hk => hk.2) (.int .i64 t515)) (fun _ hk => hk.2) (.slice Ao83 t516.length co83)) (fun _ h_ => h_.1)))); (case side2 => exact (Kd.R_reads' HO518.out).2.1); (case side3 => refine (Kd.V_reads' (e := 110) (base := w.heap.size) (ok := fun k_ => ((((some k_ ≠ (.slice Ao38 t479.length co38 : Value).ownBlock ∧ (some k_ ≠ (.slice Ao50 t489.length co50 : Value).ownBlock ∧ (some k_ ≠ (.slice Ao57 t494.length co57 : Value).ownBlock ∧ (some k_ ≠ (.slice Ao62 t501.length co62 : Value).ownBlock ∧ (k_ ≠ gb476 ∧ (k_ ≠ gb487 ∧ (k_ ≠ gb492 ∧ k_ ≠ gb498))))))) ∧ some k_ ≠ (.slice Ao75 t512.length co75 : Value).ownBlock) ∧ some k_ ≠ (.slice Ao83 t516.length co83 : Value).ownBlock) ∧ k_ ≠ gb520)) (n := t483.length) (c := co43) ?_).2.2; exact (by (with_reducible repeat (first | apply Kd.V_alloc | apply Kd.V_drewN | apply Kd.V_drew)); exact (Kd.V_mono (Kd.V_far (p := ⟨gb520, 1, none⟩) (Kd.V_far (p := ⟨gb520, 0, none⟩) (Kd.V_mono HO485.out (fun k_ hk => (⟨hk, hk.2⟩ : _ ∧ k_ ≠ gb520))) (fun _ hk => hk.2) (.int .i64 t515)) (fun _ hk => hk.2) (.slice Ao83 t516.length co83)) (fun _ h_ => h_.1)))); (case side4 => exact (Kd.V_reads' HO485.out).2.1); rintro e w85 ⟨rfl, hb⟩; refine ⟨_, rfl, ?_⟩; replace HO481 := Aside0.mk (Kd.R_below (by (with_reducible repeat (first | apply Kd.R_alloc | apply Kd.R_drewN | apply Kd.R_drew)); exact (Kd.R_mono (Kd.R_far (p := ⟨gb520, 1, none⟩) (Kd.R_far (p := ⟨gb520, 0, none⟩) (Kd.R_types HO481.out BK520.out (by decide)) (fun _ hk => hk.2) (.int .i64 t515)) (fun _ hk => hk.2) (.slice Ao83 t516.length co83)) (fun _ h_ => h_.1))) hb); replace HO485 := Aside0.mk (Kd.V_below (by (with_reducible repeat (first | apply Kd.V_alloc | apply Kd.V_drewN | apply Kd.V_drew)); exact (Kd.V_mono (Kd.V_far (p := ⟨gb520, 1, none⟩) (Kd.V_far (p := ⟨gb520, 0, none⟩) (Kd.V_mono HO485.out (fun k_ hk => (⟨hk, hk.2⟩ : _ ∧ k_ ≠ gb520))) (fun _ hk => hk.2) (.int .i64 t515)) (fun _ hk => hk.2) (.slice Ao83 t516.length co83)) (fun _ h_ => h_.1))) hb); replace HO491 := Aside0.mk (Kd.R_below (by (with_reducible repeat (first | apply Kd.R_alloc | apply Kd.R_drewN | apply Kd.R_drew)); exact (Kd.R_mono (Kd.R_far (p := ⟨gb520, 1, none⟩) (Kd.R_far (p := ⟨gb520, 0, none⟩) (Kd.R_types HO491.out BK520.out (by decide)) (fun _ hk => hk.2) (.int .i64 t515)) (fun _ hk => hk.2) (.slice Ao83 t516.length co83)) (fun _ h_ => h_.1))) hb); replace HO496 := Aside0.mk (Kd.R_below (by (with_reducible repeat (first | apply Kd.R_alloc | apply Kd.R_drewN | apply Kd.R_drew)); exact (Kd.R_mono (Kd.R_far (p := ⟨gb520, 1, none⟩) (Kd.R_far (p := ⟨gb520, 0, none⟩) (Kd.R_types HO496.out BK520.out (by decide)) (fun _ hk => hk.2) (.int .i64 t515)) (fun _ hk => hk.2) (.slice Ao83 t516.length co83)) (fun _ h_ => h_.1))) hb); replace HO503 := Aside0.mk (Kd.R_below (by (with_reducible repeat (first | apply Kd.R_alloc | apply Kd.R_drewN | apply Kd.R_drew)); exact (Kd.R_mono (Kd.R_far (p := ⟨gb520, 1, none⟩) (Kd.R_far (p := ⟨gb520, 0, none⟩) (Kd.R_types HO503.out BK520.out (by decide)) (fun _ hk => hk.2) (.int .i64 t515)) (fun _ hk => hk.2) (.slice Ao83 t516.length co83)) (fun _ h_ => h_.1))) hb); replace HO514 := Aside0.mk (Kd.R_below (by (with_reducible repeat (first | apply Kd.R_alloc | apply Kd.R_drewN | apply Kd.R_drew)); exact (Kd.R_mono (Kd.R_far (p := ⟨gb520, 1, none⟩) (Kd.R_far (p := ⟨gb520, 0, none⟩) (Kd.R_types HO514.out BK520.out (by decide)) (fun _ hk => hk.2) (.int .i64 t515)) (fun _ hk => hk.2) (.slice Ao83 t516.length co83)) (fun _ h_ => h_.1))) hb); replace HO518 := Aside0.mk (Kd.R_below (by (with_reducible repeat (first | apply Kd.R_alloc | apply Kd.R_drewN | apply Kd.R_drew)); exact (Kd.R_mono (Kd.R_far (p := ⟨gb520, 1, none⟩) (Kd.R_far (p := ⟨gb520, 0, none⟩) (Kd.R_types HO518.out BK520.out (by decide)) (fun _ hk => hk.2) (.int .i64 t515)) (fun _ hk => hk.2) (.slice Ao83 t516.length co83)) (fun _ h_ => h_.1))) hb); replace BK476 := Aside0.mk (blk_below (g := gb476) (o := .cells #[.int .i64 a0_0, .slice A0_1 l0_1.length c0_1] 49 (0, 0)) (by (with_reducible repeat (first | refine blk_drewN ?_ _ | refine blk_drew ?_ | refine blk_alloc ?_ _)); refine blk_far ?_ NB476_520.out _; (with_reducible repeat (first | refine blk_drewN ?_ _ | refine blk_drew ?_ | refine blk_alloc ?_ _)); refine blk_far ?_ NB476_520.out _; (with_reducible repeat (first | refine blk_drewN ?_ _ | refine blk_drew ?_ | refine blk_alloc ?_ _)); exact BK476.out) hb); replace BK487 := Aside0.mk (blk_below (g := gb487) (o := .cells #[.int .i64 t482, .slice Ao43 t483.length co43] 34 (0, 0)) (by (with_reducible repeat (first | refine blk_drewN ?_ _ | refine blk_drew ?_ | refine blk_alloc ?_ _)); refine blk_far ?_ NB487_520.out _; (with_reducible repeat (first | refine blk_drewN ?_ _ | refine blk_drew ?_ | refine blk_alloc ?_ _)); refine blk_far ?_ NB487_520.out _; (with_reducible repeat (first | refine blk_drewN ?_ _ | refine blk_drew ?_ | refine blk_alloc ?_ _)); exact BK487.out) hb); replace BK492 := Aside0.mk (blk_below (g := gb492) (o := .cells #[.int .i64 t488, .slice Ao50 t489.length co50] 40 (0, 0)) (by (with_reducible repeat (first | refine blk_drewN ?_ _ | refine blk_drew ?_ | refine blk_alloc ?_ _)); refine blk_far ?_ NB492_520.out _; (with_reducible repeat (first | refine blk_drewN ?_ _ | refine blk_drew ?_ | refine blk_alloc ?_ _)); refine blk_far ?_ NB492_520.out _; (with_reducible repeat (first | refine blk_drewN ?_ _ | refine blk_drew ?_ | refine blk_alloc ?_ _)); exact BK492.out) hb); replace BK498 := Aside0.mk (blk_below (g := gb498) (o := .cells #[.int .i64 t493, .slice Ao57 t494.length co57] 34 (0, 0)) (by (with_reducible repeat (first | refine blk_drewN ?_ _ | refine blk_drew ?_ | refine blk_alloc ?_ _)); refine blk_far ?_ NB498_520.out _; (with_reducible repeat (first | refine blk_drewN ?_ _ | refine blk_drew ?_ | refine blk_alloc ?_ _)); refine blk_far ?_ NB498_520.out _; (with_reducible repeat (first | refine blk_drewN ?_ _ | refine blk_drew ?_ | refine blk_alloc ?_ _)); exact BK498.out) hb); replace BK520 := Aside0.mk (blk_below (g := gb520) (o := .cells #[.int .i64 t515, .slice Ao83 t516.length co83] 34 (0, 0)) (by (with_reducible repeat (first | refine blk_drewN ?_ _ | refine blk_drew ?_ | refine blk_alloc ?_ _)); refine blk_put (cs := #[.int .i64 t515, .slice none 0 0]) ?_ 1 _ rfl; (with_reducible repeat (first | refine blk_drewN ?_ _ | refine blk_drew ?_ | refine blk_alloc ?_ _)); refine blk_put (cs := #[.int .i64 0, .slice none 0 0]) ?_ 0 _ rfl; (with_reducible repeat (first | refine blk_drewN ?_ _ | refine blk_drew ?_ | refine blk_alloc ?_ _)); exact BK520.out) hb); replace HB := hS HB hb; (try clear hb); (try clear hb2); (try clear hk); (try clear hi); have hcz86_0 := cz BK498 0; have hcz86_1 := cz BK498 1; have hfz86_0 := fz BK498 0; have hfz86_1 := fz BK498 1) | ((with_reducible refine gate_callee (f := 43) rfl ?_); refine goesL_ (some 90) rfl rfl Tryd.func43 (by kernel_rfl) rfl #[.agg #[.int .i64 t493, .slice Ao57 t509.length co57], .int .i64 1] rfl (by (try simp only [List.map_toArray, List.map_cons, List.map_nil]); first | done | (rw [show t509.length = t494.length from (Kd.R_reads' HO496.out).1.symm] <;> rfl) | rfl | (simp only [List.length_drop, List.length_take]; rfl)) ?_; (with_reducible refine (laws_heldParty.calls k t493 _ _ t509 1 t522 _ ?side1 ?side2 A30.out).mono ?_); (case side1 => exact cS (Kd.R_reads' HO496.out).2.2); (case side2 => rw [show t509.length = t494.length from (Kd.R_reads' HO496.out).1.symm]; exact (Kd.R_reads' HO496.out).2.1); rintro e w87 ⟨rfl, hb⟩; refine ⟨_, rfl, ?_⟩; replace HO481 := Aside0.mk (Kd.R_below (rU HO481) hb); replace HO485 := Aside0.mk (Kd.V_below (by (with_reducible repeat (first | apply Kd.V_alloc | apply Kd.V_drewN | apply Kd.V_drew)); exact HO485.out) hb); replace HO491 := Aside0.mk (Kd.R_below (rU HO491) hb); replace HO496 := Aside0.mk (Kd.R_below (rU HO496) hb); replace HO503 := Aside0.mk (Kd.R_below (rU HO503) hb); replace HO514 := Aside0.mk (Kd.R_below (rU HO514) hb); replace HO518 := Aside0.mk (Kd.R_below (rU HO518) hb); replace BK476 := bS BK476 hb; replace BK487 := bS BK487 hb; replace BK492 := bS BK492 hb; replace BK498 := bS BK498 hb; replace BK520 := bS BK520 hb; replace HB := hS HB hb; (try clear hb); (try clear hb2); (try clear hk); (try clear hi)))
             go_ret
             exact ⟨by first | rfl | (simp [errW_none, errW_some] <;> rfl) | (simp [*, errW_none, errW_some] <;> rfl), hB⟩
            ·rw [if_neg c32] at H
             exact absurd H (by simp)
         ·replace c28 := Bool.eq_false_iff.mpr c28
          subst c28
          have H1 : (none) = some r := by rw [if_neg (show ¬ (false = true) by decide)] at H; exact H
          clear H
          have H := H1
          clear H1
          exact absurd H (by simp)
        ·rw [if_neg c24] at H
         exact absurd H (by simp)
      ·replace c20 := Bool.eq_false_iff.mpr c20
       subst c20
       have H1 : (none) = some r := by rw [if_neg (show ¬ (false = true) by decide)] at H; exact H
       clear H
       have H := H1
       clear H1
       exact absurd H (by simp)
    ·replace c16 := Bool.eq_false_iff.mpr c16
     subst c16
     have H1 : (none) = some r := by rw [if_neg (show ¬ (false = true) by decide)] at H; exact H
     clear H
     have H := H1
     clear H1
     exact absurd H (by simp)
  ·replace c12 := Bool.eq_false_iff.mpr c12
   subst c12
   have H1 : (none) = some r := by rw [if_neg (show ¬ (false = true) by decide)] at H; exact H
   clear H
   have H := H1
   clear H1
   exact absurd H (by simp)

end Go.Proofs.YtdnkipagpagfiaaDoor.PSol3
