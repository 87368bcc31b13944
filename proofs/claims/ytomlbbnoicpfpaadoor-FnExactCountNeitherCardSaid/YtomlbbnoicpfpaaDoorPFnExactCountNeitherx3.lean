-- Of this session's own program wip/gen/gen.py (it drives the kit's print): contracts of the functions that the law reaches.
import Derived.Test.YtomlbbnoicpfpaaDoorPFnExactCountNeitherx0
import Derived.Test.YtomlbbnoicpfpaaDoorPFnExactCountNeitherx1
import Derived.Test.YtomlbbnoicpfpaaDoorPFnExactCountNeitherx2
namespace Go.Proofs.YtomlbbnoicpfpaaDoor.PFnExactCountNeither
open Go.RowKit Go.Proofs.YtomlbbnoicpfpaaDoorW.PrintWords Go.Proofs.YtomlbbnoicpfpaaDoorW.PrintLast Go.Proofs.YtomlbbnoicpfpaaDoorW.PrintMore Go.Proofs.YtomlbbnoicpfpaaDoor.Base
attribute [local go_sem] max2_int min2_int max_two min_two max_three min_three max_four min_four   -- for this text's walks alone
set_option linter.unusedVariables false
set_option linter.unusedSimpArgs false

/-! ### spec_trNeither: function 45 -/
def spec_trNeither.f (k : Nat) (a0_0 : Int) (l0_1 : List (S89)) (a1 : Int) (a2 : Int) : Option (Bool) := (spec_paTable.f k a0_0 l0_1).bind fun t172 => ((spec_trGroups.f k t172 ([] : List Int) a1).bind fun t175 => (if (t175.length : Int) = 0 then ((spec_paOther.f k a0_0 l0_1).bind fun bt178 => ((spec_paTable.f k bt178.1 bt178.2).bind fun t182 => ((spec_trGroups.f k t182 ([] : List Int) a2).bind fun t185 => (some ((t185.length : Int) == 0))))) else (some false)))
theorem spec_trNeither.mono : ∀ a0 a1 a2 a3 k, LeO (spec_trNeither.f k a0 a1 a2 a3) (spec_trNeither.f (k + 1) a0 a1 a2 a3) := by
 intro a0 a1 a2 a3 k
 unfold spec_trNeither.f
 repeat' first
   | (with_reducible exact spec_paOther.mono _ _ _)
   | (with_reducible exact spec_paTable.mono _ _ _)
   | (with_reducible exact spec_trGroups.mono _ _ _ _)
   | (with_reducible exact LeO.refl _)
   | (with_reducible exact LeO.none _)
   | (with_reducible refine LeO.ite ?_ ?_)
   | (with_reducible refine LeO.bind ?_ (fun _ => ?_))
   | exact spec_paOther.mono _ _ _
   | exact spec_paTable.mono _ _ _
   | exact spec_trGroups.mono _ _ _ _
   | exact LeO.none _
   | refine LeO.ite ?_ ?_
   | refine LeO.bind ?_ (fun _ => ?_)
set_option maxHeartbeats 8000000 in
set_option maxRecDepth 100000 in
theorem spec_trNeither.calls (k : Nat) (a0_0 : Int) (A0_1 : Option Addr) (c0_1 : Nat) (l0_1 : List (S89)) (a1 : Int) (a2 : Int) (r : Bool) (w : World) (hr0_1 : Kd.C k89 w A0_1 l0_1.length l0_1) (hc0_1 : l0_1.length ≤ c0_1) (h : spec_trNeither.f k a0_0 l0_1 a1 a2 = some r) :
  Calls Tryd.prog 45 #[.agg #[.int .i64 a0_0, .slice A0_1 l0_1.length c0_1], .int .i64 a1, .int .i64 a2] w fun e w' => e = .returned (.bool r) ∧ Below w.heap.size w w' := by
 have hu30 := Tryd.underlying30
 have HR0_1 := Aside0.mk hr0_1
 have HC0_1 := Aside0.mk hc0_1
 clear hr0_1 hc0_1
 have HB := Aside0.mk (Below.refl w.heap.size w)
 have H : ((spec_paTable.f k a0_0 l0_1).bind fun t172 => ((spec_trGroups.f k t172 ([] : List Int) a1).bind fun t175 => (if (t175.length : Int) = 0 then ((spec_paOther.f k a0_0 l0_1).bind fun bt178 => ((spec_paTable.f k bt178.1 bt178.2).bind fun t182 => ((spec_trGroups.f k t182 ([] : List Int) a2).bind fun t185 => (some ((t185.length : Int) == 0))))) else (some false)))) = some r := h
 clear h
 replace H := Option.bind_eq_some_iff.mp H
 obtain ⟨t172, A40, H⟩ := H
 replace H : ((spec_trGroups.f k t172 ([] : List Int) a1).bind fun t175 => (if (t175.length : Int) = 0 then ((spec_paOther.f k a0_0 l0_1).bind fun bt178 => ((spec_paTable.f k bt178.1 bt178.2).bind fun t182 => ((spec_trGroups.f k t182 ([] : List Int) a2).bind fun t185 => (some ((t185.length : Int) == 0))))) else (some false))) = some r := H
 have A4 := Aside0.mk A40
 clear A40
 replace H := Option.bind_eq_some_iff.mp H
 obtain ⟨t175, A50, H⟩ := H
 replace H : (if (t175.length : Int) = 0 then ((spec_paOther.f k a0_0 l0_1).bind fun bt178 => ((spec_paTable.f k bt178.1 bt178.2).bind fun t182 => ((spec_trGroups.f k t182 ([] : List Int) a2).bind fun t185 => (some ((t185.length : Int) == 0))))) else (some false)) = some r := H
 have A5 := Aside0.mk A50
 clear A50
 by_cases c6 : (t175.length : Int) = 0
 ·rw [if_pos c6] at H
  have c6b0 : ((t175.length : Int) == 0) = true := beq_iff_eq.mpr c6
  have c6b1 : ((t175.length : Int) != 0) = false := bne_eq_false_iff_eq.mpr c6
  clear c6
  replace H := Option.bind_eq_some_iff.mp H
  obtain ⟨⟨t178, t179⟩, A70, H⟩ := H
  replace H : ((spec_paTable.f k t178 t179).bind fun t182 => ((spec_trGroups.f k t182 ([] : List Int) a2).bind fun t185 => (some ((t185.length : Int) == 0)))) = some r := H
  have A7 := Aside0.mk A70
  clear A70
  replace H := Option.bind_eq_some_iff.mp H
  obtain ⟨t182, A80, H⟩ := H
  replace H : ((spec_trGroups.f k t182 ([] : List Int) a2).bind fun t185 => (some ((t185.length : Int) == 0))) = some r := H
  have A8 := Aside0.mk A80
  clear A80
  replace H := Option.bind_eq_some_iff.mp H
  obtain ⟨t185, A90, H⟩ := H
  replace H : (some ((t185.length : Int) == 0)) = some r := H
  have A9 := Aside0.mk A90
  clear A90
  obtain rfl := Option.some.inj H
  go_enter Tryd.func45, Tryd.ntmps45
  go_wp2_with (first | ((with_reducible refine gate_dst (N := 3) rfl ?_); (try (refine gate_guard (by rfl) ?_; dsimp only)); refine box_event ?hg (N := 3) ?hd (cs := #[.int .i64 a0_0, .slice A0_1 l0_1.length c0_1]) (t := 30) ?hr ?_; (case hd => rfl); (case hg => rfl); (case hr => first | (go_simp; done) | (go_simp; rfl)); intro gb171 hg w10 hbox hb; have n0_ := hS HB hb; have n1_ := Aside0.mk (hbox); have n2_ := gS HB hg; have n3_ := gS HB hg; clear HB; have HB := n0_; have BK171 := n1_; have GW171 := n2_; have GE171 := n3_; clear n0_ n1_ n2_ n3_; clear hb hbox hg; have hcz11_0 : w10.cell? ⟨gb171, 0, none⟩ = some (.int .i64 a0_0) := (blk_cell BK171.out 0).trans rfl; have hcz11_1 : w10.cell? ⟨gb171, 1, none⟩ = some (.slice A0_1 l0_1.length c0_1) := (blk_cell BK171.out 1).trans rfl; have hfz11_0 := blk_frozen BK171.out 0; have hfz11_1 := blk_frozen BK171.out 1) | ((with_reducible refine gate_callee (f := 53) rfl ?_); refine goesL_ (some 8) rfl rfl Tryd.func53 (by kernel_rfl) rfl #[.agg #[.int .i64 a0_0, .slice A0_1 l0_1.length c0_1]] rfl mapT ?_; (with_reducible refine (spec_paTable.calls k a0_0 _ _ l0_1 t172 _ ?side1 ?side2 A4.out).mono ?_); (case side1 => repeat (first | exact (Kd.C_below HR0_1.out HB.out) | (with_reducible refine Kd.C_alloc ?_ _) | (with_reducible refine Kd.C_drewN ?_ _) | (with_reducible refine Kd.C_drew ?_))); (case side2 => exact HC0_1.out); rintro e w12 ⟨v173, rfl, ho0, hb⟩; refine ⟨_, rfl, ?_⟩; have n0_ := Aside0.mk (Kd.N_lower (Kd.N_mono (ok' := fun k_ => k_ ≠ gb171) (Kd.S_N (Kd.S_bound ho0)) (fun k_ hk_ => (Kd.freshB (g := gb171) (o := .cells #[.int .i64 a0_0, .slice A0_1 l0_1.length c0_1] 30 (0, 0)) bK k_ hk_.2.1))) (below_size hB)); have n1_ := bS BK171 hb; have n2_ := hS HB hb; clear BK171; clear HB; have HO174 := n0_; have BK171 := n1_; have HB := n2_; clear n0_ n1_ n2_; (try clear hb); (try clear hb2); (try clear hk); (try clear hi); (try clear ho0); obtain ⟨Ao13, co13, eo13⟩ := Kd.N_slice HO174.out; subst eo13) | ((with_reducible refine gate_callee (f := 89) rfl ?_); refine goesL_ (some 10) rfl rfl Tryd.func89 (by kernel_rfl) rfl #[.slice Ao13 t172.length co13, .slice none 0 0, .int .i64 a1] rfl mapT ?_; (refine (spec_trGroups.calls k _ _ t172 _ _ ([] : List Int) a1 t175 _ ?side1 ?side2 ?side3 ?side4 A5.out).mono ?_); (case side1 => repeat (first | exact (Kd.N_reads' HO174.out).2.2 | (with_reducible refine Kd.C_alloc ?_ _) | (with_reducible refine Kd.C_drewN ?_ _) | (with_reducible refine Kd.C_drew ?_))); (case side2 => exact (Kd.N_reads' HO174.out).2.1); (case side3 => exact Kd.C_nil _ _); (case side4 => exact Nat.le_refl _); rintro e w14 ⟨v176, rfl, ho0, hb⟩; refine ⟨_, rfl, ?_⟩; have n0_ := Aside0.mk (Kd.N_elder' (by (with_reducible repeat (first | apply Kd.N_alloc | apply Kd.N_drewN | apply Kd.N_drew)); exact HO174.out) (by first | exact Kd.N_base ho0 | exact Kd.S_base ho0) hb); have n1_ := Aside0.mk (Kd.N_lower (Kd.N_mono (ok' := fun k_ => some k_ ≠ (.slice Ao13 t172.length co13 : Value).ownBlock ∧ k_ ≠ gb171) ho0 (fun k_ hk_ => ⟨(Kd.fresh' (Kd.N_lt (by (with_reducible repeat (first | apply Kd.N_alloc | apply Kd.N_drewN | apply Kd.N_drew)); exact HO174.out)) k_ hk_), (Kd.freshB (g := gb171) (o := .cells #[.int .i64 a0_0, .slice A0_1 l0_1.length c0_1] 30 (0, 0)) bK k_ hk_)⟩)) (below_size hB)); have n2_ := bS BK171 hb; have n3_ := hS HB hb; clear HO174; clear BK171; clear HB; have HO174 := n0_; have HO177 := n1_; have BK171 := n2_; have HB := n3_; clear n0_ n1_ n2_ n3_; (try clear hb); (try clear hb2); (try clear hk); (try clear hi); (try clear ho0); obtain ⟨Ao15, co15, eo15⟩ := Kd.N_slice HO177.out; subst eo15; have hcz16_0 : w14.cell? ⟨gb171, 0, none⟩ = some (.int .i64 a0_0) := (blk_cell BK171.out 0).trans rfl; have hcz16_1 : w14.cell? ⟨gb171, 1, none⟩ = some (.slice A0_1 l0_1.length c0_1) := (blk_cell BK171.out 1).trans rfl; have hfz16_0 := blk_frozen BK171.out 0; have hfz16_1 := blk_frozen BK171.out 1) | (go_at_call 90; (with_reducible refine (spec_paOther.calls k a0_0 _ _ l0_1 t178 t179 _ ?side1 ?side2 A7.out).mono ?_); (case side1 => repeat (first | exact (Kd.C_below HR0_1.out HB.out) | (with_reducible refine Kd.C_alloc ?_ _) | (with_reducible refine Kd.C_drewN ?_ _) | (with_reducible refine Kd.C_drew ?_))); (case side2 => exact HC0_1.out); rintro e w17 ⟨v180, rfl, ho0, hb⟩; have n0_ := Aside0.mk (Kd.N_elder' (by (with_reducible repeat (first | apply Kd.N_alloc | apply Kd.N_drewN | apply Kd.N_drew)); exact HO174.out) (Kd.R_base ho0) hb); have n1_ := Aside0.mk (Kd.N_elder' (by (with_reducible repeat (first | apply Kd.N_alloc | apply Kd.N_drewN | apply Kd.N_drew)); exact HO177.out) (Kd.R_base ho0) hb); have n2_ := Aside0.mk (Kd.R_lower ho0 (below_size hB)); have n3_ := bS BK171 hb; have n4_ := hS HB hb; clear HO174; clear HO177; clear BK171; clear HB; have HO174 := n0_; have HO177 := n1_; have HO181 := n2_; have BK171 := n3_; have HB := n4_; clear n0_ n1_ n2_ n3_ n4_; (try clear hb); (try clear hb2); (try clear hk); (try clear hi); (try clear ho0); obtain ⟨Ao18, co18, eo18⟩ := Kd.R_slice HO181.out; subst eo18) | (go_at_call 53; (with_reducible refine (spec_paTable.calls k t178 _ _ t179 t182 _ ?side1 ?side2 A8.out).mono ?_); (case side1 => repeat (first | exact (Kd.R_reads' HO181.out).2.2 | (with_reducible refine Kd.C_alloc ?_ _) | (with_reducible refine Kd.C_drewN ?_ _) | (with_reducible refine Kd.C_drew ?_))); (case side2 => exact (Kd.R_reads' HO181.out).2.1); rintro e w19 ⟨v183, rfl, ho0, hb⟩; have n0_ := Aside0.mk (Kd.N_elder' (by (with_reducible repeat (first | apply Kd.N_alloc | apply Kd.N_drewN | apply Kd.N_drew)); exact HO174.out) (by first | exact Kd.N_base ho0 | exact Kd.S_base ho0) hb); have n1_ := Aside0.mk (Kd.N_elder' (by (with_reducible repeat (first | apply Kd.N_alloc | apply Kd.N_drewN | apply Kd.N_drew)); exact HO177.out) (by first | exact Kd.N_base ho0 | exact Kd.S_base ho0) hb); have n2_ := Aside0.mk (Kd.R_below (by (with_reducible repeat (first | apply Kd.R_alloc | apply Kd.R_drewN | apply Kd.R_drew)); exact HO181.out) hb); have n3_ := Aside0.mk (Kd.N_lower (Kd.N_mono (ok' := fun k_ => some k_ ≠ (.slice Ao13 t172.length co13 : Value).ownBlock ∧ some k_ ≠ (.slice Ao15 t175.length co15 : Value).ownBlock ∧ some k_ ≠ (.slice Ao18 t179.length co18 : Value).ownBlock ∧ k_ ≠ gb171) (Kd.S_N (Kd.S_bound ho0)) (fun k_ hk_ => ⟨(Kd.fresh' (Kd.N_lt (by (with_reducible repeat (first | apply Kd.N_alloc | apply Kd.N_drewN | apply Kd.N_drew)); exact HO174.out)) k_ hk_.2.1), (Kd.fresh' (Kd.N_lt (by (with_reducible repeat (first | apply Kd.N_alloc | apply Kd.N_drewN | apply Kd.N_drew)); exact HO177.out)) k_ hk_.2.1), (Kd.fresh' (Kd.R_lt (by (with_reducible repeat (first | apply Kd.R_alloc | apply Kd.R_drewN | apply Kd.R_drew)); exact HO181.out)) k_ hk_.2.1), (Kd.freshB (g := gb171) (o := .cells #[.int .i64 a0_0, .slice A0_1 l0_1.length c0_1] 30 (0, 0)) bK k_ hk_.2.1)⟩)) (below_size hB)); have n4_ := bS BK171 hb; have n5_ := hS HB hb; clear HO174; clear HO177; clear HO181; clear BK171; clear HB; have HO174 := n0_; have HO177 := n1_; have HO181 := n2_; have HO184 := n3_; have BK171 := n4_; have HB := n5_; clear n0_ n1_ n2_ n3_ n4_ n5_; (try clear hb); (try clear hb2); (try clear hk); (try clear hi); (try clear ho0); obtain ⟨Ao20, co20, eo20⟩ := Kd.N_slice HO184.out; subst eo20) | (go_at_call 89; (refine (spec_trGroups.calls k _ _ t182 _ _ ([] : List Int) a2 t185 _ ?side1 ?side2 ?side3 ?side4 A9.out).mono ?_); (case side1 => repeat (first | exact (Kd.N_reads' HO184.out).2.2 | (with_reducible refine Kd.C_alloc ?_ _) | (with_reducible refine Kd.C_drewN ?_ _) | (with_reducible refine Kd.C_drew ?_))); (case side2 => exact (Kd.N_reads' HO184.out).2.1); (case side3 => exact Kd.C_nil _ _); (case side4 => exact Nat.le_refl _); rintro e w21 ⟨v186, rfl, ho0, hb⟩; have n0_ := Aside0.mk (Kd.N_elder' (by (with_reducible repeat (first | apply Kd.N_alloc | apply Kd.N_drewN | apply Kd.N_drew)); exact HO174.out) (by first | exact Kd.N_base ho0 | exact Kd.S_base ho0) hb); have n1_ := Aside0.mk (Kd.N_elder' (by (with_reducible repeat (first | apply Kd.N_alloc | apply Kd.N_drewN | apply Kd.N_drew)); exact HO177.out) (by first | exact Kd.N_base ho0 | exact Kd.S_base ho0) hb); have n2_ := Aside0.mk (Kd.R_below (by (with_reducible repeat (first | apply Kd.R_alloc | apply Kd.R_drewN | apply Kd.R_drew)); exact HO181.out) hb); have n3_ := Aside0.mk (Kd.N_elder' (by (with_reducible repeat (first | apply Kd.N_alloc | apply Kd.N_drewN | apply Kd.N_drew)); exact HO184.out) (by first | exact Kd.N_base ho0 | exact Kd.S_base ho0) hb); have n4_ := Aside0.mk (Kd.N_lower (Kd.N_mono (ok' := fun k_ => some k_ ≠ (.slice Ao13 t172.length co13 : Value).ownBlock ∧ some k_ ≠ (.slice Ao15 t175.length co15 : Value).ownBlock ∧ some k_ ≠ (.slice Ao18 t179.length co18 : Value).ownBlock ∧ some k_ ≠ (.slice Ao20 t182.length co20 : Value).ownBlock ∧ k_ ≠ gb171) ho0 (fun k_ hk_ => ⟨(Kd.fresh' (Kd.N_lt (by (with_reducible repeat (first | apply Kd.N_alloc | apply Kd.N_drewN | apply Kd.N_drew)); exact HO174.out)) k_ hk_), (Kd.fresh' (Kd.N_lt (by (with_reducible repeat (first | apply Kd.N_alloc | apply Kd.N_drewN | apply Kd.N_drew)); exact HO177.out)) k_ hk_), (Kd.fresh' (Kd.R_lt (by (with_reducible repeat (first | apply Kd.R_alloc | apply Kd.R_drewN | apply Kd.R_drew)); exact HO181.out)) k_ hk_), (Kd.fresh' (Kd.N_lt (by (with_reducible repeat (first | apply Kd.N_alloc | apply Kd.N_drewN | apply Kd.N_drew)); exact HO184.out)) k_ hk_), (Kd.freshB (g := gb171) (o := .cells #[.int .i64 a0_0, .slice A0_1 l0_1.length c0_1] 30 (0, 0)) bK k_ hk_)⟩)) (below_size hB)); have n5_ := bS BK171 hb; have n6_ := hS HB hb; clear HO174; clear HO177; clear HO181; clear HO184; clear BK171; clear HB; have HO174 := n0_; have HO177 := n1_; have HO181 := n2_; have HO184 := n3_; have HO187 := n4_; have BK171 := n5_; have HB := n6_; clear n0_ n1_ n2_ n3_ n4_ n5_ n6_; (try clear hb); (try clear hb2); (try clear hk); (try clear hi); (try clear ho0); obtain ⟨Ao22, co22, eo22⟩ := Kd.N_slice HO187.out; subst eo22))
  go_ret
  exact ⟨by first | rfl | (simp [errW_none, errW_some] <;> rfl) | (simp [*, errW_none, errW_some] <;> rfl), hB⟩
 ·rw [if_neg c6] at H
  have c6b0 : ((t175.length : Int) == 0) = false := beq_eq_false_iff_ne.mpr c6
  have c6b1 : ((t175.length : Int) != 0) = true := bne_iff_ne.mpr c6
  have c6b2 : ¬ (t175 = []) := fun h_ => c6 (by rw [h_]; rfl)
  obtain rfl := Option.some.inj H
  go_enter Tryd.func45, Tryd.ntmps45
  go_wp2_with (first | ((with_reducible refine gate_dst (N := 3) rfl ?_); (try (refine gate_guard (by rfl) ?_; dsimp only)); refine box_event ?hg (N := 3) ?hd (cs := #[.int .i64 a0_0, .slice A0_1 l0_1.length c0_1]) (t := 30) ?hr ?_; (case hd => rfl); (case hg => rfl); (case hr => first | (go_simp; done) | (go_simp; rfl)); intro gb171 hg w23 hbox hb; have n0_ := hS HB hb; have n1_ := Aside0.mk (hbox); have n2_ := gS HB hg; have n3_ := gS HB hg; clear HB; have HB := n0_; have BK171 := n1_; have GW171 := n2_; have GE171 := n3_; clear n0_ n1_ n2_ n3_; clear hb hbox hg; have hcz24_0 : w23.cell? ⟨gb171, 0, none⟩ = some (.int .i64 a0_0) := (blk_cell BK171.out 0).trans rfl; have hcz24_1 : w23.cell? ⟨gb171, 1, none⟩ = some (.slice A0_1 l0_1.length c0_1) := (blk_cell BK171.out 1).trans rfl; have hfz24_0 := blk_frozen BK171.out 0; have hfz24_1 := blk_frozen BK171.out 1) | ((with_reducible refine gate_callee (f := 53) rfl ?_); refine goesL_ (some 8) rfl rfl Tryd.func53 (by kernel_rfl) rfl #[.agg #[.int .i64 a0_0, .slice A0_1 l0_1.length c0_1]] rfl mapT ?_; (with_reducible refine (spec_paTable.calls k a0_0 _ _ l0_1 t172 _ ?side1 ?side2 A4.out).mono ?_); (case side1 => repeat (first | exact (Kd.C_below HR0_1.out HB.out) | (with_reducible refine Kd.C_alloc ?_ _) | (with_reducible refine Kd.C_drewN ?_ _) | (with_reducible refine Kd.C_drew ?_))); (case side2 => exact HC0_1.out); rintro e w25 ⟨v173, rfl, ho0, hb⟩; refine ⟨_, rfl, ?_⟩; have n0_ := Aside0.mk (Kd.N_lower (Kd.N_mono (ok' := fun k_ => k_ ≠ gb171) (Kd.S_N (Kd.S_bound ho0)) (fun k_ hk_ => (Kd.freshB (g := gb171) (o := .cells #[.int .i64 a0_0, .slice A0_1 l0_1.length c0_1] 30 (0, 0)) bK k_ hk_.2.1))) (below_size hB)); have n1_ := bS BK171 hb; have n2_ := hS HB hb; clear BK171; clear HB; have HO174 := n0_; have BK171 := n1_; have HB := n2_; clear n0_ n1_ n2_; (try clear hb); (try clear hb2); (try clear hk); (try clear hi); (try clear ho0); obtain ⟨Ao26, co26, eo26⟩ := Kd.N_slice HO174.out; subst eo26) | ((with_reducible refine gate_callee (f := 89) rfl ?_); refine goesL_ (some 10) rfl rfl Tryd.func89 (by kernel_rfl) rfl #[.slice Ao26 t172.length co26, .slice none 0 0, .int .i64 a1] rfl mapT ?_; (refine (spec_trGroups.calls k _ _ t172 _ _ ([] : List Int) a1 t175 _ ?side1 ?side2 ?side3 ?side4 A5.out).mono ?_); (case side1 => repeat (first | exact (Kd.N_reads' HO174.out).2.2 | (with_reducible refine Kd.C_alloc ?_ _) | (with_reducible refine Kd.C_drewN ?_ _) | (with_reducible refine Kd.C_drew ?_))); (case side2 => exact (Kd.N_reads' HO174.out).2.1); (case side3 => exact Kd.C_nil _ _); (case side4 => exact Nat.le_refl _); rintro e w27 ⟨v176, rfl, ho0, hb⟩; refine ⟨_, rfl, ?_⟩; have n0_ := Aside0.mk (Kd.N_elder' (by (with_reducible repeat (first | apply Kd.N_alloc | apply Kd.N_drewN | apply Kd.N_drew)); exact HO174.out) (by first | exact Kd.N_base ho0 | exact Kd.S_base ho0) hb); have n1_ := Aside0.mk (Kd.N_lower (Kd.N_mono (ok' := fun k_ => some k_ ≠ (.slice Ao26 t172.length co26 : Value).ownBlock ∧ k_ ≠ gb171) ho0 (fun k_ hk_ => ⟨(Kd.fresh' (Kd.N_lt (by (with_reducible repeat (first | apply Kd.N_alloc | apply Kd.N_drewN | apply Kd.N_drew)); exact HO174.out)) k_ hk_), (Kd.freshB (g := gb171) (o := .cells #[.int .i64 a0_0, .slice A0_1 l0_1.length c0_1] 30 (0, 0)) bK k_ hk_)⟩)) (below_size hB)); have n2_ := bS BK171 hb; have n3_ := hS HB hb; clear HO174; clear BK171; clear HB; have HO174 := n0_; have HO177 := n1_; have BK171 := n2_; have HB := n3_; clear n0_ n1_ n2_ n3_; (try clear hb); (try clear hb2); (try clear hk); (try clear hi); (try clear ho0); obtain ⟨Ao28, co28, eo28⟩ := Kd.N_slice HO177.out; subst eo28))
  go_ret
  exact ⟨by first | rfl | (simp [errW_none, errW_some] <;> rfl) | (simp [*, errW_none, errW_some] <;> rfl), hB⟩

/-! ### spec_trSet: function 98 (a text of this session's own) -/

def spec_trSet.T1 : Bool × List (List Nat × List Nat) := (true, [([], []), ([], []), ([1], [1]), ([0, 2], [0, 2]), ([3], [3]), ([], []), ([5], [5]), ([], []), ([4, 6, 0, 1, 2, 3, 4, 5, 6, 7], [4, 6]), ([8, 7, 0, 1, 2, 3, 4, 5, 6, 7], [7, 8])])
def spec_trSet.T2 : Bool × List (List Nat × List Nat) := (true, [([], []), ([], []), ([1], [1]), ([0, 2], [0, 2]), ([3], [3]), ([], []), ([5], [5]), ([], []), ([4, 6, 0, 1, 2, 3, 4, 5, 6, 7], [4, 6]), ([8, 7, 0, 1, 2, 3, 4, 5, 6, 7], [7, 8])])
def spec_trSet.B1 : List Nat := [0, 0, 2, 7, 15, 0, 32, 0, 255, 511]
theorem spec_trSet.tab1 : rtab .any (opsOf Tryd.f98 1) = spec_trSet.T1 := by kernel_rfl
theorem spec_trSet.bits1 : waitsOk spec_trSet.T1.2 spec_trSet.B1 = true := by kernel_rfl
theorem spec_trSet.tab2 : rtab .any (opsOf Tryd.f98 2) = spec_trSet.T2 := by kernel_rfl
theorem spec_trSet.bits2 : waitsOk spec_trSet.T2.2 spec_trSet.B1 = true := by kernel_rfl
/-- One entry of a row within rows is stored. -/
theorem spec_trSet.put {W : World} {base n cap : Nat} {ok : Nat → Prop} {ad : Addr} {T : List (List Bool)} {ra : List Bool} (h : Kd.S (Kd.slice 4 Kd.bool) 122 W base ok (.slice (some ad) n cap) T) (a b : Int) (f : Bool) (ha0 : 0 ≤ a) (ha : a < n) (hb0 : 0 ≤ b) (hra : T.getD a.toNat [] = ra) (hb : b < (ra.length : Int)) :
    ∃ (g c : Nat), W.cell? (ad.add a.toNat) = some (.slice (some ⟨g, 0, none⟩) ra.length c) ∧ W.cell? ⟨g, b.toNat, none⟩ = some (.bool (rdOf false ra b)) ∧ W.frozen? ⟨g, b.toNat, none⟩ = false ∧ ok g ∧ base ≤ g ∧ g < W.heap.size ∧
      Kd.S (Kd.slice 4 Kd.bool) 122 (W.setCell ⟨g, b.toNat, none⟩ (.bool f)) base ok (.slice (some ad) n cap) (T.set a.toNat (ra.set b.toNat f)) := by
  obtain ⟨oki, cs, hcl, hM, hcc, hok, hbk⟩ := Kd.S_borrow h [] a ha0 ha
  obtain ⟨v, rfl, hv⟩ := hM
  rw [hra] at hv
  replace hv := (show Kd.R Kd.bool 4 W base oki v ra from hv)
  obtain ⟨g, c, rfl, hgb, hgl, _⟩ := Kd.R_form hv (by omega)
  have hc0 := hcc 0 _ rfl
  rw [Nat.add_zero, show (Kd.slice 4 Kd.bool).sz = 1 from rfl, Nat.mul_one] at hc0
  obtain ⟨hx, hf⟩ := Kd.R_celln false hv b hb0 hb
  have HP := Kd.R_putg hv b f
  exact ⟨g, c, hc0, hx, hf, (hok g (hv.1 g rfl)).1, hgb, hgl, hbk HP.2 (fun k e => by injection e with e; subst e; exact hv.1 _ rfl) (Kd.M_row HP.1)⟩
set_option maxHeartbeats 8000000 in
set_option maxRecDepth 100000 in
theorem spec_trSet.calls (ad : Addr) (n cap : Nat) (T : List (List Bool)) (a b : Int) (f : Bool) (w : World) (base : Nat) (ok : Nat → Prop) (ra rb : List Bool) (HO : Kd.S (Kd.slice 4 Kd.bool) 122 w base ok (.slice (some ad) n cap) T) (hbase : base ≤ w.heap.size)
    (ha0 : 0 ≤ a) (ha : a < n) (hb0 : 0 ≤ b) (hb : b < n) (hra : T.getD a.toNat [] = ra) (hla : b < (ra.length : Int)) (hrb : (T.set a.toNat (ra.set b.toNat f)).getD b.toNat [] = rb) (hlb : a < (rb.length : Int)) :
    Calls Tryd.prog 98 #[.slice (some ad) n cap, .agg #[.int .i64 a, .int .i64 b], .bool f] w fun e w' => e = .returned (.tuple #[]) ∧ Kd.S (Kd.slice 4 Kd.bool) 122 w' base ok (.slice (some ad) n cap) ((T.set a.toNat (ra.set b.toNat f)).set b.toNat (rb.set a.toNat f)) ∧ Below base w w' ∧ ∀ k, ¬ ok k → k < w.heap.size → w'.heap[k]? = w.heap[k]? := by
  have hu := Tryd.underlying89
  have HO_ := Aside0.mk (Kd.S_mono (ok' := fun k => ok k ∧ k < w.heap.size) (Kd.S_bound HO) (fun _ hk => ⟨hk.1, hk.2.2.1⟩))
  have HRA := Aside0.mk hra
  have HRB := Aside0.mk hrb
  have p1 : (0 ≤ a) = True := eq_true ha0
  have p2 : (a < (n : Int)) = True := eq_true ha
  have p3 : (0 ≤ b) = True := eq_true hb0
  have p4 : (b < (n : Int)) = True := eq_true hb
  have p5 : (b < (ra.length : Int)) = True := eq_true hla
  have p6 : (a < (rb.length : Int)) = True := eq_true hlb
  clear HO hra hrb
  go_enter Tryd.func98, Tryd.ntmps98
  go_wp2_with ((with_reducible refine gate_dst (N := 4) rfl ?_); refine box_event ?hg (N := 4) ?hd (cs := #[.int .i64 a, .int .i64 b]) (t := 89) ?hr ?_; (case hd => rfl); (case hg => rfl); (case hr => first | (go_simp; done) | (go_simp; rfl)); intro gb hg w3 hbox hb_; have S3 := Aside0.mk (Kd.S_below HO_.out hb_); have BK := Aside0.mk hbox; have HB3 := Aside0.mk (show Below base w w3 from ⟨hb_.os, hb_.tape, hb_.output, hb_.size, fun k hk => hb_.block k (Nat.lt_of_lt_of_le hk hbase)⟩); have HZ3 := Aside0.mk (show ∀ k, k < w.heap.size → w3.heap[k]? = w.heap[k]? from hb_.block); have HG := Aside0.mk hg; clear hbox hb_ hg)
  have Sd1 := Aside0.mk (Kd.S_drew S3.out)
  have Bd1 := Aside0.mk (blk_drew BK.out)
  have Hd1 := Aside0.mk (below_drew1 HB3.out)
  clear S3 BK HB3
  obtain ⟨g1, c1, hc1, hx1, hf1, hok1, hbg1, hgl1, hS1⟩ := spec_trSet.put Sd1.out a b f ha0 ha hb0 HRA.out hla
  have hne1 : gb ≠ g1 := by have := hok1.2; have := HG.out; omega
  have SS1 := Aside0.mk hS1
  clear hS1
  refine start_ (n := 10) (S := fun w' => w'.cell? ⟨gb, 0, none⟩ = some (.int .i64 a) ∧ w'.cell? ⟨gb, 1, none⟩ = some (.int .i64 b) ∧ w'.cell? (ad.add a.toNat) = some (.slice (some ⟨g1, 0, none⟩) ra.length c1)) (ds := [9]) (bz 10 0) (by kernel_rfl) rfl rfl ⟨(blk_cell Bd1.out 0).trans rfl, (blk_cell Bd1.out 1).trans rfl, hc1⟩ (fun hHeld => ?_)
  refine with_tabW spec_trSet.tab1 spec_trSet.bits1 (fun HT_ HW_ => ?_)
  have hq1 : w3.drew.heap = w3.heap := rfl
  generalize w3.drew = w1d at hq1 Sd1 Bd1 Hd1 SS1 hc1 hx1 hf1 hgl1 hHeld ⊢
  refine run_ [(0, 0, 1, some 6), (0, 1, 3, some 7), (0, 5, 35, some 11), (0, 7, 163, some 13), (1, 2, 167, some 8), (0, 3, 175, some 9), (1, 4, 191, some 10), (1, 6, 255, some 12), (0, 8, 511, some 14)] ?_
  repeat (first | (apply tag0; refine run_p (v := ?_) (a' := ?_) rfl rfl (any_of HT_.out (by kernel_rfl)) (fun _ _ _ h => h) (by rfl) ?_ ?_ ?_; rotate_left 2; (intro w'; go_simp; with_reducible rfl); (first | (simp only [Act.put, List.setIfInBounds_toArray, List.set_cons_zero, List.set_cons_succ, i64_w, i32_w]; rfl) | rfl)) | (apply tag1; refine run_t (v := ?_) (a' := ?_) rfl rfl (take_ofW HT_.out HW_.out (by kernel_rfl)) (fun _ _ _ h => h) (by rfl) ?_ hHeld ?_ ?_; rotate_left 2; (rintro w' ⟨s0, s1, s2⟩; go_simp; with_reducible rfl); (first | (simp only [Act.put, List.setIfInBounds_toArray, List.set_cons_zero, List.set_cons_succ, i64_w, i32_w]; rfl) | rfl)))
  refine run_nil ?_
  refine last_ (i := 9) (N := none) (bz 10 1023) rfl rfl (one_of HT_.out (by kernel_rfl)) (by decide) (fun K hK => ?_)
  refine skip_ (w1 := ?_) (by rfl) rfl ?_ ?_
  rotate_left
  · go_simp
    rfl
  refine hK.out _ _ ?_
  clear hK K
  refine done_ (done_of HT_.out (by kernel_rfl)) ?_
  clear HT_ HW_ hHeld hc1 hx1 hf1
  have BB1 := Aside0.mk (blk_far Bd1.out (p := ⟨g1, b.toNat, none⟩) hne1 (.bool f))
  have HH1 := Aside0.mk ((Hd1.out).setCell (p := ⟨g1, b.toNat, none⟩) (by exact hbg1) (.bool f))
  generalize hw5 : w1d.setCell ⟨g1, b.toNat, none⟩ (.bool f) = w5 at SS1 BB1 HH1 ⊢
  try go_wp2
  have Sd2 := Aside0.mk (Kd.S_drew SS1.out)
  have Bd2 := Aside0.mk (blk_drew BB1.out)
  have Hd2 := Aside0.mk (below_drew1 HH1.out)
  clear SS1 BB1 HH1
  obtain ⟨g2, c2, hc2, hx2, hf2, hok2, hbg2, hgl2, hS2⟩ := spec_trSet.put Sd2.out b a f hb0 hb ha0 HRB.out hlb
  have hne2 : gb ≠ g2 := by have := hok2.2; have := HG.out; omega
  have SS2 := Aside0.mk hS2
  clear hS2
  refine start_ (n := 10) (S := fun w' => w'.cell? ⟨gb, 0, none⟩ = some (.int .i64 a) ∧ w'.cell? ⟨gb, 1, none⟩ = some (.int .i64 b) ∧ w'.cell? (ad.add b.toNat) = some (.slice (some ⟨g2, 0, none⟩) rb.length c2)) (ds := [9]) (bz 10 0) (by kernel_rfl) rfl rfl ⟨(blk_cell Bd2.out 0).trans rfl, (blk_cell Bd2.out 1).trans rfl, hc2⟩ (fun hHeld => ?_)
  refine with_tabW spec_trSet.tab2 spec_trSet.bits2 (fun HT_ HW_ => ?_)
  have hq2 : w5.drew.heap = w5.heap := rfl
  generalize w5.drew = w2d at hq2 Sd2 Bd2 Hd2 SS2 hc2 hx2 hf2 hgl2 hHeld ⊢
  refine run_ [(0, 0, 1, some 15), (0, 1, 3, some 16), (0, 5, 35, some 20), (0, 7, 163, some 22), (1, 2, 167, some 17), (0, 3, 175, some 18), (1, 4, 191, some 19), (1, 6, 255, some 21), (0, 8, 511, some 23)] ?_
  repeat (first | (apply tag0; refine run_p (v := ?_) (a' := ?_) rfl rfl (any_of HT_.out (by kernel_rfl)) (fun _ _ _ h => h) (by rfl) ?_ ?_ ?_; rotate_left 2; (intro w'; go_simp; with_reducible rfl); (first | (simp only [Act.put, List.setIfInBounds_toArray, List.set_cons_zero, List.set_cons_succ, i64_w, i32_w]; rfl) | rfl)) | (apply tag1; refine run_t (v := ?_) (a' := ?_) rfl rfl (take_ofW HT_.out HW_.out (by kernel_rfl)) (fun _ _ _ h => h) (by rfl) ?_ hHeld ?_ ?_; rotate_left 2; (rintro w' ⟨s0, s1, s2⟩; go_simp; with_reducible rfl); (first | (simp only [Act.put, List.setIfInBounds_toArray, List.set_cons_zero, List.set_cons_succ, i64_w, i32_w]; rfl) | rfl)))
  refine run_nil ?_
  refine last_ (i := 9) (N := none) (bz 10 1023) rfl rfl (one_of HT_.out (by kernel_rfl)) (by decide) (fun K hK => ?_)
  refine skip_ (w1 := ?_) (by rfl) rfl ?_ ?_
  rotate_left
  · go_simp
    rfl
  refine hK.out _ _ ?_
  clear hK K
  refine done_ (done_of HT_.out (by kernel_rfl)) ?_
  clear HT_ HW_ hHeld hc2 hx2 hf2
  have BB2 := Aside0.mk (blk_far Bd2.out (p := ⟨g2, a.toNat, none⟩) hne2 (.bool f))
  have HH2 := Aside0.mk ((Hd2.out).setCell (p := ⟨g2, a.toNat, none⟩) (by exact hbg2) (.bool f))
  generalize hw6 : w2d.setCell ⟨g2, a.toNat, none⟩ (.bool f) = w6 at SS2 BB2 HH2 ⊢
  try go_wp2
  first | go_end0 | ((try simp only [Exit.inBlock, Exit.then]); refine bodyPost_ret (results_none rfl _ _ _) rfl ?_)
  refine ⟨rfl, Kd.S_mono SS2.out (fun _ hk => hk.1), ?_, fun k hk hl => ?_⟩
  · exact HH2.out
  · have n1 : k ≠ g1 := fun e => hk (by rw [e]; exact hok1.1)
    have n2 : k ≠ g2 := fun e => hk (by rw [e]; exact hok2.1)
    rw [← hw6, Below.heap_setCell w2d _ _ k n2, hq2, ← hw5, Below.heap_setCell w1d _ _ k n1, hq1]
    exact HZ3.out k hl
def setT (T : List (List Bool)) (a b : Int) (f : Bool) : Option (List (List Bool)) :=
  if 0 ≤ a ∧ a < (T.length : Int) ∧ 0 ≤ b ∧ b < (T.length : Int) ∧ b < ((T.getD a.toNat []).length : Int) ∧ a < (((T.set a.toNat ((T.getD a.toNat []).set b.toNat f)).getD b.toNat []).length : Int) then
    some ((T.set a.toNat ((T.getD a.toNat []).set b.toNat f)).set b.toNat (((T.set a.toNat ((T.getD a.toNat []).set b.toNat f)).getD b.toNat []).set a.toNat f)) else none
/-- What a call that writes the table's rows leaves. -/
structure TSt (w : World) (base : Nat) (ok : Nat → Prop) (v : Value) (w' : World) (T' : List (List Bool)) : Prop where
  row : Kd.S (Kd.slice 4 Kd.bool) 122 w' base ok v T'
  below : Below base w w'
  keep : ∀ k, ¬ ok k → k < w.heap.size → w'.heap[k]? = w.heap[k]?
section
variable {w w' w'' : World} {base : Nat} {ok : Nat → Prop} {v : Value} {T T' : List (List Bool)}
theorem TSt.trans (s : TSt w base ok v w' T) (u : TSt w' base ok v w'' T') : TSt w base ok v w'' T' :=
  ⟨u.row, s.below.trans u.below, fun k hk hl => (u.keep k hk (Nat.lt_of_lt_of_le hl s.below.size)).trans (s.keep k hk hl)⟩
theorem TSt.later (s : TSt w base ok v w' T) (hbase : base ≤ w'.heap.size) (hb : Below w'.heap.size w' w'') : TSt w base ok v w'' T :=
  ⟨Kd.S_below s.row hb, below_then s.below hbase hb, fun k hk hl => (hb.block k (Nat.lt_of_lt_of_le hl s.below.size)).trans (s.keep k hk hl)⟩
theorem TSt.foot {α : Type} {d : Kd α} {A : Option Addr} {n : Nat} {xs : List α} (s : TSt w base ok v w' T) (h : Kd.F d w (fun k => ¬ ok k) A n xs) : Kd.F d w' (fun k => ¬ ok k) A n xs := Kd.F_step h s.keep
theorem TSt.refl (h : Kd.S (Kd.slice 4 Kd.bool) 122 w base ok v T) : TSt w base ok v w T := ⟨h, Below.refl _ _, fun _ _ _ => rfl⟩
end
theorem spec_trSet.sets (A : Option Addr) (n cap : Nat) (T T' : List (List Bool)) (a b : Int) (f : Bool) (w : World) (base : Nat) (ok : Nat → Prop) (HO : Kd.S (Kd.slice 4 Kd.bool) 122 w base ok (.slice A n cap) T) (hbase : base ≤ w.heap.size) (h : setT T a b f = some T') :
    Calls Tryd.prog 98 #[.slice A n cap, .agg #[.int .i64 a, .int .i64 b], .bool f] w fun e w' => e = .returned (.tuple #[]) ∧ TSt w base ok (.slice A n cap) w' T' := by
  unfold setT at h
  by_cases c : 0 ≤ a ∧ a < (T.length : Int) ∧ 0 ≤ b ∧ b < (T.length : Int) ∧ b < ((T.getD a.toNat []).length : Int) ∧ a < (((T.set a.toNat ((T.getD a.toNat []).set b.toNat f)).getD b.toNat []).length : Int)
  · rw [if_pos c] at h
    obtain rfl := Option.some.inj h
    obtain ⟨c1, c2, c3, c4, c5, c6⟩ := c
    have hn := (Kd.S_reads' HO).1
    obtain ⟨ad, rfl⟩ : ∃ ad, A = some ad := by
      obtain ⟨g, c, e, _⟩ := Kd.R_form (Kd.S_R HO) (by omega)
      injection e with e
      exact ⟨_, e⟩
    refine (spec_trSet.calls ad n cap T a b f w base ok _ _ HO hbase c1 (by omega) c3 (by omega) rfl c5 rfl c6).mono ?_
    rintro e w' ⟨he, h1, h2, h3⟩
    exact ⟨he, h1, h2, h3⟩
  · rw [if_neg c] at h; cases h

end Go.Proofs.YtomlbbnoicpfpaaDoor.PFnExactCountNeither
