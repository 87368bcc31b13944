-- Of this session's own program wip/gen/gen.py (it drives the kit's print): contracts of the functions that the law reaches.
import Derived.Test.YtdnkipagpagfiaaDoorPFnExactDoesFitx0
import Derived.Test.YtdnkipagpagfiaaDoorPFnExactDoesFitx2
namespace Go.Proofs.YtdnkipagpagfiaaDoor.PFnExactDoesFit
open Go.RowKit Go.Proofs.YtdnkipagpagfiaaDoorW.PrintWords Go.Proofs.YtdnkipagpagfiaaDoorW.PrintLast Go.Proofs.YtdnkipagpagfiaaDoorW.PrintMore Go.Proofs.YtdnkipagpagfiaaDoor.Base
attribute [local go_sem] max2_int min2_int max_two min_two max_three min_three max_four min_four   -- for this text's walks alone
set_option linter.unusedVariables false
set_option linter.unusedSimpArgs false

/-! ### spec_paNumbers: function 71 -/
def spec_paNumbers.l0 : Nat → List Int → List (S110) → Int → Int → Option (List Int)
 | 0, _, _, _, _ => none
 | k + 1, x3, x10, x11, x12 => if x12 < x11 then (if 0 ≤ x12 then (if x12 < (x10.length : Int) then (if 0 ≤ ((rd_T110 x10 x12).f0) then (if ((rd_T110 x10 x12).f0) < (x3.length : Int) then ((some (x3.set (((rd_T110 x10 x12).f0) : Int).toNat (wrap64 ((rd x3 ((rd_T110 x10 x12).f0)) + 1)) : List Int)).bind fun y147 => (if 0 ≤ ((rd_T110 x10 x12).f1) then (if ((rd_T110 x10 x12).f1) < (x3.length : Int) then (spec_paNumbers.l0 k (y147.set (((rd_T110 x10 x12).f1) : Int).toNat (wrap64 ((rd y147 ((rd_T110 x10 x12).f1)) + 1))) x10 x11 (wrap64 (x12 + 1))) else (none)) else (none))) else (none)) else (none)) else (none)) else (none)) else (some x3)
def spec_paNumbers.f (k : Nat) (a0_0 : Int) (l0_1 : List (S110)) : Option (List Int) := if 0 ≤ a0_0 then (if (a0_0 : Int).toNat ≤ 35184372088832 then (spec_paNumbers.l0 k (List.replicate (a0_0 : Int).toNat 0) l0_1 (l0_1.length : Int) 0) else (none)) else (none)
theorem spec_paNumbers.mono_l : ∀ k, (∀ y0 y1 y2 y3, LeO (spec_paNumbers.l0 k y0 y1 y2 y3) (spec_paNumbers.l0 (k + 1) y0 y1 y2 y3))
 | 0 => fun _ _ _ _ r h => by simp [spec_paNumbers.l0] at h
 | k + 1 => by
  have ih0 := spec_paNumbers.mono_l k
  ·intro y0 y1 y2 y3
   unfold spec_paNumbers.l0
   repeat' first
   | (with_reducible exact ih0 _ _ _ _)
   | (with_reducible exact LeO.refl _)
   | (with_reducible exact LeO.none _)
   | (with_reducible refine LeO.ite ?_ ?_)
   | (with_reducible refine LeO.bind ?_ (fun _ => ?_))
   | exact ih0 _ _ _ _
   | exact LeO.none _
   | refine LeO.ite ?_ ?_
   | refine LeO.bind ?_ (fun _ => ?_)
theorem spec_paNumbers.mono : ∀ a0 a1 k, LeO (spec_paNumbers.f k a0 a1) (spec_paNumbers.f (k + 1) a0 a1) := by
 intro a0 a1 k
 have ih0 := spec_paNumbers.mono_l k
 unfold spec_paNumbers.f
 repeat' first
   | (with_reducible exact ih0 _ _ _ _)
   | (with_reducible exact LeO.refl _)
   | (with_reducible exact LeO.none _)
   | (with_reducible refine LeO.ite ?_ ?_)
   | (with_reducible refine LeO.bind ?_ (fun _ => ?_))
   | exact ih0 _ _ _ _
   | exact LeO.none _
   | refine LeO.ite ?_ ?_
   | refine LeO.bind ?_ (fun _ => ?_)
set_option maxHeartbeats 8000000 in
set_option maxRecDepth 100000 in
theorem spec_paNumbers.calls (k : Nat) (a0_0 : Int) (A0_1 : Option Addr) (c0_1 : Nat) (l0_1 : List (S110)) (r : List Int) (w : World) (hr0_1 : Kd.C k110 w A0_1 l0_1.length l0_1) (hc0_1 : l0_1.length ≤ c0_1) (h : spec_paNumbers.f k a0_0 l0_1 = some r) :
  Calls Tryd.prog 71 #[.agg #[.int .i64 a0_0, .slice A0_1 l0_1.length c0_1]] w fun e w' => ∃ v0_ : Value, e = .returned (v0_) ∧ Kd.R (Kd.int .i64) 3 w' w.heap.size (fun _ => True) v0_ r ∧ Below w.heap.size w w' := by
 have hu34 := Tryd.underlying34
 have hu110 := Tryd.underlying110
 have HR0_1 := Aside0.mk hr0_1
 have HC0_1 := Aside0.mk hc0_1
 clear hr0_1 hc0_1
 have HB := Aside0.mk (Below.refl w.heap.size w)
 have H : (if 0 ≤ a0_0 then (if (a0_0 : Int).toNat ≤ 35184372088832 then (spec_paNumbers.l0 k (List.replicate (a0_0 : Int).toNat 0) l0_1 (l0_1.length : Int) 0) else (none)) else (none)) = some r := h
 clear h
 by_cases c2 : 0 ≤ a0_0
 ·rw [if_pos c2] at H
  have c2b0 := eq_true c2
  have c2b1 : decide (0 ≤ a0_0) = true := decide_eq_true c2
  clear c2
  by_cases c3 : (a0_0 : Int).toNat ≤ 35184372088832
  ·rw [if_pos c3] at H
   have c3b0 := eq_true c3
   have c3b1 : decide ((a0_0 : Int).toNat ≤ 35184372088832) = true := decide_eq_true c3
   clear c3
   obtain ⟨y141, hy141⟩ : ∃ y_ : List Int, y_ = (List.replicate (a0_0 : Int).toNat 0) := ⟨_, rfl⟩
   replace H : (spec_paNumbers.l0 k y141 l0_1 (l0_1.length : Int) 0) = some r := by first | (rw [hy141]; with_reducible exact H) | (have H2_ := (Option.bind_some _ _).symm.trans H; rw [hy141]; with_reducible exact H2_) | (have H2_ := (Option.bind_some _ _).symm.trans H; with_reducible exact H2_) | with_reducible exact H | (rw [hy141]; exact H) | exact H
   have Ny141 := Aside0.mk hy141
   clear hy141
   have H' := Aside0.mk H
   clear H
   go_enter Tryd.func71, Tryd.ntmps71
   go_wp2_with (first | ((with_reducible refine gate_dst (N := 1) rfl ?_); refine box_event ?hg (N := 1) ?hd (cs := #[.int .i64 a0_0, .slice A0_1 l0_1.length c0_1]) (t := 34) ?hr ?_; (case hd => rfl); (case hg => rfl); (case hr => first | (go_simp; done) | (go_simp; rfl)); intro gb140 hg w4 hbox hb; have n0_ := hS HB hb; have n1_ := Aside0.mk (hbox); have n2_ := gS HB hg; have n3_ := gS HB hg; clear HB; have HB := n0_; have BK140 := n1_; have GW140 := n2_; have GE140 := n3_; clear n0_ n1_ n2_ n3_; clear hb hbox hg; have hcz5_0 : w4.cell? ⟨gb140, 0, none⟩ = some (.int .i64 a0_0) := (blk_cell BK140.out 0).trans rfl; have hcz5_1 : w4.cell? ⟨gb140, 1, none⟩ = some (.slice A0_1 l0_1.length c0_1) := (blk_cell BK140.out 1).trans rfl; have hfz5_0 := blk_frozen BK140.out 0; have hfz5_1 := blk_frozen BK140.out 1) | ((with_reducible refine gate_dst (N := 8) rfl ?_); refine Kd.R_make (Kd.int .i64) _ 3 rfl (N := 8) rfl 56 _ _ rfl a0_0 rfl rfl Tryd.underlying56 (.int .i64 0) 8 info3 rfl (by decide) (by omega) 0 (ok := fun _ => True) (okp := fun _ => True) rfl (fun _ hk => hk) trivial (of_decide_eq_true (by first | (with_reducible assumption) | assumption)) (Nat.le_trans (Nat.mul_le_mul_right _ (of_decide_eq_true (by first | (with_reducible assumption) | assumption) : a0_0.toNat ≤ 35184372088832)) (by omega)) (Below.refl _ _) (Nat.le_refl _) ?_; intro v142 w6 ho7 hb hg_ hnew_; clear hg_ hnew_; (first | rw [← Ny141.out] at ho7 | (simp only [Int.reduceToNat] at ho7; rw [← Ny141.out] at ho7)); have n0_ := Aside0.mk (Kd.R_lower ho7 (below_size hB)); have n1_ := bS BK140 hb; have n2_ := hS HB hb; clear BK140; clear HB; have HO143 := n0_; have BK140 := n1_; have HB := n2_; clear n0_ n1_ n2_; clear hb ho7; have hcz8_0 : w6.cell? ⟨gb140, 0, none⟩ = some (.int .i64 a0_0) := (blk_cell BK140.out 0).trans rfl; have hcz8_1 : w6.cell? ⟨gb140, 1, none⟩ = some (.slice A0_1 l0_1.length c0_1) := (blk_cell BK140.out 1).trans rfl; have hfz8_0 := blk_frozen BK140.out 0; have hfz8_1 := blk_frozen BK140.out 1))
   go_loopg [12] k (fun kq v12 w' => ∃ (x3_1 : List Int) (x12_1 : Int), v12 = .int .i64 x12_1 ∧ Aside0 (spec_paNumbers.l0 kq x3_1 l0_1 (l0_1.length : Int) x12_1 = some r) ∧ Aside0 (kq ≤ k) ∧ Aside0 (Kd.R (Kd.int .i64) 3 w' w.heap.size (fun _ => True) v142 x3_1) ∧ Aside0 (w'.heap[gb140]? = some (.cells #[.int .i64 a0_0, (.slice A0_1 l0_1.length c0_1)] 34 (0, 0))) ∧ Aside0 (Below w.heap.size w w'))
   case atStart => exact ⟨(y141), (0), (by first | rfl | (simp; done) | (simp [*]; done)), H', ⟨Nat.le_refl _⟩, ⟨by (with_reducible repeat (first | apply Kd.R_alloc | apply Kd.R_drewN | apply Kd.R_drew)); exact HO143.out⟩, ⟨bK⟩, ⟨hB⟩⟩
   case round =>
    clear H'
    try clear c2
    try clear c2b0
    try clear c2b1
    try clear p2
    try clear c3
    try clear c3b0
    try clear c3b1
    try clear c7
    try clear hcz5_0
    try clear hcz5_1
    try clear hcz8_0
    try clear hcz8_1
    try clear hfz5_0
    try clear hfz5_1
    try clear hfz8_0
    try clear hfz8_1
    obtain ⟨x3_1, x12_1, rfl, HA, HK1, HO_3, BK140, HB⟩ := hrel
    cases gk with
    | zero => exact absurd HA.out (by simp [spec_paNumbers.l0])
    | succ k1 =>
     have H := HA.out
     clear HA
     simp only [spec_paNumbers.l0] at H
     by_cases c9 : x12_1 < (l0_1.length : Int)
     ·rw [if_pos c9] at H
      have c9b0 : decide (x12_1 < (l0_1.length : Int)) = true := decide_eq_true c9
      clear c9
      by_cases c10 : 0 ≤ x12_1
      ·rw [if_pos c10] at H
       have c10b0 : decide (0 ≤ x12_1) = true := decide_eq_true c10
       clear c10
       by_cases c11 : x12_1 < (l0_1.length : Int)
       ·rw [if_pos c11] at H
        have c11b0 : decide (x12_1 < (l0_1.length : Int)) = true := decide_eq_true c11
        clear c11
        by_cases c12 : 0 ≤ ((rd_T110 l0_1 x12_1).f0)
        ·rw [if_pos c12] at H
         have c12b0 : decide (0 ≤ ((rd_T110 l0_1 x12_1).f0)) = true := decide_eq_true c12
         clear c12
         by_cases c13 : ((rd_T110 l0_1 x12_1).f0) < (x3_1.length : Int)
         ·rw [if_pos c13] at H
          have c13b0 : decide (((rd_T110 l0_1 x12_1).f0) < (x3_1.length : Int)) = true := decide_eq_true c13
          clear c13
          obtain ⟨y147, hy147⟩ : ∃ y_ : List Int, y_ = (x3_1.set (((rd_T110 l0_1 x12_1).f0) : Int).toNat (wrap64 ((rd x3_1 ((rd_T110 l0_1 x12_1).f0)) + 1))) := ⟨_, rfl⟩
          replace H : (if 0 ≤ ((rd_T110 l0_1 x12_1).f1) then (if ((rd_T110 l0_1 x12_1).f1) < (x3_1.length : Int) then (spec_paNumbers.l0 k1 (y147.set (((rd_T110 l0_1 x12_1).f1) : Int).toNat (wrap64 ((rd y147 ((rd_T110 l0_1 x12_1).f1)) + 1))) l0_1 (l0_1.length : Int) (wrap64 (x12_1 + 1))) else (none)) else (none)) = some r := by first | (rw [hy147]; with_reducible exact H) | (have H2_ := (Option.bind_some _ _).symm.trans H; rw [hy147]; with_reducible exact H2_) | (have H2_ := (Option.bind_some _ _).symm.trans H; with_reducible exact H2_) | with_reducible exact H | (rw [hy147]; exact H) | exact H
          have Ny147 := Aside0.mk hy147
          clear hy147
          by_cases c15 : 0 ≤ ((rd_T110 l0_1 x12_1).f1)
          ·rw [if_pos c15] at H
           have c15b0 : decide (0 ≤ ((rd_T110 l0_1 x12_1).f1)) = true := decide_eq_true c15
           clear c15
           by_cases c16 : ((rd_T110 l0_1 x12_1).f1) < (x3_1.length : Int)
           ·rw [if_pos c16] at H
            have c16b0 : decide (((rd_T110 l0_1 x12_1).f1) < (x3_1.length : Int)) = true := decide_eq_true c16
            clear c16
            obtain ⟨y149, hy149⟩ : ∃ y_ : List Int, y_ = (y147.set (((rd_T110 l0_1 x12_1).f1) : Int).toNat (wrap64 ((rd y147 ((rd_T110 l0_1 x12_1).f1)) + 1))) := ⟨_, rfl⟩
            replace H : (spec_paNumbers.l0 k1 y149 l0_1 (l0_1.length : Int) (wrap64 (x12_1 + 1))) = some r := by first | (rw [hy149]; with_reducible exact H) | (have H2_ := (Option.bind_some _ _).symm.trans H; rw [hy149]; with_reducible exact H2_) | (have H2_ := (Option.bind_some _ _).symm.trans H; with_reducible exact H2_) | with_reducible exact H | (rw [hy149]; exact H) | exact H
            have Ny149 := Aside0.mk hy149
            clear hy149
            have H' := Aside0.mk H
            clear H
            have p144 : 0 ≤ (x12_1 : Int) := of_decide_eq_true (by first | (with_reducible assumption) | assumption)
            have q144 : x12_1 < (l0_1.length : Int) := of_decide_eq_true (by first | (with_reducible assumption) | assumption)
            obtain ⟨ad144, e144, hx144_0, hx144_1⟩ := at_T110 HR0_1.out x12_1 p144 q144
            cases e144
            replace hx144_0 := (HB.out.cell (World.block_lt_of_cell? w _ hx144_0)).trans hx144_0
            replace hx144_1 := (HB.out.cell (World.block_lt_of_cell? w _ hx144_1)).trans hx144_1
            replace p144 := eq_true p144
            replace q144 := eq_true q144
            go_wp2_with (first | ((with_reducible refine gate_dst (N := 5) rfl ?_); refine box_event ?hg (N := 5) ?hd (cs := #[.int .i64 0, .int .i64 0]) (t := 110) ?hr ?_; (case hd => rfl); (case hg => rfl); (case hr => first | (go_simp; done) | (go_simp; rfl)); intro gb145 hg w18 hbox hb; have n0_ := Aside0.mk (Kd.R_below (by (with_reducible repeat (first | apply Kd.R_alloc | apply Kd.R_drewN | apply Kd.R_drew)); exact HO_3.out) hb); have n1_ := bS BK140 hb; have n2_ := hS HB hb; have n3_ := Aside0.mk (hbox); have n4_ := gS HB hg; have n5_ := gS HB hg; have n6_ := nL BK140 hg; have n7_ := nG BK140 hg; clear HO_3; clear BK140; clear HB; have HO_3 := n0_; have BK140 := n1_; have HB := n2_; have BK145 := n3_; have GW145 := n4_; have GE145 := n5_; have NB140_145 := n6_; have NB145_140 := n7_; clear n0_ n1_ n2_ n3_ n4_ n5_ n6_ n7_; clear hb hbox hg; have hnb19 := NB145_140.out; have hnc19 := NB140_145.out; have hcz20_0 : w18.cell? ⟨gb145, 0, none⟩ = some (.int .i64 0) := (blk_cell BK145.out 0).trans rfl; have hcz20_1 : w18.cell? ⟨gb145, 1, none⟩ = some (.int .i64 0) := (blk_cell BK145.out 1).trans rfl; have hfz20_0 := blk_frozen BK145.out 0; have hfz20_1 := blk_frozen BK145.out 1) | ((with_reducible refine gate_store (t := 110) (p := 5) rfl ?_); refine store_event (t := 110) (p := 5) (v := ?vo_w21) (w1 := ((w18.setCell ⟨gb145, 0, none⟩ (.int .i64 ((rd_T110 l0_1 x12_1).f0))).setCell ⟨gb145, 1, none⟩ (.int .i64 ((rd_T110 l0_1 x12_1).f1)))) ?hg ?ho ?hn ?hr ?_; (case ho => rfl); (case hg => rfl); (case hn => rfl); (case hr => first | (go_simp; done) | (go_simp; rfl)); intro w21 hw; have n0_ : Aside0 (Kd.R (Kd.int .i64) 3 w21 w.heap.size (fun _ => True) v142 x3_1) := ⟨(by rw [hw]; exact (by (with_reducible repeat (first | apply Kd.R_alloc | apply Kd.R_drewN | apply Kd.R_drew)); exact Kd.R_mono (Kd.R_far (p := ⟨gb145, 1, none⟩) (Kd.R_far (p := ⟨gb145, 0, none⟩) (Kd.R_types HO_3.out BK145.out (by decide)) (fun _ hk => hk.2) (.int .i64 ((rd_T110 l0_1 x12_1).f0))) (fun _ hk => hk.2) (.int .i64 ((rd_T110 l0_1 x12_1).f1))) (fun _ hk => trivial)))⟩; have n1_ : Aside0 (w21.heap[gb140]? = some (.cells #[.int .i64 a0_0, .slice (some ad144) l0_1.length c0_1] 34 (0, 0))) := ⟨(by rw [hw]; exact (by (with_reducible repeat (first | refine blk_drewN ?_ _ | refine blk_drew ?_ | refine blk_alloc ?_ _)); refine blk_far ?_ NB140_145.out _; (with_reducible repeat (first | refine blk_drewN ?_ _ | refine blk_drew ?_ | refine blk_alloc ?_ _)); refine blk_far ?_ NB140_145.out _; (with_reducible repeat (first | refine blk_drewN ?_ _ | refine blk_drew ?_ | refine blk_alloc ?_ _)); exact BK140.out))⟩; have n2_ : Aside0 (w21.heap[gb145]? = some (.cells #[.int .i64 ((rd_T110 l0_1 x12_1).f0), .int .i64 ((rd_T110 l0_1 x12_1).f1)] 110 (0, 0))) := ⟨(by rw [hw]; exact (by (with_reducible repeat (first | refine blk_drewN ?_ _ | refine blk_drew ?_ | refine blk_alloc ?_ _)); refine blk_put (cs := #[.int .i64 ((rd_T110 l0_1 x12_1).f0), .int .i64 0]) ?_ 1 _ rfl; (with_reducible repeat (first | refine blk_drewN ?_ _ | refine blk_drew ?_ | refine blk_alloc ?_ _)); refine blk_put (cs := #[.int .i64 0, .int .i64 0]) ?_ 0 _ rfl; (with_reducible repeat (first | refine blk_drewN ?_ _ | refine blk_drew ?_ | refine blk_alloc ?_ _)); exact BK145.out))⟩; have n3_ : Aside0 (Below w.heap.size w w21) := ⟨(by rw [hw]; exact hB)⟩; clear hw; clear HO_3; clear BK140; clear BK145; clear HB; have HO_3 := n0_; have BK140 := n1_; have BK145 := n2_; have HB := n3_; clear n0_ n1_ n2_ n3_; have hcz22_0 : w21.cell? ⟨gb145, 0, none⟩ = some (.int .i64 ((rd_T110 l0_1 x12_1).f0)) := (blk_cell BK145.out 0).trans rfl; have hcz22_1 : w21.cell? ⟨gb145, 1, none⟩ = some (.int .i64 ((rd_T110 l0_1 x12_1).f1)) := (blk_cell BK145.out 1).trans rfl; have hfz22_0 := blk_frozen BK145.out 0; have hfz22_1 := blk_frozen BK145.out 1; obtain ⟨Ao23, co23, eo23⟩ := Kd.R_slice HO_3.out; subst eo23; have p146 : 0 ≤ (((rd_T110 l0_1 x12_1).f0) : Int) := of_decide_eq_true (by first | (with_reducible assumption) | assumption); have q146 : ((rd_T110 l0_1 x12_1).f0) < (x3_1.length : Int) := of_decide_eq_true (by first | (with_reducible assumption) | assumption); obtain ⟨ad146, e146, hx146_0⟩ := Kd.at_int (Kd.R_reads' HO_3.out).2.2 ((rd_T110 l0_1 x12_1).f0) p146 q146; cases e146; replace p146 := eq_true p146; replace q146 := eq_true q146; have p14 : 0 ≤ (((rd_T110 l0_1 x12_1).f0) : Int) := of_decide_eq_true (by first | (with_reducible assumption) | assumption); have q14 : (((rd_T110 l0_1 x12_1).f0) : Int) < ((x3_1.length : Int) : Int) := of_decide_eq_true (by first | (with_reducible assumption) | assumption); obtain ⟨go14, co14, eo14, gb14, gl14, cl14, HG14⟩ := Kd.R_form HO_3.out (by omega); (first | cases eo14 | (injection eo14 with ea_ en_ ec_; (first | subst ea_ | (injection ea_ with ea_; subst ea_)); subst ec_; clear en_)); have GB14 := Aside0.mk gb14; have GG14 := Aside0.mk HG14; clear gb14 gl14 HG14; (first | simp only [add_plain] at hx146_0 | skip); obtain ⟨hx14_0, hf14_0⟩ := Kd.R_celln 0 HO_3.out (((rd_T110 l0_1 x12_1).f0) : Int) p14 q14; replace p14 := eq_true p14; replace q14 := eq_true q14; obtain ⟨hy24_, hz24_⟩ := Kd.R_celln 0 HO_3.out (((rd_T110 l0_1 x12_1).f0) : Int) (of_decide_eq_true (by first | (with_reducible assumption) | assumption)) (of_decide_eq_true (by first | (with_reducible assumption) | assumption)); have HP24 := Kd.R_putg HO_3.out (((rd_T110 l0_1 x12_1).f0) : Int) (wrap64 ((rd x3_1 ((rd_T110 l0_1 x12_1).f0)) + 1))) | ((with_reducible refine gate_store (t := 3) (p := 22) rfl ?_); refine store_event (t := 3) (p := 22) (v := ?vo_w25) (w1 := (w21.setCell ⟨go14, (((rd_T110 l0_1 x12_1).f0) : Int).toNat, none⟩ (.int .i64 (wrap64 ((rd x3_1 ((rd_T110 l0_1 x12_1).f0)) + 1))))) ?hg ?ho ?hn ?hr ?_; (case ho => rfl); (case hg => rfl); (case hn => rfl); (case hr => first | (go_simp; done) | (go_simp; rfl)); intro w25 hw; have hg : w21.grownBy w25 (some go14) := (by rw [hw]; exact HP24.2); have hp_ : Kd.R (Kd.int .i64) 3 w25 w.heap.size (fun _ => True) (.slice (some ⟨go14, 0, none⟩) x3_1.length co23) y147 := (by rw [hw, Ny147.out]; exact HP24.1); clear HP24; have n0_ := Aside0.mk (hp_); have n1_ := Aside0.mk (blk_grown (g := gb140) (o := .cells #[.int .i64 a0_0, .slice (some ad144) l0_1.length c0_1] 34 (0, 0)) bK hg (Kd.R_ne HO_3.out BK140.out (by decide))); have n2_ := Aside0.mk (blk_grown (g := gb145) (o := .cells #[.int .i64 ((rd_T110 l0_1 x12_1).f0), .int .i64 ((rd_T110 l0_1 x12_1).f1)] 110 (0, 0)) bK hg (Kd.R_ne HO_3.out BK145.out (by decide))); have n3_ := Aside0.mk ((by rw [hw]; exact below_set (HB.out) GB14.out : Below w.heap.size w w25)); clear HO_3; clear BK140; clear BK145; clear HB; have HO_3 := n0_; have BK140 := n1_; have BK145 := n2_; have HB := n3_; clear n0_ n1_ n2_ n3_; clear hg hw hp_; have hcz26_0 : w25.cell? ⟨gb145, 0, none⟩ = some (.int .i64 ((rd_T110 l0_1 x12_1).f0)) := (blk_cell BK145.out 0).trans rfl; have hcz26_1 : w25.cell? ⟨gb145, 1, none⟩ = some (.int .i64 ((rd_T110 l0_1 x12_1).f1)) := (blk_cell BK145.out 1).trans rfl; have hfz26_0 := blk_frozen BK145.out 0; have hfz26_1 := blk_frozen BK145.out 1; have p148 : 0 ≤ (((rd_T110 l0_1 x12_1).f1) : Int) := of_decide_eq_true (by first | (with_reducible assumption) | assumption); have q148 : ((rd_T110 l0_1 x12_1).f1) < (y147.length : Int) := (by have h_ : (((rd_T110 l0_1 x12_1).f1) : Int) < ((x3_1.length : Int) : Int) := of_decide_eq_true (by first | (with_reducible assumption) | assumption); first | (have e_ := (Kd.R_reads' HO_3.out).1; omega) | simpa only [Ny147.out, List.length_set] using h_); have ql148 : ((((rd_T110 l0_1 x12_1).f1) : Int) < ((x3_1.length : Int) : Int)) = True := eq_true (of_decide_eq_true (by first | (with_reducible assumption) | assumption)); obtain ⟨ad148, e148, hx148_0⟩ := Kd.at_int (Kd.R_reads' HO_3.out).2.2 ((rd_T110 l0_1 x12_1).f1) p148 q148; obtain rfl : (⟨go14, 0, none⟩ : Addr) = ad148 := (by injection e148); (first | simp only [add_plain] at hx148_0 | simp only [add_at] at hx148_0 | simp only [Addr.add, Nat.zero_add] at hx148_0 | skip); replace p148 := eq_true p148; replace q148 := eq_true q148; have p17 : 0 ≤ (((rd_T110 l0_1 x12_1).f1) : Int) := of_decide_eq_true (by first | (with_reducible assumption) | assumption); have q17 : (((rd_T110 l0_1 x12_1).f1) : Int) < ((x3_1.length : Int) : Int) := of_decide_eq_true (by first | (with_reducible assumption) | assumption); obtain ⟨hx17_0, hf17_0⟩ := Kd.R_celln 0 HO_3.out (((rd_T110 l0_1 x12_1).f1) : Int) p17 q17; replace p17 := eq_true p17; replace q17 := eq_true q17; obtain ⟨hy27_, hz27_⟩ := Kd.R_celln 0 HO_3.out (((rd_T110 l0_1 x12_1).f1) : Int) (of_decide_eq_true (by first | (with_reducible assumption) | assumption)) (of_decide_eq_true (by first | (with_reducible assumption) | assumption)); have HP27 := Kd.R_putg HO_3.out (((rd_T110 l0_1 x12_1).f1) : Int) (wrap64 ((rd y147 ((rd_T110 l0_1 x12_1).f1)) + 1))) | ((with_reducible refine gate_store (t := 3) (p := 29) rfl ?_); refine store_event (t := 3) (p := 29) (v := ?vo_w28) (w1 := (w25.setCell ⟨go14, (((rd_T110 l0_1 x12_1).f1) : Int).toNat, none⟩ (.int .i64 (wrap64 ((rd y147 ((rd_T110 l0_1 x12_1).f1)) + 1))))) ?hg ?ho ?hn ?hr ?_; (case ho => rfl); (case hg => rfl); (case hn => rfl); (case hr => first | (go_simp; done) | (go_simp; rfl)); intro w28 hw; have hg : w25.grownBy w28 (some go14) := (by rw [hw]; exact HP27.2); have hp_ : Kd.R (Kd.int .i64) 3 w28 w.heap.size (fun _ => True) (.slice (some ⟨go14, 0, none⟩) x3_1.length co23) y149 := (by rw [hw, Ny149.out]; exact HP27.1); clear HP27; have n0_ := Aside0.mk (hp_); have n1_ := Aside0.mk (blk_grown (g := gb140) (o := .cells #[.int .i64 a0_0, .slice (some ad144) l0_1.length c0_1] 34 (0, 0)) bK hg (Kd.R_ne HO_3.out BK140.out (by decide))); have n2_ := Aside0.mk (blk_grown (g := gb145) (o := .cells #[.int .i64 ((rd_T110 l0_1 x12_1).f0), .int .i64 ((rd_T110 l0_1 x12_1).f1)] 110 (0, 0)) bK hg (Kd.R_ne HO_3.out BK145.out (by decide))); have n3_ := Aside0.mk ((by rw [hw]; exact below_set (HB.out) GB14.out : Below w.heap.size w w28)); clear HO_3; clear BK140; clear BK145; clear HB; have HO_3 := n0_; have BK140 := n1_; have BK145 := n2_; have HB := n3_; clear n0_ n1_ n2_ n3_; clear hg hw hp_))
            go_roundg k1
            case measure => have := HK1.out; omega
            case rel => exact ⟨(y149), (wrap64 (x12_1 + 1)), (by first | rfl | (simp; done) | (simp [*]; done)), H', ⟨by have := HK1.out; omega⟩, ⟨by (with_reducible repeat (first | apply Kd.R_alloc | apply Kd.R_drewN | apply Kd.R_drew)); exact HO_3.out⟩, ⟨bK⟩, ⟨hB⟩⟩
           ·rw [if_neg c16] at H
            exact absurd H (by simp)
          ·rw [if_neg c15] at H
           exact absurd H (by simp)
         ·rw [if_neg c13] at H
          exact absurd H (by simp)
        ·rw [if_neg c12] at H
         exact absurd H (by simp)
       ·rw [if_neg c11] at H
        exact absurd H (by simp)
      ·rw [if_neg c10] at H
       exact absurd H (by simp)
     ·rw [if_neg c9] at H
      have c9b0 : decide (x12_1 < (l0_1.length : Int)) = false := decide_eq_false c9
      clear c9
      obtain rfl := Option.some.inj H
      go_wp2
      go_ret
      exact ⟨_, by first | rfl | (simp [errW_none, errW_some] <;> rfl) | (simp [*, errW_none, errW_some] <;> rfl), by (with_reducible repeat (first | apply Kd.R_alloc | apply Kd.R_drewN | apply Kd.R_drew)); exact HO_3.out, hB⟩
  ·rw [if_neg c3] at H
   exact absurd H (by simp)
 ·rw [if_neg c2] at H
  exact absurd H (by simp)

/-! ### spec_l1Own: function 139 -/
def spec_l1Own.f (l0 : List Int) : Option (List Int) := (some (([] : List Int) : List Int)).bind fun y150 => (if y150.length + l0.length < 17592186044416 then (some (y150 ++ l0)) else (none))
set_option maxHeartbeats 8000000 in
set_option maxRecDepth 100000 in
theorem spec_l1Own.calls (A0 : Option Addr) (c0 : Nat) (l0 : List Int) (r : List Int) (w : World) (hr0 : Kd.C (Kd.int .i64) w A0 l0.length l0) (hc0 : l0.length ≤ c0) (h : spec_l1Own.f l0 = some r) :
  Calls Tryd.prog 139 #[.slice A0 l0.length c0] w fun e w' => ∃ v0_ : Value, e = .returned (v0_) ∧ Kd.R (Kd.int .i64) 3 w' w.heap.size (fun _ => True) v0_ r ∧ Below w.heap.size w w' := by
 have HR0 := Aside0.mk hr0
 have HC0 := Aside0.mk hc0
 clear hr0 hc0
 have HB := Aside0.mk (Below.refl w.heap.size w)
 have H : ((some (([] : List Int) : List Int)).bind fun y150 => (if y150.length + l0.length < 17592186044416 then (some (y150 ++ l0)) else (none))) = some r := h
 clear h
 obtain ⟨y150, hy150⟩ : ∃ y_ : List Int, y_ = (([] : List Int)) := ⟨_, rfl⟩
 replace H : (if y150.length + l0.length < 17592186044416 then (some (y150 ++ l0)) else (none)) = some r := by first | (rw [hy150]; with_reducible exact H) | (have H2_ := (Option.bind_some _ _).symm.trans H; rw [hy150]; with_reducible exact H2_) | (have H2_ := (Option.bind_some _ _).symm.trans H; with_reducible exact H2_) | with_reducible exact H | (rw [hy150]; exact H) | exact H
 have Ny150 := Aside0.mk hy150
 clear hy150
 by_cases c2 : y150.length + l0.length < 17592186044416
 ·rw [if_pos c2] at H
  have LMc2 := Aside0.mk c2
  clear c2
  obtain ⟨y153, hy153⟩ : ∃ y_ : List Int, y_ = (y150 ++ l0) := ⟨_, rfl⟩
  replace H : (some y153) = some r := by first | (rw [hy153]; with_reducible exact H) | (have H2_ := (Option.bind_some _ _).symm.trans H; rw [hy153]; with_reducible exact H2_) | (have H2_ := (Option.bind_some _ _).symm.trans H; with_reducible exact H2_) | with_reducible exact H | (rw [hy153]; exact H) | exact H
  have Ny153 := Aside0.mk hy153
  clear hy153
  obtain rfl := Option.some.inj H
  go_enter Tryd.func139, Tryd.ntmps139
  go_wp2_with (first | ((with_reducible refine gate_dst (N := 3) rfl ?_); refine Kd.R_lit (Kd.int .i64) _ 3 ?hg (N := 3) ?hd (xs := ([] : List Int)) (inner := []) (ok := fun _ => True) (okp := fun _ => True) ?hr ?hp (fun _ hk => hk) trivial (Below.refl _ _) (Nat.le_refl _) (by simp) ?_; (case hd => rfl); (case hg => rfl); (case hr => first | (go_simp; done) | (go_simp; rfl)); (case hp => exact (Reps.none _ _)); intro v151 w3 ho4 hb hg_ hnew_; clear hg_ hnew_; (first | rw [← Ny150.out] at ho4 | (simp only [Int.reduceToNat] at ho4; rw [← Ny150.out] at ho4)); have n0_ := Aside0.mk (Kd.R_lower ho4 (below_size hB)); have n1_ := hS HB hb; clear HB; have HO152 := n0_; have HB := n1_; clear n0_ n1_; clear hb ho4) | ((with_reducible refine gate_builtin (b := .append) (xs := #[.tmp 3, .tmp 4]) rfl ?_); at_builtin; refine Kd.R_append_rows (Kd.int .i64) (w0 := w) w.heap.size rfl (.tmp 3) (.tmp 4) 56 3 (.int .i64 0) 8 rfl Tryd.underlying56 info3 rfl (by decide) (by omega) v151 y150 l0 _ _ _ (fun _ => True) (fun _ => False) rfl rfl ?aO ?aR (fun _ _ h => h) (fun _ h => h.elim) ?aF ?aB ?aS ?aL ?_; (case aR => repeat (first | exact (Kd.C_below HR0.out HB.out) | (with_reducible refine Kd.C_alloc ?_ _) | (with_reducible refine Kd.C_drewN ?_ _) | (with_reducible refine Kd.C_drew ?_))); (case aB => exact hB); (case aF => exact (fun _ _ => trivial)); (case aO => exact (by (with_reducible repeat (first | apply Kd.R_alloc | apply Kd.R_drewN | apply Kd.R_drew)); exact HO152.out)); (case aS => exact (below_size hB)); (case aL => have := LMc2.out; omega); intro v154 w5 ho hb hg hat; rw [← Ny153.out] at ho; have n0_ := Aside0.mk (hb); have n1_ := Aside0.mk (ho); clear HB; clear HO152; have HB := n0_; have HO155 := n1_; clear n0_ n1_; clear ho hb hg hat))
  go_ret
  exact ⟨_, by first | rfl | (simp [errW_none, errW_some] <;> rfl) | (simp [*, errW_none, errW_some] <;> rfl), by (with_reducible repeat (first | apply Kd.R_alloc | apply Kd.R_drewN | apply Kd.R_drew)); exact HO155.out, hB⟩
 ·rw [if_neg c2] at H
  exact absurd H (by simp)

/-! ### spec_grJoins: function 140 -/
def spec_grJoins.l0 : Nat → List (List Bool) → Int → List Int → Int → Int → Option (Bool)
 | 0, _, _, _, _, _ => none
 | k + 1, x0, x2, x9, x10, x11 => if x11 < x10 then (if 0 ≤ x11 then (if x11 < (x9.length : Int) then (if 0 ≤ x2 then (if x2 < (x0.length : Int) then (if 0 ≤ (rd x9 x11) then (if (rd x9 x11) < ((rd_L4 x0 x2).length : Int) then (if (rdOf false (rd_L4 x0 x2) (rd x9 x11) = true) then (spec_grJoins.l0 k x0 x2 x9 x10 (wrap64 (x11 + 1))) else (some false)) else (none)) else (none)) else (none)) else (none)) else (none)) else (none)) else (some true)
def spec_grJoins.f (k : Nat) (l0 : List (List Bool)) (l1 : List Int) (a2 : Int) : Option (Bool) := spec_grJoins.l0 k l0 a2 l1 (l1.length : Int) 0
theorem spec_grJoins.mono_l : ∀ k, (∀ y0 y1 y2 y3 y4, LeO (spec_grJoins.l0 k y0 y1 y2 y3 y4) (spec_grJoins.l0 (k + 1) y0 y1 y2 y3 y4))
 | 0 => fun _ _ _ _ _ r h => by simp [spec_grJoins.l0] at h
 | k + 1 => by
  have ih0 := spec_grJoins.mono_l k
  ·intro y0 y1 y2 y3 y4
   unfold spec_grJoins.l0
   repeat' first
   | (with_reducible exact ih0 _ _ _ _ _)
   | (with_reducible exact LeO.refl _)
   | (with_reducible exact LeO.none _)
   | (with_reducible refine LeO.ite ?_ ?_)
   | (with_reducible refine LeO.bind ?_ (fun _ => ?_))
   | exact ih0 _ _ _ _ _
   | exact LeO.none _
   | refine LeO.ite ?_ ?_
   | refine LeO.bind ?_ (fun _ => ?_)
theorem spec_grJoins.mono : ∀ a0 a1 a2 k, LeO (spec_grJoins.f k a0 a1 a2) (spec_grJoins.f (k + 1) a0 a1 a2) := by
 intro a0 a1 a2 k
 have ih0 := spec_grJoins.mono_l k
 unfold spec_grJoins.f
 repeat' first
   | (with_reducible exact ih0 _ _ _ _ _)
   | (with_reducible exact LeO.refl _)
   | (with_reducible exact LeO.none _)
   | (with_reducible refine LeO.ite ?_ ?_)
   | (with_reducible refine LeO.bind ?_ (fun _ => ?_))
   | exact ih0 _ _ _ _ _
   | exact LeO.none _
   | refine LeO.ite ?_ ?_
   | refine LeO.bind ?_ (fun _ => ?_)
set_option maxHeartbeats 8000000 in
set_option maxRecDepth 100000 in
theorem spec_grJoins.calls (k : Nat) (A0 : Option Addr) (c0 : Nat) (l0 : List (List Bool)) (A1 : Option Addr) (c1 : Nat) (l1 : List Int) (a2 : Int) (r : Bool) (w : World) (hr0 : Kd.C (Kd.slice 4 Kd.bool) w A0 l0.length l0) (hc0 : l0.length ≤ c0) (hr1 : Kd.C (Kd.int .i64) w A1 l1.length l1) (hc1 : l1.length ≤ c1) (h : spec_grJoins.f k l0 l1 a2 = some r) :
  Calls Tryd.prog 140 #[.slice A0 l0.length c0, .slice A1 l1.length c1, .int .i64 a2] w fun e w' => e = .returned (.bool r) ∧ Drawn0 w w' := by
 have HR0 := Aside0.mk hr0
 have HC0 := Aside0.mk hc0
 clear hr0 hc0
 have HR1 := Aside0.mk hr1
 have HC1 := Aside0.mk hc1
 clear hr1 hc1
 have H : (spec_grJoins.l0 k l0 a2 l1 (l1.length : Int) 0) = some r := h
 clear h
 have H' := Aside0.mk H
 clear H
 go_enter Tryd.func140, Tryd.ntmps140
 go_wp2
 go_loopg [11] k (fun kq v11 w' => ∃ (x11_1 : Int), v11 = .int .i64 x11_1 ∧ Aside0 (spec_grJoins.l0 kq l0 a2 l1 (l1.length : Int) x11_1 = some r) ∧ Aside0 (kq ≤ k) ∧ Drawn0 w w')
 case atStart => exact ⟨(0), (by first | rfl | (simp; done) | (simp [*]; done)), H', ⟨Nat.le_refl _⟩, by repeat (first | exact Drawn0.refl _ | apply Drawn0.step)⟩
 case round =>
  clear H'
  try clear c1
  try clear p2
  obtain ⟨x11_1, rfl, HA, HK1, ⟨m1, rfl⟩⟩ := hrel
  cases gk with
  | zero => exact absurd HA.out (by simp [spec_grJoins.l0])
  | succ k1 =>
   have H := HA.out
   clear HA
   simp only [spec_grJoins.l0] at H
   by_cases c4 : x11_1 < (l1.length : Int)
   ·rw [if_pos c4] at H
    have c4b0 : decide (x11_1 < (l1.length : Int)) = true := decide_eq_true c4
    clear c4
    by_cases c5 : 0 ≤ x11_1
    ·rw [if_pos c5] at H
     have c5b0 : decide (0 ≤ x11_1) = true := decide_eq_true c5
     clear c5
     by_cases c6 : x11_1 < (l1.length : Int)
     ·rw [if_pos c6] at H
      have c6b0 : decide (x11_1 < (l1.length : Int)) = true := decide_eq_true c6
      clear c6
      by_cases c7 : 0 ≤ a2
      ·rw [if_pos c7] at H
       have c7b0 : decide (0 ≤ a2) = true := decide_eq_true c7
       clear c7
       by_cases c8 : a2 < (l0.length : Int)
       ·rw [if_pos c8] at H
        have c8b0 : decide (a2 < (l0.length : Int)) = true := decide_eq_true c8
        clear c8
        by_cases c9 : 0 ≤ (rd l1 x11_1)
        ·rw [if_pos c9] at H
         have c9b0 : decide (0 ≤ (rd l1 x11_1)) = true := decide_eq_true c9
         clear c9
         by_cases c10 : (rd l1 x11_1) < ((rd_L4 l0 a2).length : Int)
         ·rw [if_pos c10] at H
          have c10b0 : decide ((rd l1 x11_1) < ((rd_L4 l0 a2).length : Int)) = true := decide_eq_true c10
          clear c10
          obtain ⟨bq11, hbq11⟩ : ∃ b_ : Bool, b_ = (rdOf false (rd_L4 l0 a2) (rd l1 x11_1)) := ⟨_, rfl⟩
          replace H : (if (bq11 = true) then (spec_grJoins.l0 k1 l0 a2 l1 (l1.length : Int) (wrap64 (x11_1 + 1))) else (some false)) = some r := by rw [← hbq11] at H; exact H
          have Nbq11 := Aside0.mk hbq11
          clear hbq11
          by_cases c12 : (bq11 = true)
          ·subst c12
           have H1 : (spec_grJoins.l0 k1 l0 a2 l1 (l1.length : Int) (wrap64 (x11_1 + 1))) = some r := by rw [if_pos rfl] at H; exact H
           clear H
           have H := H1
           clear H1
           have H' := Aside0.mk H
           clear H
           have p156 : 0 ≤ (x11_1 : Int) := of_decide_eq_true (by first | (with_reducible assumption) | assumption)
           have q156 : x11_1 < (l1.length : Int) := of_decide_eq_true (by first | (with_reducible assumption) | assumption)
           obtain ⟨ad156, e156, hx156_0⟩ := Kd.at_int HR1.out x11_1 p156 q156
           cases e156
           replace p156 := eq_true p156
           replace q156 := eq_true q156
           have p157 : 0 ≤ (a2 : Int) := of_decide_eq_true (by first | (with_reducible assumption) | assumption)
           have q157 : a2 < (l0.length : Int) := of_decide_eq_true (by first | (with_reducible assumption) | assumption)
           obtain ⟨ad157, A157_0, c157_0, e157, hx157_0, hl157_0, hi157_0⟩ := at_L4 HR0.out a2 p157 q157
           cases e157
           have HR157_0 := Aside0.mk hi157_0
           have HC157_0 := Aside0.mk hl157_0
           clear hi157_0 hl157_0
           replace p157 := eq_true p157
           replace q157 := eq_true q157
           have p158 : 0 ≤ ((rd l1 x11_1) : Int) := of_decide_eq_true (by first | (with_reducible assumption) | assumption)
           have q158 : (rd l1 x11_1) < ((rd_L4 l0 a2).length : Int) := of_decide_eq_true (by first | (with_reducible assumption) | assumption)
           obtain ⟨ad158, e158, hx158_0⟩ := Kd.at_bool HR157_0.out (rd l1 x11_1) p158 q158
           (try rw [← Nbq11.out] at hx158_0)
           cases e158
           replace p158 := eq_true p158
           replace q158 := eq_true q158
           go_wp2
           go_roundg k1
           case measure => have := HK1.out; omega
           case rel => exact ⟨(wrap64 (x11_1 + 1)), (by first | rfl | (simp; done) | (simp [*]; done)), H', ⟨by have := HK1.out; omega⟩, by repeat (first | exact Drawn0.refl _ | apply Drawn0.step)⟩
          ·replace c12 := Bool.eq_false_iff.mpr c12
           subst c12
           have H1 : (some false) = some r := by rw [if_neg (show ¬ (false = true) by decide)] at H; exact H
           clear H
           have H := H1
           clear H1
           obtain rfl := Option.some.inj H
           have p156 : 0 ≤ (x11_1 : Int) := of_decide_eq_true (by first | (with_reducible assumption) | assumption)
           have q156 : x11_1 < (l1.length : Int) := of_decide_eq_true (by first | (with_reducible assumption) | assumption)
           obtain ⟨ad156, e156, hx156_0⟩ := Kd.at_int HR1.out x11_1 p156 q156
           cases e156
           replace p156 := eq_true p156
           replace q156 := eq_true q156
           have p157 : 0 ≤ (a2 : Int) := of_decide_eq_true (by first | (with_reducible assumption) | assumption)
           have q157 : a2 < (l0.length : Int) := of_decide_eq_true (by first | (with_reducible assumption) | assumption)
           obtain ⟨ad157, A157_0, c157_0, e157, hx157_0, hl157_0, hi157_0⟩ := at_L4 HR0.out a2 p157 q157
           cases e157
           have HR157_0 := Aside0.mk hi157_0
           have HC157_0 := Aside0.mk hl157_0
           clear hi157_0 hl157_0
           replace p157 := eq_true p157
           replace q157 := eq_true q157
           have p158 : 0 ≤ ((rd l1 x11_1) : Int) := of_decide_eq_true (by first | (with_reducible assumption) | assumption)
           have q158 : (rd l1 x11_1) < ((rd_L4 l0 a2).length : Int) := of_decide_eq_true (by first | (with_reducible assumption) | assumption)
           obtain ⟨ad158, e158, hx158_0⟩ := Kd.at_bool HR157_0.out (rd l1 x11_1) p158 q158
           (try rw [← Nbq11.out] at hx158_0)
           cases e158
           replace p158 := eq_true p158
           replace q158 := eq_true q158
           go_wp2
           go_ret
           exact ⟨by first | rfl | (simp; done) | (simp [*]; done), by repeat (first | exact Drawn0.refl _ | apply Drawn0.step)⟩
         ·rw [if_neg c10] at H
          exact absurd H (by simp)
        ·rw [if_neg c9] at H
         exact absurd H (by simp)
       ·rw [if_neg c8] at H
        exact absurd H (by simp)
      ·rw [if_neg c7] at H
       exact absurd H (by simp)
     ·rw [if_neg c6] at H
      exact absurd H (by simp)
    ·rw [if_neg c5] at H
     exact absurd H (by simp)
   ·rw [if_neg c4] at H
    have c4b0 : decide (x11_1 < (l1.length : Int)) = false := decide_eq_false c4
    clear c4
    obtain rfl := Option.some.inj H
    go_wp2
    go_ret
    exact ⟨by first | rfl | (simp; done) | (simp [*]; done), by repeat (first | exact Drawn0.refl _ | apply Drawn0.step)⟩

/-! ### spec_grLook: function 127 (a text of this session's own) -/

def spec_grLook.T0 : Bool × List (List Nat × List Nat) := (true, [([], []), ([], []), ([1], [1]), ([2], [2]), ([], []), ([4], [4]), ([5], [5]), ([3, 6, 5], [3, 6]), ([0, 0, 1, 2, 3, 4, 5, 6, 7], [0]), ([8, 7, 7, 0, 1, 2, 3, 4, 5, 6, 7], [7, 8])])
def spec_grLook.B0 : List Nat := [0, 0, 2, 6, 0, 16, 48, 126, 255, 511]
theorem spec_grLook.tab0 : rtab .any (opsOf Tryd.f127 0) = spec_grLook.T0 := by kernel_rfl
theorem spec_grLook.bits0 : waitsOk spec_grLook.T0.2 spec_grLook.B0 = true := by kernel_rfl
mutual
def spec_grLook.l0 : Nat → List (List Bool) → List Int → Int → List (List Int) → Option (List (List Int))
 | 0, _, _, _, _ => none
 | k + 1, t, p, a, xs => if a < (t.length : Int) then ((spec_grJoins.f k t p a).bind fun j => if j = true then ((spec_l1Own.f p).bind fun q => if q.length < 17592186044416 then ((spec_grLook.f k t (q ++ [a]) (wrap64 (a + 1)) xs).bind fun ys => spec_grLook.l0 k t p (wrap64 (a + 1)) ys) else none) else spec_grLook.l0 k t p (wrap64 (a + 1)) xs) else some xs
def spec_grLook.f : Nat → List (List Bool) → List Int → Int → List (List Int) → Option (List (List Int))
 | 0, _, _, _, _ => none
 | k + 1, t, p, a, xs => (spec_l1Own.f p).bind fun q => if xs.length < 5864062014805 then spec_grLook.l0 k t p a (xs ++ [q]) else none
end
theorem spec_grLook.mono_l : ∀ k, (∀ y0 y1 y2 y3, LeO (spec_grLook.l0 k y0 y1 y2 y3) (spec_grLook.l0 (k + 1) y0 y1 y2 y3)) ∧ (∀ y0 y1 y2 y3, LeO (spec_grLook.f k y0 y1 y2 y3) (spec_grLook.f (k + 1) y0 y1 y2 y3))
 | 0 => ⟨fun _ _ _ _ r h => by simp [spec_grLook.l0] at h, fun _ _ _ _ r h => by simp [spec_grLook.f] at h⟩
 | k + 1 => by
  obtain ⟨ih0, ih1⟩ := spec_grLook.mono_l k
  refine ⟨?_, ?_⟩
  · intro y0 y1 y2 y3
    unfold spec_grLook.l0
    repeat' first
      | (with_reducible exact ih0 _ _ _ _)
      | (with_reducible exact ih1 _ _ _ _)
      | (with_reducible exact spec_grJoins.mono _ _ _ _)
      | (with_reducible exact LeO.refl _)
      | (with_reducible exact LeO.none _)
      | (with_reducible refine LeO.ite ?_ ?_)
      | (with_reducible refine LeO.bind ?_ (fun _ => ?_))
  · intro y0 y1 y2 y3
    unfold spec_grLook.f
    repeat' first
      | (with_reducible exact ih0 _ _ _ _)
      | (with_reducible exact LeO.refl _)
      | (with_reducible exact LeO.none _)
      | (with_reducible refine LeO.ite ?_ ?_)
      | (with_reducible refine LeO.bind ?_ (fun _ => ?_))
/-- What a call leaves: the list in its place, and all else that lay there. -/
structure spec_grLook.St (w : World) (base b : Nat) (v : Value) (w' : World) (v' : Value) (ys : List (List Int)) : Prop where
  box : w'.heap[b]? = some (.cells #[v'] 91 (0, 0))
  row : Kd.N (Kd.slice 3 (Kd.int .i64)) 56 w' base (fun k => k ≠ b ∧ base ≤ k) v' ys
  below : Below base w w'
  keep : ∀ k, (k ≠ b ∧ some k ≠ v.ownBlock) → k < w.heap.size → w'.heap[k]? = w.heap[k]?
  at_ : v'.ownBlock = v.ownBlock ∨ ∃ g, v'.ownBlock = some g ∧ w.heap.size ≤ g
section
variable {w w' w'' : World} {base b : Nat} {v v' v'' : Value} {ys zs : List (List Int)}
theorem spec_grLook.St.foot {α : Type} {d : Kd α} {A : Option Addr} {n : Nat} {xs : List α} (s : spec_grLook.St w base b v w' v' ys) (h : Kd.F d w (fun k => k ≠ b ∧ some k ≠ v.ownBlock) A n xs) : Kd.F d w' (fun k => k ≠ b ∧ some k ≠ v'.ownBlock) A n xs := by
  refine Kd.F_mono (Kd.F_step (Kd.F_bound h) (fun k hk hlt => s.keep k hk.1 hlt)) ?_
  rintro k ⟨⟨h1, h2⟩, h3⟩
  refine ⟨h1, ?_⟩
  rcases s.at_ with e | ⟨g, e, hg⟩
  · rw [e]; exact h2
  · rw [e]
    intro hh
    injection hh with hh
    omega
theorem spec_grLook.St.later (s : spec_grLook.St w base b v w' v' ys) (hbase : base ≤ w'.heap.size) (hb : Below w'.heap.size w' w'') : spec_grLook.St w base b v w'' v' ys := by
  have hlt : b < w'.heap.size := (Array.getElem?_eq_some_iff.1 s.box).1
  exact ⟨(hb.block b hlt).trans s.box, Kd.N_below s.row hb, below_then s.below hbase hb, fun k hk hl => (hb.block k (Nat.lt_of_lt_of_le hl s.below.size)).trans (s.keep k hk hl), s.at_⟩
theorem spec_grLook.St.trans (s : spec_grLook.St w base b v w' v' ys) (u : spec_grLook.St w' base b v' w'' v'' zs) : spec_grLook.St w base b v w'' v'' zs := by
  refine ⟨u.box, u.row, s.below.trans u.below, fun k hk hl => ?_, ?_⟩
  · rw [u.keep k ⟨hk.1, ?_⟩ (Nat.lt_of_lt_of_le hl s.below.size), s.keep k hk hl]
    rcases s.at_ with e | ⟨g, e, hg⟩
    · rw [e]; exact hk.2
    · rw [e]
      intro hh
      injection hh with hh
      omega
  · rcases u.at_ with e | ⟨g, e, hg⟩
    · rw [e]; exact s.at_
    · exact .inr ⟨g, e, Nat.le_trans s.below.size hg⟩
end
section
variable {P : Program} {ops : Array Oper} {Q : Exit → Act → World → Prop}
theorem spec_grLook.lit_ {oi : Oper} {a : Act} {w w1 : World} {K : Act → World → Prop} {N : Option Tmp} {v : Value} (hw : Region.wanted oi (yielded ops a.tmps) = true) (hN : oi.dst = N) (hrun : (execOp a.eval oi).run P w = .ok (.value v) w1)
    (h : K (a.put N v) w1) : if Region.wanted oi (yielded ops a.tmps) = true then Oper.wp P oi a w K Q else K (a.put N undef) w := by
  rw [if_pos hw]
  unfold Oper.wp
  rw [hrun]
  show K (a.put oi.dst v) w1
  rw [hN]
  exact h
end
set_option maxHeartbeats 8000000 in
set_option maxRecDepth 100000 in
theorem spec_grLook.calls : ∀ (k : Nat) (A0 : Option Addr) (c0 : Nat) (l0 : List (List Bool)) (A1 : Option Addr) (c1 : Nat) (l1 : List Int) (a2 : Int) (b : Nat) (v : Value) (xs r : List (List Int)) (w : World) (base : Nat)
    (_h0 : Kd.F (Kd.slice 4 Kd.bool) w (fun k => k ≠ b ∧ some k ≠ v.ownBlock) A0 l0.length l0) (_hc0 : l0.length ≤ c0) (_h1 : Kd.F (Kd.int .i64) w (fun k => k ≠ b ∧ some k ≠ v.ownBlock) A1 l1.length l1) (_hc1 : l1.length ≤ c1)
    (_hS : spec_grLook.St w base b v w v xs) (_hbb : base ≤ b) (_hbase : base ≤ w.heap.size) (_h : spec_grLook.f k l0 l1 a2 xs = some r),
    Calls Tryd.prog 127 #[.slice A0 l0.length c0, .slice A1 l1.length c1, .int .i64 a2, .pointer (some ⟨b, 0, none⟩)] w fun e w' => e = .returned (.tuple #[]) ∧ ∃ v', spec_grLook.St w base b v w' v' r := by
  intro k
  induction k using Nat.strongRecOn with
  | ind k ih =>
    intro A0 c0 l0 A1 c1 l1 a2 b v xs r w base h0 hc0 h1 hc1 hS hbb hbase h
    cases k with
    | zero => simp [spec_grLook.f] at h
    | succ k =>
      simp only [spec_grLook.f] at h
      replace h := Option.bind_eq_some_iff.mp h
      obtain ⟨q, hq, h⟩ := h
      by_cases hx : xs.length < 5864062014805
      · rw [if_pos hx] at h
        obtain ⟨Av, cv, rfl⟩ := Kd.N_slice hS.row
        have HS := Aside0.mk hS
        have H0 := Aside0.mk h0
        have H1 := Aside0.mk h1
        have HQ := Aside0.mk hq
        have HL := Aside0.mk h
        have LX := Aside0.mk hx
        clear hS h0 h1 hq h hx
        go_enter Tryd.func127, Tryd.ntmps127
        try go_wp2
        refine start_ (n := 10) (S := fun w' => w'.cell? ⟨b, 0, none⟩ = some (.slice Av xs.length cv)) (ds := [9]) (bz 10 0) (by kernel_rfl) rfl rfl ((blk_cell HS.out.box 0).trans rfl) (fun hHeld => ?_)
        refine with_tabW spec_grLook.tab0 spec_grLook.bits0 (fun HT_ HW_ => ?_)
        have n0_ := Aside0.mk (HS.out.later hbase (below_drew (Below.refl w.heap.size w)))
        have n1_ := Aside0.mk (Kd.F_drew H1.out)
        have hbase1 : base ≤ w.drew.heap.size := hbase
        have hw1 : w.drew.heap = w.heap := rfl
        generalize w.drew = w1 at n0_ n1_ hbase1 hw1 hHeld ⊢
        refine run_ [(0, 0, 1, some 9), (0, 1, 3, some 10), (0, 2, 7, some 11), (1, 3, 15, some 12), (0, 4, 31, some 13)] ?_
        repeat (first | (apply tag0; refine run_p (v := ?_) (a' := ?_) rfl rfl (any_of HT_.out (by kernel_rfl)) (fun _ _ _ h => h) (by rfl) ?_ ?_ ?_; rotate_left 2; (intro w'; go_simp; with_reducible rfl); (first | (simp only [Act.put, List.setIfInBounds_toArray, List.set_cons_zero, List.set_cons_succ, i64_w, i32_w]; rfl) | rfl)) | (apply tag1; refine run_t (v := ?_) (a' := ?_) rfl rfl (take_ofW HT_.out HW_.out (by kernel_rfl)) (fun _ _ _ h => h) (by rfl) ?_ hHeld ?_ ?_; rotate_left 2; (intro w' s0; go_simp; with_reducible rfl); (first | (simp only [Act.put, List.setIfInBounds_toArray, List.set_cons_zero, List.set_cons_succ, i64_w, i32_w]; rfl) | rfl)))
        refine run_nil ?_
        refine one_ (i := 5) (N := some 14) (bz 10 63) rfl rfl (one_of HT_.out (by kernel_rfl)) (by decide) (fun K hK => ?_)
        refine goes_ Tryd.func139 (by kernel_rfl) rfl #[.slice A1 l1.length c1] (by rfl) rfl rfl mapT ?_
        refine (spec_l1Own.calls A1 c1 l1 q _ (Kd.F_now n1_.out) hc1 HQ.out).mono ?_
        rintro e w2 ⟨v1, rfl, ho, hb⟩
        refine ⟨_, rfl, ?_⟩
        have S2 := Aside0.mk (n0_.out.later hbase1 hb)
        have HO2 := Aside0.mk ho
        have hbase2 : base ≤ w2.heap.size := Nat.le_trans hbase1 hb.size
        have hsz2 : w.heap.size ≤ w2.heap.size := by rw [← hw1]; exact hb.size
        have hsz12 : w1.heap.size ≤ w2.heap.size := hb.size
        have hr2 : ∀ k, v1.ownBlock = some k → w1.heap.size ≤ k := Kd.R_base ho
        clear n0_ n1_ ho hb
        obtain ⟨Ao, co, rfl⟩ := Kd.R_slice HO2.out
        refine hK.out _ _ ((blk_cell S2.out.box 0).trans rfl) (fun hHeld => ?_)
        clear hK K
        refine norm_ (a' := ?_) ?_ ?_
        rotate_left
        · show Act.put _ (some 14) _ = _
          simp only [Act.put, List.setIfInBounds_toArray, List.set_cons_zero, List.set_cons_succ, i64_w, i32_w]
          rfl
        refine one_ (i := 6) (N := some 15) (bz 10 127) rfl rfl (one_of HT_.out (by kernel_rfl)) (by decide) (fun K hK => ?_)
        refine spec_grLook.lit_ (v := .slice (some ⟨w2.heap.size, 0, none⟩) 1 1) (w1 := w2.alloc (.cells [(.slice Ao q.length co : Value)].toArray 56)) (by rfl) rfl (by first | (go_simp; done) | (go_simp; rfl)) ?_
        refine hK.out _ _ ((blk_cell (blk_alloc S2.out.box _) 0).trans rfl) (fun hHeld => ?_)
        clear hK K
        refine norm_ (a' := ?_) ?_ ?_
        rotate_left
        · show Act.put _ (some 15) _ = _
          simp only [Act.put, List.setIfInBounds_toArray, List.set_cons_zero, List.set_cons_succ, i64_w, i32_w]
          rfl
        refine one_ (i := 7) (N := some 16) (bz 10 255) rfl rfl (one_of HT_.out (by kernel_rfl)) (by decide) (fun K hK => ?_)
        have hblt : b < w1.heap.size := by rw [hw1]; exact (Array.getElem?_eq_some_iff.1 HS.out.box).1
        refine Kd.N_append_step (Kd.slice 3 (Kd.int .i64)) (w0 := w) base (by rfl) (.tmp 12) (.tmp 15) 91 56 (.slice none 0 0) 24 rfl Tryd.underlying91 info56 rfl (by decide) (by omega) (.slice Av xs.length cv) xs q [.slice Ao q.length co] (fun k => k ≠ b ∧ base ≤ k) (fun k => (k ≠ b ∧ base ≤ k) ∧ some k ≠ (.slice Av xs.length cv : Value).ownBlock) rfl rfl ?aP (fun _ hk => hk) ?aF ?aO ?aB ?aS ?aL ?_
        case aP =>
          refine Kd.FK_slice_mk (Kd.R_reads' HO2.out).2.1 (Kd.R_F (Kd.R_mono (Kd.R_bound HO2.out) ?_))
          rintro k ⟨_, hk, _⟩
          refine ⟨⟨by omega, by omega⟩, fun he => ?_⟩
          have := Kd.N_lt HS.out.row k he.symm
          rw [← hw1] at this
          omega
        case aF => exact fun k hk => ⟨by omega, by omega⟩
        case aO => exact S2.out.row
        case aB => exact S2.out.below
        case aS => exact hbase2
        case aL => have := LX.out; omega
        intro v3 w3 ho hb hg hat
        have BX3 : w3.heap[b]? = some (.cells #[.slice Av xs.length cv] 91 (0, 0)) := (hg.block b (by omega) (Kd.N_away HS.out.row (fun _ hk => hk.1))).trans S2.out.box
        obtain ⟨A3, c3, e3⟩ := Kd.N_slice ho
        obtain ⟨n3, hn3⟩ : ∃ n, n = (xs ++ [q]).length := ⟨_, rfl⟩
        rw [← hn3] at e3
        subst e3
        clear hn3
        have S4 := Aside0.mk (show spec_grLook.St w base b (.slice Av xs.length cv) (w3.setCell ⟨b, 0, none⟩ (.slice A3 n3 c3)) (.slice A3 n3 c3) (xs ++ [q]) from
          ⟨blk_set BX3 0 _, Kd.N_far ho (fun _ hk => hk.1) _, hb.setCell hbb _, fun k hk hl => (Below.heap_setCell w3 ⟨b, 0, none⟩ _ k hk.1).trans ((hg.block k (Nat.lt_of_lt_of_le hl hsz2) hk.2).trans (S2.out.keep k hk hl)), by
            rcases hat with e | ⟨g, e, hg⟩
            · exact .inl e
            · exact .inr ⟨g, e, Nat.le_trans hsz2 hg⟩⟩)
        have BK3 := Aside0.mk BX3
        clear ho hb hg hat
        refine hK.out _ _ ((blk_cell BX3 0).trans rfl) (fun hHeld => ?_)
        clear hK K
        refine norm_ (a' := ?_) ?_ ?_
        rotate_left
        · show Act.put _ (some 16) _ = _
          simp only [Act.put, List.setIfInBounds_toArray, List.set_cons_zero, List.set_cons_succ, i64_w, i32_w]
          rfl
        refine run_ [(0, 8, 511, some 17)] ?_
        repeat ((apply tag0; refine run_p (v := ?_) (a' := ?_) rfl rfl (any_of HT_.out (by kernel_rfl)) (fun _ _ _ h => h) (by rfl) ?_ ?_ ?_; rotate_left 2; (intro w'; go_simp; with_reducible rfl); (first | (simp only [Act.put, List.setIfInBounds_toArray, List.set_cons_zero, List.set_cons_succ, i64_w, i32_w]; rfl) | rfl)))
        refine run_nil ?_
        refine last_ (i := 9) (N := none) (bz 10 1023) rfl rfl (one_of HT_.out (by kernel_rfl)) (by decide) (fun K hK => ?_)
        have hs9 : w3.cell? ⟨b, 0, none⟩ = some (.slice Av xs.length cv) := (blk_cell BK3.out 0).trans rfl
        have hf9 := blk_frozen BK3.out 0
        refine skip_ (w1 := ?_) (by rfl) rfl ?_ ?_
        rotate_left
        · go_simp
          rfl
        refine hK.out _ _ ?_
        clear hK K
        refine done_ (done_of HT_.out (by kernel_rfl)) ?_
        clear hs9 hf9 BX3 BK3 HT_ HW_ hHeld
        generalize w3.setCell ⟨b, 0, none⟩ (.slice A3 n3 c3) = w4 at S4 ⊢
        go_wp2
        go_loopg [8] k (fun kq v8 w' => ∃ (x : Int) (ys : List (List Int)) (v' : Value), v8 = .int .i64 x ∧ Aside0 (spec_grLook.l0 kq l0 l1 x ys = some r) ∧ Aside0 (kq ≤ k) ∧ Aside0 (spec_grLook.St w base b (.slice Av xs.length cv) w' v' ys))
        case atStart => exact ⟨a2, xs ++ [q], _, rfl, HL, ⟨Nat.le_refl _⟩, S4⟩
        case round =>
          obtain ⟨x, ys, v', rfl, HA, HK1, HS4⟩ := hrel
          cases gk with
          | zero => exact absurd HA.out (by simp [spec_grLook.l0])
          | succ k1 =>
            have H := HA.out
            clear HA S4
            simp only [spec_grLook.l0] at H
            have hbr : base ≤ wr.heap.size := Nat.le_trans hbase HS4.out.below.size
            have hbl : b < wr.heap.size := (Array.getElem?_eq_some_iff.1 HS4.out.box).1
            by_cases c1_ : x < (l0.length : Int)
            · rw [if_pos c1_] at H
              have c1b : decide (x < (l0.length : Int)) = true := decide_eq_true c1_
              clear c1_
              replace H := Option.bind_eq_some_iff.mp H
              obtain ⟨j, hj, H⟩ := H
              have F0 := Aside0.mk (HS4.out.foot H0.out)
              have F1 := Aside0.mk (HS4.out.foot H1.out)
              have HJ := Aside0.mk hj
              clear hj
              cases j with
              | true =>
                rw [if_pos rfl] at H
                replace H := Option.bind_eq_some_iff.mp H
                obtain ⟨q2, hq2, H⟩ := H
                by_cases c2_ : q2.length < 17592186044416
                · rw [if_pos c2_] at H
                  replace H := Option.bind_eq_some_iff.mp H
                  obtain ⟨ys2, hy, H⟩ := H
                  obtain ⟨y2, hy2⟩ : ∃ y_ : List Int, y_ = q2 ++ [x] := ⟨_, rfl⟩
                  rw [← hy2] at hy
                  have NY := Aside0.mk hy2
                  have HQ2 := Aside0.mk hq2
                  have HN := Aside0.mk H
                  have L2 := Aside0.mk c2_
                  have HREC := Aside0.mk (fun (A6 : Option Addr) (c6 : Nat) (w6 : World) (hb : Below wr.heap.size wr w6) (ho : Kd.R (Kd.int .i64) 3 w6 wr.heap.size (fun k_ => wr.heap.size ≤ k_) (.slice A6 y2.length c6) y2) =>
                    ih k1 (by have := HK1.out; omega) A0 c0 l0 A6 c6 y2 (wrap64 (x + 1)) b v' ys ys2 w6 base (Kd.F_below F0.out hb) hc0 (Kd.R_F (Kd.R_mono ho (fun k_ hk => ⟨by omega, fun he => by have := Kd.N_lt HS4.out.row k_ he.symm; omega⟩))) (Kd.R_reads' ho).2.1 ⟨(HS4.out.later hbr hb).box, (HS4.out.later hbr hb).row, Below.refl _ _, fun _ _ _ => rfl, .inl rfl⟩ hbb (Nat.le_trans hbr hb.size) hy)
                  clear hq2 hy H c2_ hy2
                  go_wp2_with (first
                    | (go_at_call 140; refine (spec_grJoins.calls k1 A0 c0 l0 A1 c1 l1 x true _ (Kd.F_now F0.out) hc0 (Kd.F_now F1.out) hc1 HJ.out).mono ?_; rintro e w' ⟨rfl, ⟨nd, rfl⟩⟩)
                    | (go_at_call 139; refine (spec_l1Own.calls A1 c1 l1 q2 _ (Kd.F_now (Kd.F_drewN F1.out _)) hc1 HQ2.out).mono ?_; rintro e w5 ⟨v5, rfl, ho, hb⟩; have HO5 := Aside0.mk ho; have HB5 := Aside0.mk (below_then (pw_below_drewN (Below.refl wr.heap.size wr) _) (Nat.le_refl _) hb); clear ho hb)
                    | ((with_reducible refine gate_builtin (b := .append) (xs := #[.tmp 31, .tmp 33]) rfl ?_); at_builtin; refine Kd.R_append (Kd.int .i64) (w0 := wr) wr.heap.size rfl (.tmp 31) (.tmp 33) 56 3 (.int .i64 0) 8 rfl Tryd.underlying56 info3 rfl (by decide) (by omega) v5 q2 x [.int .i64 x] (fun k_ => (wr.heap.size ≤ k_)) (fun _ => False) rfl rfl ?aP (fun _ hk => hk.elim) ?aF ?aO ?aB ?aS ?aL ?_; (case aP => exact rfl); (case aB => exact HB5.out); (case aF => exact (fun k_ hk => Nat.le_trans HB5.out.size hk)); (case aO => exact (Kd.R_mono (Kd.R_bound HO5.out) (fun _ hk => hk.2.1))); (case aS => exact HB5.out.size); (case aL => have := L2.out; omega); intro v6 w6 ho hb hg hat; rw [← NY.out] at ho; have HO6 := Aside0.mk ho; have HB6 := Aside0.mk hb; clear ho hb hg hat; obtain ⟨A6, c6, rfl⟩ := Kd.R_slice HO6.out)
                    | (go_at_call 127; refine (HREC.out _ _ _ HB6.out HO6.out).mono ?_; rintro e w7 ⟨rfl, v7, s7⟩; have HS7 := Aside0.mk ((HS4.out.later hbr HB6.out).trans s7); clear s7))
                  go_roundg k1
                  case measure => have := HK1.out; omega
                  case rel => exact ⟨wrap64 (x + 1), ys2, v7, by first | rfl | (simp; done), HN, ⟨by have := HK1.out; omega⟩, HS7⟩
                · rw [if_neg c2_] at H; cases H
              | false =>
                rw [if_neg (by simp)] at H
                have HN := Aside0.mk H
                clear H
                go_wp2_with (go_at_call 140; refine (spec_grJoins.calls k1 A0 c0 l0 A1 c1 l1 x false _ (Kd.F_now F0.out) hc0 (Kd.F_now F1.out) hc1 HJ.out).mono ?_; rintro e w' ⟨rfl, ⟨nd, rfl⟩⟩)
                go_roundg k1
                case measure => have := HK1.out; omega
                case rel => exact ⟨wrap64 (x + 1), ys, v', by first | rfl | (simp; done), HN, ⟨by have := HK1.out; omega⟩, ⟨HS4.out.later hbr (pw_below_drewN (Below.refl _ _) _)⟩⟩
            · rw [if_neg c1_] at H
              have c1b : decide (x < (l0.length : Int)) = false := decide_eq_false c1_
              clear c1_
              obtain rfl := Option.some.inj H
              go_wp2
              first | go_end0 | ((try simp only [Exit.inBlock, Exit.then]); refine bodyPost_ret (results_none rfl _ _ _) rfl ?_)
              exact ⟨rfl, v', HS4.out⟩
      · rw [if_neg hx] at h; cases h

/-! ### spec_grGroups: function 102 (a text of this session's own) -/
def spec_grGroups.f (k : Nat) (l0 : List (List Bool)) : Option (List (List Int)) := spec_grLook.f k l0 [] 0 []
theorem spec_grGroups.mono : ∀ a0 k, LeO (spec_grGroups.f k a0) (spec_grGroups.f (k + 1) a0) := fun a0 k => (spec_grLook.mono_l k).2 a0 [] 0 []
set_option maxHeartbeats 4000000 in
set_option maxRecDepth 100000 in
theorem spec_grGroups.calls (k : Nat) (A0 : Option Addr) (c0 : Nat) (l0 : List (List Bool)) (r : List (List Int)) (w : World) (hr0 : Kd.C (Kd.slice 4 Kd.bool) w A0 l0.length l0) (hc0 : l0.length ≤ c0) (h : spec_grGroups.f k l0 = some r) :
    Calls Tryd.prog 102 #[.slice A0 l0.length c0] w fun e w' => ∃ v0_ : Value, e = .returned (v0_) ∧ Kd.N (Kd.slice 3 (Kd.int .i64)) 56 w' w.heap.size (fun k_ => w.heap.size ≤ k_) v0_ r ∧ Below w.heap.size w w' := by
  have hF : Kd.F (Kd.slice 4 Kd.bool) w (fun k => k < w.heap.size) A0 l0.length l0 := Kd.C_F (Kd.heap_slice _ Kd.heap_bool) hr0
  have HF := Aside0.mk hF
  have HH := Aside0.mk h
  clear hr0 h hF
  go_enter Tryd.func102, Tryd.ntmps102
  go_wp2_with (first
    | ((with_reducible refine gate_dst (N := 3) rfl ?_); refine box_event ?hg (N := 3) ?hd (cs := #[.slice none 0 0]) (t := 91) ?hr ?_; (case hd => rfl); (case hg => rfl); (case hr => first | (go_simp; done) | (go_simp; rfl)); intro gb hg w3 hbox hb; have HB := Aside0.mk hb; have BK := Aside0.mk hbox; have HG := Aside0.mk hg; clear hb hbox hg)
    | (go_at_call 127; refine (spec_grLook.calls k A0 c0 l0 none 0 [] 0 gb (.slice none 0 0) [] r _ w.heap.size (Kd.F_mono (Kd.F_below HF.out HB.out) (fun k_ hk => ⟨by have := HG.out; omega, by simp [Value.ownBlock]⟩)) hc0 (Kd.F_nil _ _ _) (Nat.le_refl _) ⟨BK.out, Kd.N_nil _ _ _ _ _, Below.refl _ _, fun _ _ _ => rfl, .inl rfl⟩ (by have := HG.out; omega) HB.out.size HH.out).mono ?_; rintro e w4 ⟨rfl, v4, s4⟩; have S4 := Aside0.mk s4; clear s4; obtain ⟨A4, c4, rfl⟩ := Kd.N_slice S4.out.row; have hs4 : w4.cell? ⟨gb, 0, none⟩ = some (.slice A4 r.length c4) := (blk_cell S4.out.box 0).trans rfl))
  go_ret
  exact ⟨_, rfl, Kd.N_mono S4.out.row (fun _ hk => hk.2), HB.out.trans S4.out.below⟩

/-! ### spec_pzThrees: function 72 -/
def spec_pzThrees.l0 : Nat → Int → List (List Int) → Int → Int → Option (Int)
 | 0, _, _, _, _ => none
 | k + 1, x3, x8, x9, x10 => if x10 < x9 then (if 0 ≤ x10 then (if x10 < (x8.length : Int) then (if ((rd_L6 x8 x10).length : Int) = 3 then (spec_pzThrees.l0 k (wrap64 (x3 + 1)) x8 x9 (wrap64 (x10 + 1))) else (spec_pzThrees.l0 k x3 x8 x9 (wrap64 (x10 + 1)))) else (none)) else (none)) else (some x3)
def spec_pzThrees.f (k : Nat) (a0_0 : Int) (l0_1 : List (S110)) : Option (Int) := (spec_paTable.f k a0_0 l0_1).bind fun t160 => ((spec_grGroups.f k t160).bind fun t163 => (spec_pzThrees.l0 k 0 t163 (t163.length : Int) 0))
theorem spec_pzThrees.mono_l : ∀ k, (∀ y0 y1 y2 y3, LeO (spec_pzThrees.l0 k y0 y1 y2 y3) (spec_pzThrees.l0 (k + 1) y0 y1 y2 y3))
 | 0 => fun _ _ _ _ r h => by simp [spec_pzThrees.l0] at h
 | k + 1 => by
  have ih0 := spec_pzThrees.mono_l k
  ·intro y0 y1 y2 y3
   unfold spec_pzThrees.l0
   repeat' first
   | (with_reducible exact ih0 _ _ _ _)
   | (with_reducible exact spec_grGroups.mono _ _)
   | (with_reducible exact spec_paTable.mono _ _ _)
   | (with_reducible exact LeO.refl _)
   | (with_reducible exact LeO.none _)
   | (with_reducible refine LeO.ite ?_ ?_)
   | (with_reducible refine LeO.bind ?_ (fun _ => ?_))
   | exact ih0 _ _ _ _
   | exact spec_grGroups.mono _ _
   | exact spec_paTable.mono _ _ _
   | exact LeO.none _
   | refine LeO.ite ?_ ?_
   | refine LeO.bind ?_ (fun _ => ?_)
theorem spec_pzThrees.mono : ∀ a0 a1 k, LeO (spec_pzThrees.f k a0 a1) (spec_pzThrees.f (k + 1) a0 a1) := by
 intro a0 a1 k
 have ih0 := spec_pzThrees.mono_l k
 unfold spec_pzThrees.f
 repeat' first
   | (with_reducible exact ih0 _ _ _ _)
   | (with_reducible exact spec_grGroups.mono _ _)
   | (with_reducible exact spec_paTable.mono _ _ _)
   | (with_reducible exact LeO.refl _)
   | (with_reducible exact LeO.none _)
   | (with_reducible refine LeO.ite ?_ ?_)
   | (with_reducible refine LeO.bind ?_ (fun _ => ?_))
   | exact ih0 _ _ _ _
   | exact spec_grGroups.mono _ _
   | exact spec_paTable.mono _ _ _
   | exact LeO.none _
   | refine LeO.ite ?_ ?_
   | refine LeO.bind ?_ (fun _ => ?_)
set_option maxHeartbeats 8000000 in
set_option maxRecDepth 100000 in
theorem spec_pzThrees.calls (k : Nat) (a0_0 : Int) (A0_1 : Option Addr) (c0_1 : Nat) (l0_1 : List (S110)) (r : Int) (w : World) (hr0_1 : Kd.C k110 w A0_1 l0_1.length l0_1) (hc0_1 : l0_1.length ≤ c0_1) (h : spec_pzThrees.f k a0_0 l0_1 = some r) :
  Calls Tryd.prog 72 #[.agg #[.int .i64 a0_0, .slice A0_1 l0_1.length c0_1]] w fun e w' => e = .returned (.int .i64 r) ∧ Below w.heap.size w w' := by
 have hu34 := Tryd.underlying34
 have HR0_1 := Aside0.mk hr0_1
 have HC0_1 := Aside0.mk hc0_1
 clear hr0_1 hc0_1
 have HB := Aside0.mk (Below.refl w.heap.size w)
 have H : ((spec_paTable.f k a0_0 l0_1).bind fun t160 => ((spec_grGroups.f k t160).bind fun t163 => (spec_pzThrees.l0 k 0 t163 (t163.length : Int) 0))) = some r := h
 clear h
 replace H := Option.bind_eq_some_iff.mp H
 obtain ⟨t160, A20, H⟩ := H
 replace H : ((spec_grGroups.f k t160).bind fun t163 => (spec_pzThrees.l0 k 0 t163 (t163.length : Int) 0)) = some r := H
 have A2 := Aside0.mk A20
 clear A20
 replace H := Option.bind_eq_some_iff.mp H
 obtain ⟨t163, A30, H⟩ := H
 replace H : (spec_pzThrees.l0 k 0 t163 (t163.length : Int) 0) = some r := H
 have A3 := Aside0.mk A30
 clear A30
 have H' := Aside0.mk H
 clear H
 go_enter Tryd.func72, Tryd.ntmps72
 go_wp2_with (first | ((with_reducible refine gate_dst (N := 1) rfl ?_); refine box_event ?hg (N := 1) ?hd (cs := #[.int .i64 a0_0, .slice A0_1 l0_1.length c0_1]) (t := 34) ?hr ?_; (case hd => rfl); (case hg => rfl); (case hr => first | (go_simp; done) | (go_simp; rfl)); intro gb159 hg w4 hbox hb; have n0_ := hS HB hb; have n1_ := Aside0.mk (hbox); have n2_ := gS HB hg; have n3_ := gS HB hg; clear HB; have HB := n0_; have BK159 := n1_; have GW159 := n2_; have GE159 := n3_; clear n0_ n1_ n2_ n3_; clear hb hbox hg; have hcz5_0 : w4.cell? ⟨gb159, 0, none⟩ = some (.int .i64 a0_0) := (blk_cell BK159.out 0).trans rfl; have hcz5_1 : w4.cell? ⟨gb159, 1, none⟩ = some (.slice A0_1 l0_1.length c0_1) := (blk_cell BK159.out 1).trans rfl; have hfz5_0 := blk_frozen BK159.out 0; have hfz5_1 := blk_frozen BK159.out 1) | ((with_reducible refine gate_callee (f := 70) rfl ?_); refine goesL_ (some 7) rfl rfl Tryd.func70 (by kernel_rfl) rfl #[.agg #[.int .i64 a0_0, .slice A0_1 l0_1.length c0_1]] rfl mapT ?_; (with_reducible refine (spec_paTable.calls k a0_0 _ _ l0_1 t160 _ ?side1 ?side2 A2.out).mono ?_); (case side1 => repeat (first | exact (Kd.C_below HR0_1.out HB.out) | (with_reducible refine Kd.C_alloc ?_ _) | (with_reducible refine Kd.C_drewN ?_ _) | (with_reducible refine Kd.C_drew ?_))); (case side2 => exact HC0_1.out); rintro e w6 ⟨v161, rfl, ho0, hb⟩; refine ⟨_, rfl, ?_⟩; have n0_ := Aside0.mk (Kd.N_lower (Kd.N_mono (ok' := fun k_ => k_ ≠ gb159) (Kd.S_N (Kd.S_bound ho0)) (fun k_ hk_ => (Kd.freshB (g := gb159) (o := .cells #[.int .i64 a0_0, .slice A0_1 l0_1.length c0_1] 34 (0, 0)) bK k_ hk_.2.1))) (below_size hB)); have n1_ := bS BK159 hb; have n2_ := hS HB hb; clear BK159; clear HB; have HO162 := n0_; have BK159 := n1_; have HB := n2_; clear n0_ n1_ n2_; (try clear hb); (try clear hb2); (try clear hk); (try clear hi); (try clear ho0); obtain ⟨Ao7, co7, eo7⟩ := Kd.N_slice HO162.out; subst eo7) | ((with_reducible refine gate_callee (f := 102) rfl ?_); refine goesL_ (some 8) rfl rfl Tryd.func102 (by kernel_rfl) rfl #[.slice Ao7 t160.length co7] rfl mapT ?_; (with_reducible refine (spec_grGroups.calls k _ _ t160 t163 _ ?side1 ?side2 A3.out).mono ?_); (case side1 => repeat (first | exact (Kd.N_reads' HO162.out).2.2 | (with_reducible refine Kd.C_alloc ?_ _) | (with_reducible refine Kd.C_drewN ?_ _) | (with_reducible refine Kd.C_drew ?_))); (case side2 => exact (Kd.N_reads' HO162.out).2.1); rintro e w8 ⟨v164, rfl, ho0, hb⟩; refine ⟨_, rfl, ?_⟩; have n0_ := Aside0.mk (Kd.N_elder' (by (with_reducible repeat (first | apply Kd.N_alloc | apply Kd.N_drewN | apply Kd.N_drew)); exact HO162.out) (by first | exact Kd.N_base ho0 | exact Kd.S_base ho0) hb); have n1_ := Aside0.mk (Kd.N_lower (Kd.N_mono (ok' := fun k_ => some k_ ≠ (.slice Ao7 t160.length co7 : Value).ownBlock ∧ k_ ≠ gb159) ho0 (fun k_ hk_ => ⟨(Kd.fresh' (Kd.N_lt (by (with_reducible repeat (first | apply Kd.N_alloc | apply Kd.N_drewN | apply Kd.N_drew)); exact HO162.out)) k_ hk_), (Kd.freshB (g := gb159) (o := .cells #[.int .i64 a0_0, .slice A0_1 l0_1.length c0_1] 34 (0, 0)) bK k_ hk_)⟩)) (below_size hB)); have n2_ := bS BK159 hb; have n3_ := hS HB hb; clear HO162; clear BK159; clear HB; have HO162 := n0_; have HO165 := n1_; have BK159 := n2_; have HB := n3_; clear n0_ n1_ n2_ n3_; (try clear hb); (try clear hb2); (try clear hk); (try clear hi); (try clear ho0); obtain ⟨Ao9, co9, eo9⟩ := Kd.N_slice HO165.out; subst eo9))
 go_loopg [3, 10] k (fun kq v3 v10 w' => ∃ (x3_1 : Int) (x10_1 : Int), v3 = .int .i64 x3_1 ∧ v10 = .int .i64 x10_1 ∧ Aside0 (spec_pzThrees.l0 kq x3_1 t163 (t163.length : Int) x10_1 = some r) ∧ Aside0 (kq ≤ k) ∧ Aside0 (Kd.N (Kd.slice 3 (Kd.int .i64)) 56 w' w.heap.size (fun k_ => k_ ≠ gb159) (.slice Ao9 t163.length co9) t163) ∧ Aside0 (w'.heap[gb159]? = some (.cells #[.int .i64 a0_0, (.slice A0_1 l0_1.length c0_1)] 34 (0, 0))) ∧ Aside0 (Below w.heap.size w w'))
 case atStart => exact ⟨(0), (0), (by first | rfl | (simp; done) | (simp [*]; done)), (by first | rfl | (simp; done) | (simp [*]; done)), H', ⟨Nat.le_refl _⟩, ⟨by (with_reducible repeat (first | apply Kd.N_alloc | apply Kd.N_drewN | apply Kd.N_drew)); exact Kd.N_mono HO165.out (fun _ hk => hk.2)⟩, ⟨bK⟩, ⟨hB⟩⟩
 case round =>
  clear H'
  try clear c1
  try clear p2
  try clear c7
  try clear hcz5_0
  try clear hcz5_1
  try clear hfz5_0
  try clear hfz5_1
  obtain ⟨x3_1, x10_1, rfl, rfl, HA, HK1, HO_8, BK159, HB⟩ := hrel
  cases gk with
  | zero => exact absurd HA.out (by simp [spec_pzThrees.l0])
  | succ k1 =>
   have H := HA.out
   clear HA
   simp only [spec_pzThrees.l0] at H
   by_cases c10 : x10_1 < (t163.length : Int)
   ·rw [if_pos c10] at H
    have c10b0 : decide (x10_1 < (t163.length : Int)) = true := decide_eq_true c10
    clear c10
    by_cases c11 : 0 ≤ x10_1
    ·rw [if_pos c11] at H
     have c11b0 : decide (0 ≤ x10_1) = true := decide_eq_true c11
     clear c11
     by_cases c12 : x10_1 < (t163.length : Int)
     ·rw [if_pos c12] at H
      have c12b0 : decide (x10_1 < (t163.length : Int)) = true := decide_eq_true c12
      clear c12
      by_cases c13 : ((rd_L6 t163 x10_1).length : Int) = 3
      ·rw [if_pos c13] at H
       have c13b0 : (((rd_L6 t163 x10_1).length : Int) == 3) = true := beq_iff_eq.mpr c13
       have c13b1 : (((rd_L6 t163 x10_1).length : Int) != 3) = false := bne_eq_false_iff_eq.mpr c13
       clear c13
       have H' := Aside0.mk H
       clear H
       have p166 : 0 ≤ (x10_1 : Int) := of_decide_eq_true (by first | (with_reducible assumption) | assumption)
       have q166 : x10_1 < (t163.length : Int) := of_decide_eq_true (by first | (with_reducible assumption) | assumption)
       obtain ⟨ad166, A166_0, c166_0, e166, hx166_0, hl166_0, hi166_0⟩ := at_L6 (Kd.N_reads' HO_8.out).2.2 x10_1 p166 q166
       cases e166
       obtain ⟨ce166, hce166, hMe166, hcc166⟩ := Kd.N_get HO_8.out [] x10_1 p166 (by first | exact q166 | exact of_decide_eq_true (by first | (with_reducible assumption) | assumption) | (have e_ := (Kd.N_reads' HO_8.out).1; omega))
       obtain ⟨ua166_0, uc166_0, rfl, ul166_0, ge166_0⟩ := Kd.FK_slice_open hMe166
       have hv166_0 := hcc166 0 _ rfl
       rw [Nat.add_zero, show ((Kd.slice 3 (Kd.int .i64))).sz = 1 from rfl, Nat.mul_one] at hv166_0
       replace hv166_0 := Option.some.inj (hv166_0.symm.trans hx166_0)
       injection hv166_0 with hva_ hvn_ hvc_
       rw [hva_] at ge166_0
       rw [hvc_] at ul166_0
       have HL166_0 := Aside0.mk (show Kd.V (Kd.int .i64) 3 _ w.heap.size _ _ (rd_L6 t163 x10_1) from Kd.V_mk ul166_0 ge166_0)
       clear hva_ hvn_ hvc_ ge166_0 ul166_0
       clear hcc166 hce166
       have HR166_0 := Aside0.mk hi166_0
       have HC166_0 := Aside0.mk hl166_0
       clear hi166_0 hl166_0
       replace p166 := eq_true p166
       replace q166 := eq_true q166
       go_wp2
       go_roundg k1
       case measure => have := HK1.out; omega
       case rel => exact ⟨(wrap64 (x3_1 + 1)), (wrap64 (x10_1 + 1)), (by first | rfl | (simp; done) | (simp [*]; done)), (by first | rfl | (simp; done) | (simp [*]; done)), H', ⟨by have := HK1.out; omega⟩, ⟨by (with_reducible repeat (first | apply Kd.N_alloc | apply Kd.N_drewN | apply Kd.N_drew)); exact HO_8.out⟩, ⟨bK⟩, ⟨hB⟩⟩
      ·rw [if_neg c13] at H
       have c13b0 : (((rd_L6 t163 x10_1).length : Int) == 3) = false := beq_eq_false_iff_ne.mpr c13
       have c13b1 : (((rd_L6 t163 x10_1).length : Int) != 3) = true := bne_iff_ne.mpr c13
       have H' := Aside0.mk H
       clear H
       have p166 : 0 ≤ (x10_1 : Int) := of_decide_eq_true (by first | (with_reducible assumption) | assumption)
       have q166 : x10_1 < (t163.length : Int) := of_decide_eq_true (by first | (with_reducible assumption) | assumption)
       obtain ⟨ad166, A166_0, c166_0, e166, hx166_0, hl166_0, hi166_0⟩ := at_L6 (Kd.N_reads' HO_8.out).2.2 x10_1 p166 q166
       cases e166
       obtain ⟨ce166, hce166, hMe166, hcc166⟩ := Kd.N_get HO_8.out [] x10_1 p166 (by first | exact q166 | exact of_decide_eq_true (by first | (with_reducible assumption) | assumption) | (have e_ := (Kd.N_reads' HO_8.out).1; omega))
       obtain ⟨ua166_0, uc166_0, rfl, ul166_0, ge166_0⟩ := Kd.FK_slice_open hMe166
       have hv166_0 := hcc166 0 _ rfl
       rw [Nat.add_zero, show ((Kd.slice 3 (Kd.int .i64))).sz = 1 from rfl, Nat.mul_one] at hv166_0
       replace hv166_0 := Option.some.inj (hv166_0.symm.trans hx166_0)
       injection hv166_0 with hva_ hvn_ hvc_
       rw [hva_] at ge166_0
       rw [hvc_] at ul166_0
       have HL166_0 := Aside0.mk (show Kd.V (Kd.int .i64) 3 _ w.heap.size _ _ (rd_L6 t163 x10_1) from Kd.V_mk ul166_0 ge166_0)
       clear hva_ hvn_ hvc_ ge166_0 ul166_0
       clear hcc166 hce166
       have HR166_0 := Aside0.mk hi166_0
       have HC166_0 := Aside0.mk hl166_0
       clear hi166_0 hl166_0
       replace p166 := eq_true p166
       replace q166 := eq_true q166
       go_wp2
       go_roundg k1
       case measure => have := HK1.out; omega
       case rel => exact ⟨(x3_1), (wrap64 (x10_1 + 1)), (by first | rfl | (simp; done) | (simp [*]; done)), (by first | rfl | (simp; done) | (simp [*]; done)), H', ⟨by have := HK1.out; omega⟩, ⟨by (with_reducible repeat (first | apply Kd.N_alloc | apply Kd.N_drewN | apply Kd.N_drew)); exact HO_8.out⟩, ⟨bK⟩, ⟨hB⟩⟩
     ·rw [if_neg c12] at H
      exact absurd H (by simp)
    ·rw [if_neg c11] at H
     exact absurd H (by simp)
   ·rw [if_neg c10] at H
    have c10b0 : decide (x10_1 < (t163.length : Int)) = false := decide_eq_false c10
    clear c10
    obtain rfl := Option.some.inj H
    go_wp2
    go_ret
    exact ⟨by first | rfl | (simp [errW_none, errW_some] <;> rfl) | (simp [*, errW_none, errW_some] <;> rfl), hB⟩

end Go.Proofs.YtdnkipagpagfiaaDoor.PFnExactDoesFit
