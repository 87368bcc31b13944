-- Of this session's own program wip/gen/gen.py (it drives the kit's print): contracts of the functions that the law reaches.
import Derived.Test.YtomlbbnoicpfpaaDoorPFnExactCountNeitherx0
import Derived.Test.YtomlbbnoicpfpaaDoorPFnExactCountNeitherx1
import Derived.Test.YtomlbbnoicpfpaaDoorPFnExactCountNeitherx2
import Derived.Test.YtomlbbnoicpfpaaDoorPFnExactCountNeitherx3
import Derived.Test.YtomlbbnoicpfpaaDoorPFnExactCountNeitherx4
namespace Go.Proofs.YtomlbbnoicpfpaaDoor.PFnExactCountNeither
open Go.RowKit Go.Proofs.YtomlbbnoicpfpaaDoorW.PrintWords Go.Proofs.YtomlbbnoicpfpaaDoorW.PrintLast Go.Proofs.YtomlbbnoicpfpaaDoorW.PrintMore Go.Proofs.YtomlbbnoicpfpaaDoor.Base
attribute [local go_sem] max2_int min2_int max_two min_two max_three min_three max_four min_four   -- for this text's walks alone
set_option linter.unusedVariables false
set_option linter.unusedSimpArgs false

/-! ### spec_trOpen: function 99 -/
def spec_trOpen.l0 : Nat → List (List Bool) → Int → Int → Bool → List Int → Int → Int → Int → Option (Bool)
 | 0, _, _, _, _, _, _, _, _ => none
 | k + 1, x0, x2, x3, x4, x11, x12, x204000, x204001 => if x12 < x204000 then (if 0 ≤ x12 then (if x12 < (x0.length : Int) then (if 0 ≤ x204000 then (if x204000 < ((rd_L3 x0 x12).length : Int) then (if ((rdOf false (rd_L3 x0 x12) x204000) == x4) = true then (if 0 ≤ x204001 then (if x204001 < ((rd_L3 x0 x12).length : Int) then (if ((rdOf false (rd_L3 x0 x12) x204001) == x4) = true then (if x11.length < 17592186044416 then (spec_trOpen.l0 k x0 x2 x3 x4 (x11 ++ [x12]) (wrap64 (x12 + 1)) x204000 x204001) else (none)) else (spec_trOpen.l0 k x0 x2 x3 x4 x11 (wrap64 (x12 + 1)) x204000 x204001)) else (none)) else (none)) else (spec_trOpen.l0 k x0 x2 x3 x4 x11 (wrap64 (x12 + 1)) x204000 x204001)) else (none)) else (none)) else (none)) else (none)) else (if x4 = true then ((spec_trMade.f k x0 x11 ([] : List Int) (wrap64 (x2 - 2)) x4).bind fun t211 => (some (!t211))) else ((spec_trMade.f k x0 x11 ([] : List Int) (wrap64 (x3 - 2)) x4).bind fun t212 => (some (!t212))))
def spec_trOpen.f (k : Nat) (l0 : List (List Bool)) (a1_0 : Int) (a1_1 : Int) (a2 : Int) (a3 : Int) (a4 : Bool) : Option (Bool) := spec_trOpen.l0 k l0 a2 a3 a4 ([] : List Int) 0 a1_0 a1_1
theorem spec_trOpen.mono_l : ∀ k, (∀ y0 y1 y2 y3 y4 y5 y6 y7, LeO (spec_trOpen.l0 k y0 y1 y2 y3 y4 y5 y6 y7) (spec_trOpen.l0 (k + 1) y0 y1 y2 y3 y4 y5 y6 y7))
 | 0 => fun _ _ _ _ _ _ _ _ r h => by simp [spec_trOpen.l0] at h
 | k + 1 => by
  have ih0 := spec_trOpen.mono_l k
  ·intro y0 y1 y2 y3 y4 y5 y6 y7
   unfold spec_trOpen.l0
   repeat' first
   | (with_reducible exact ih0 _ _ _ _ _ _ _ _)
   | (with_reducible exact spec_trMade.mono _ _ _ _ _ _)
   | (with_reducible exact LeO.refl _)
   | (with_reducible exact LeO.none _)
   | (with_reducible refine LeO.ite ?_ ?_)
   | (with_reducible refine LeO.bind ?_ (fun _ => ?_))
   | exact ih0 _ _ _ _ _ _ _ _
   | exact spec_trMade.mono _ _ _ _ _ _
   | exact LeO.none _
   | refine LeO.ite ?_ ?_
   | refine LeO.bind ?_ (fun _ => ?_)
theorem spec_trOpen.mono : ∀ a0 a1 a2 a3 a4 a5 k, LeO (spec_trOpen.f k a0 a1 a2 a3 a4 a5) (spec_trOpen.f (k + 1) a0 a1 a2 a3 a4 a5) := by
 intro a0 a1 a2 a3 a4 a5 k
 have ih0 := spec_trOpen.mono_l k
 unfold spec_trOpen.f
 repeat' first
   | (with_reducible exact ih0 _ _ _ _ _ _ _ _)
   | (with_reducible exact spec_trMade.mono _ _ _ _ _ _)
   | (with_reducible exact LeO.refl _)
   | (with_reducible exact LeO.none _)
   | (with_reducible refine LeO.ite ?_ ?_)
   | (with_reducible refine LeO.bind ?_ (fun _ => ?_))
   | exact ih0 _ _ _ _ _ _ _ _
   | exact spec_trMade.mono _ _ _ _ _ _
   | exact LeO.none _
   | refine LeO.ite ?_ ?_
   | refine LeO.bind ?_ (fun _ => ?_)
set_option maxHeartbeats 8000000 in
set_option maxRecDepth 100000 in
theorem spec_trOpen.calls (k : Nat) (A0 : Option Addr) (c0 : Nat) (l0 : List (List Bool)) (a1_0 : Int) (a1_1 : Int) (a2 : Int) (a3 : Int) (a4 : Bool) (r : Bool) (w : World) (hr0 : Kd.C (Kd.slice 4 Kd.bool) w A0 l0.length l0) (hc0 : l0.length ≤ c0) (h : spec_trOpen.f k l0 a1_0 a1_1 a2 a3 a4 = some r) :
  Calls Tryd.prog 99 #[.slice A0 l0.length c0, .agg #[.int .i64 a1_0, .int .i64 a1_1], .int .i64 a2, .int .i64 a3, .bool a4] w fun e w' => e = .returned (.bool r) ∧ Below w.heap.size w w' := by
 have hu89 := Tryd.underlying89
 have HR0 := Aside0.mk hr0
 have HC0 := Aside0.mk hc0
 clear hr0 hc0
 have HB := Aside0.mk (Below.refl w.heap.size w)
 have H : (spec_trOpen.l0 k l0 a2 a3 a4 ([] : List Int) 0 a1_0 a1_1) = some r := h
 clear h
 have H' := Aside0.mk H
 clear H
 go_enter Tryd.func99, Tryd.ntmps99
 go_wp2_with (first | ((with_reducible refine gate_dst (N := 6) rfl ?_); refine box_event ?hg (N := 6) ?hd (cs := #[.int .i64 a1_0, .int .i64 a1_1]) (t := 89) ?hr ?_; (case hd => rfl); (case hg => rfl); (case hr => first | (go_simp; done) | (go_simp; rfl)); intro gb203 hg w6 hbox hb; have n0_ := hS HB hb; have n1_ := Aside0.mk (hbox); have n2_ := gS HB hg; have n3_ := gS HB hg; clear HB; have HB := n0_; have BK203 := n1_; have GW203 := n2_; have GE203 := n3_; clear n0_ n1_ n2_ n3_; clear hb hbox hg))
 repeat (go_quiet (first | ((with_reducible refine gate_dst (N := 6) rfl ?_); refine box_event ?hg (N := 6) ?hd (cs := #[.int .i64 a1_0, .int .i64 a1_1]) (t := 89) ?hr ?_; (case hd => rfl); (case hg => rfl); (case hr => first | (go_simp; done) | (go_simp; rfl)); intro gb203 hg w6 hbox hb; have n0_ := hS HB hb; have n1_ := Aside0.mk (hbox); have n2_ := gS HB hg; have n3_ := gS HB hg; clear HB; have HB := n0_; have BK203 := n1_; have GW203 := n2_; have GE203 := n3_; clear n0_ n1_ n2_ n3_; clear hb hbox hg)); try go_wp2_with (first | ((with_reducible refine gate_dst (N := 6) rfl ?_); refine box_event ?hg (N := 6) ?hd (cs := #[.int .i64 a1_0, .int .i64 a1_1]) (t := 89) ?hr ?_; (case hd => rfl); (case hg => rfl); (case hr => first | (go_simp; done) | (go_simp; rfl)); intro gb203 hg w6 hbox hb; have n0_ := hS HB hb; have n1_ := Aside0.mk (hbox); have n2_ := gS HB hg; have n3_ := gS HB hg; clear HB; have HB := n0_; have BK203 := n1_; have GW203 := n2_; have GE203 := n3_; clear n0_ n1_ n2_ n3_; clear hb hbox hg)))
 go_loopg [11, 12] k (fun kq v11 v12 w' => ∃ (x11_1 : List Int) (x12_1 : Int), v12 = .int .i64 x12_1 ∧ Aside0 (spec_trOpen.l0 kq l0 a2 a3 a4 x11_1 x12_1 a1_0 a1_1 = some r) ∧ Aside0 (kq ≤ k) ∧ Aside0 (Kd.R (Kd.int .i64) 3 w' w.heap.size (fun _ => True) v11 x11_1) ∧ Aside0 (w'.heap[gb203]? = some (.cells #[.int .i64 a1_0, .int .i64 a1_1] 89 (0, 0))) ∧ Aside0 (Below w.heap.size w w'))
 case atStart => exact ⟨(([] : List Int)), (0), (by first | rfl | (simp; done) | (simp [*]; done)), H', ⟨Nat.le_refl _⟩, ⟨by first | exact Kd.R_nil _ _ _ _ _ | exact Kd.N_nil _ _ _ _ _ | exact Kd.V_nil _ _ _ _ _ | exact Kd.Q_nil _ _ _ _ _ | exact Kd.S_nil _ _ _ _ _⟩, ⟨bK⟩, ⟨hB⟩⟩
 case round =>
  clear H'
  try clear p2
  obtain ⟨x11_1, x12_1, rfl, HA, HK1, HO_11, BK203, HB⟩ := hrel
  cases gk with
  | zero => exact absurd HA.out (by simp [spec_trOpen.l0])
  | succ k1 =>
   have H := HA.out
   clear HA
   simp only [spec_trOpen.l0] at H
   by_cases c7 : x12_1 < a1_0
   ·rw [if_pos c7] at H
    have c7b0 : decide (x12_1 < a1_0) = true := decide_eq_true c7
    clear c7
    by_cases c8 : 0 ≤ x12_1
    ·rw [if_pos c8] at H
     have c8b0 : decide (0 ≤ x12_1) = true := decide_eq_true c8
     clear c8
     by_cases c9 : x12_1 < (l0.length : Int)
     ·rw [if_pos c9] at H
      have c9b0 : decide (x12_1 < (l0.length : Int)) = true := decide_eq_true c9
      clear c9
      by_cases c10 : 0 ≤ a1_0
      ·rw [if_pos c10] at H
       have c10b0 : decide (0 ≤ a1_0) = true := decide_eq_true c10
       clear c10
       by_cases c11 : a1_0 < ((rd_L3 l0 x12_1).length : Int)
       ·rw [if_pos c11] at H
        have c11b0 : decide (a1_0 < ((rd_L3 l0 x12_1).length : Int)) = true := decide_eq_true c11
        clear c11
        by_cases c12 : ((rdOf false (rd_L3 l0 x12_1) a1_0) == a4) = true
        ·rw [if_pos c12] at H
         have c12b0 : ((rdOf false (rd_L3 l0 x12_1) a1_0) == a4) = true := c12
         (try (have c12b1 : decide ((rdOf false (rd_L3 l0 x12_1) a1_0) = a4) = true := by simpa using c12))
         (try (have c12b2 : ((rdOf false (rd_L3 l0 x12_1) a1_0) == a4) = true := by simpa using c12))
         clear c12
         by_cases c13 : 0 ≤ a1_1
         ·rw [if_pos c13] at H
          have c13b0 : decide (0 ≤ a1_1) = true := decide_eq_true c13
          clear c13
          by_cases c14 : a1_1 < ((rd_L3 l0 x12_1).length : Int)
          ·rw [if_pos c14] at H
           have c14b0 : decide (a1_1 < ((rd_L3 l0 x12_1).length : Int)) = true := decide_eq_true c14
           clear c14
           by_cases c15 : ((rdOf false (rd_L3 l0 x12_1) a1_1) == a4) = true
           ·rw [if_pos c15] at H
            have c15b0 : ((rdOf false (rd_L3 l0 x12_1) a1_1) == a4) = true := c15
            (try (have c15b1 : decide ((rdOf false (rd_L3 l0 x12_1) a1_1) = a4) = true := by simpa using c15))
            (try (have c15b2 : ((rdOf false (rd_L3 l0 x12_1) a1_1) == a4) = true := by simpa using c15))
            clear c15
            by_cases c16 : x11_1.length < 17592186044416
            ·rw [if_pos c16] at H
             have LMc16 := Aside0.mk c16
             clear c16
             obtain ⟨y208, hy208⟩ : ∃ y_ : List Int, y_ = (x11_1 ++ [x12_1]) := ⟨_, rfl⟩
             replace H : (spec_trOpen.l0 k1 l0 a2 a3 a4 y208 (wrap64 (x12_1 + 1)) a1_0 a1_1) = some r := by first | (rw [hy208]; with_reducible exact H) | (have H2_ := (Option.bind_some _ _).symm.trans H; rw [hy208]; with_reducible exact H2_) | (have H2_ := (Option.bind_some _ _).symm.trans H; with_reducible exact H2_) | with_reducible exact H | (rw [hy208]; exact H) | exact H
             have Ny208 := Aside0.mk hy208
             clear hy208
             have H' := Aside0.mk H
             clear H
             have hcz17_0 : wr.cell? ⟨gb203, 0, none⟩ = some (.int .i64 a1_0) := (blk_cell BK203.out 0).trans rfl
             have hcz17_1 : wr.cell? ⟨gb203, 1, none⟩ = some (.int .i64 a1_1) := (blk_cell BK203.out 1).trans rfl
             have hfz17_0 := blk_frozen BK203.out 0
             have hfz17_1 := blk_frozen BK203.out 1
             have p204 : 0 ≤ (x12_1 : Int) := of_decide_eq_true (by first | (with_reducible assumption) | assumption)
             have q204 : x12_1 < (l0.length : Int) := of_decide_eq_true (by first | (with_reducible assumption) | assumption)
             obtain ⟨ad204, A204_0, c204_0, e204, hx204_0, hl204_0, hi204_0⟩ := at_L3 HR0.out x12_1 p204 q204
             cases e204
             replace hx204_0 := (HB.out.cell (World.block_lt_of_cell? w _ hx204_0)).trans hx204_0
             have HR204_0 := Aside0.mk hi204_0
             have HC204_0 := Aside0.mk hl204_0
             clear hi204_0 hl204_0
             replace p204 := eq_true p204
             replace q204 := eq_true q204
             have p205 : 0 ≤ (a1_0 : Int) := of_decide_eq_true (by first | (with_reducible assumption) | assumption)
             have q205 : a1_0 < ((rd_L3 l0 x12_1).length : Int) := of_decide_eq_true (by first | (with_reducible assumption) | assumption)
             obtain ⟨ad205, e205, hx205_0⟩ := Kd.at_bool HR204_0.out a1_0 p205 q205
             cases e205
             replace hx205_0 := (HB.out.cell (World.block_lt_of_cell? w _ hx205_0)).trans hx205_0
             replace p205 := eq_true p205
             replace q205 := eq_true q205
             have p206 : 0 ≤ (x12_1 : Int) := of_decide_eq_true (by first | (with_reducible assumption) | assumption)
             have q206 : x12_1 < (l0.length : Int) := of_decide_eq_true (by first | (with_reducible assumption) | assumption)
             obtain ⟨ad206, A206_0, c206_0, e206, hx206_0, hl206_0, hi206_0⟩ := at_L3 HR0.out x12_1 p206 q206
             obtain rfl : ad204 = ad206 := (by injection e206)
             replace hx206_0 := (HB.out.cell (World.block_lt_of_cell? w _ hx206_0)).trans hx206_0
             have HR206_0 := Aside0.mk hi206_0
             have HC206_0 := Aside0.mk hl206_0
             clear hi206_0 hl206_0
             replace p206 := eq_true p206
             replace q206 := eq_true q206
             have ea_ := Option.some.inj (hx204_0.symm.trans hx206_0)
             injection ea_ with ea_ en_ ec_
             subst ea_
             subst ec_
             clear en_
             have p207 : 0 ≤ (a1_1 : Int) := of_decide_eq_true (by first | (with_reducible assumption) | assumption)
             have q207 : a1_1 < ((rd_L3 l0 x12_1).length : Int) := of_decide_eq_true (by first | (with_reducible assumption) | assumption)
             obtain ⟨ad207, e207, hx207_0⟩ := Kd.at_bool HR206_0.out a1_1 p207 q207
             cases e207
             replace hx207_0 := (HB.out.cell (World.block_lt_of_cell? w _ hx207_0)).trans hx207_0
             replace p207 := eq_true p207
             replace q207 := eq_true q207
             go_wp2_with (first | ((with_reducible refine gate_builtin (b := .append) (xs := #[.tmp 42, .tmp 44]) rfl ?_); at_builtin; refine Kd.R_append (Kd.int .i64) (w0 := w) w.heap.size rfl (.tmp 42) (.tmp 44) 81 3 (.int .i64 0) 8 rfl Tryd.underlying81 info3 rfl (by decide) (by omega) u11 x11_1 x12_1 [.int .i64 x12_1] (fun _ => True) (fun _ => False) rfl rfl ?aP (fun _ hk => hk.elim) ?aF ?aO ?aB ?aS ?aL ?_; (case aP => exact rfl); (case aB => exact hB); (case aF => exact (fun _ _ => trivial)); (case aO => exact (by (with_reducible repeat (first | apply Kd.R_alloc | apply Kd.R_drewN | apply Kd.R_drew)); exact HO_11.out)); (case aS => exact (below_size hB)); (case aL => have := LMc16.out; omega); intro v209 w18 ho hb hg hat; rw [← Ny208.out] at ho; have n0_ := Aside0.mk (blk_grown (g := gb203) (o := .cells #[.int .i64 a1_0, .int .i64 a1_1] 89 (0, 0)) bK hg (Kd.R_ne HO_11.out BK203.out (by decide))); have n1_ := Aside0.mk (hb); have n2_ := Aside0.mk (ho); clear BK203; clear HB; clear HO_11; have BK203 := n0_; have HB := n1_; have HO210 := n2_; clear n0_ n1_ n2_; clear ho hb hg hat))
             repeat (go_quiet (first | ((with_reducible refine gate_builtin (b := .append) (xs := #[.tmp 42, .tmp 44]) rfl ?_); at_builtin; refine Kd.R_append (Kd.int .i64) (w0 := w) w.heap.size rfl (.tmp 42) (.tmp 44) 81 3 (.int .i64 0) 8 rfl Tryd.underlying81 info3 rfl (by decide) (by omega) u11 x11_1 x12_1 [.int .i64 x12_1] (fun _ => True) (fun _ => False) rfl rfl ?aP (fun _ hk => hk.elim) ?aF ?aO ?aB ?aS ?aL ?_; (case aP => exact rfl); (case aB => exact hB); (case aF => exact (fun _ _ => trivial)); (case aO => exact (by (with_reducible repeat (first | apply Kd.R_alloc | apply Kd.R_drewN | apply Kd.R_drew)); exact HO_11.out)); (case aS => exact (below_size hB)); (case aL => have := LMc16.out; omega); intro v209 w18 ho hb hg hat; rw [← Ny208.out] at ho; have n0_ := Aside0.mk (blk_grown (g := gb203) (o := .cells #[.int .i64 a1_0, .int .i64 a1_1] 89 (0, 0)) bK hg (Kd.R_ne HO_11.out BK203.out (by decide))); have n1_ := Aside0.mk (hb); have n2_ := Aside0.mk (ho); clear BK203; clear HB; clear HO_11; have BK203 := n0_; have HB := n1_; have HO210 := n2_; clear n0_ n1_ n2_; clear ho hb hg hat)); try go_wp2_with (first | ((with_reducible refine gate_builtin (b := .append) (xs := #[.tmp 42, .tmp 44]) rfl ?_); at_builtin; refine Kd.R_append (Kd.int .i64) (w0 := w) w.heap.size rfl (.tmp 42) (.tmp 44) 81 3 (.int .i64 0) 8 rfl Tryd.underlying81 info3 rfl (by decide) (by omega) u11 x11_1 x12_1 [.int .i64 x12_1] (fun _ => True) (fun _ => False) rfl rfl ?aP (fun _ hk => hk.elim) ?aF ?aO ?aB ?aS ?aL ?_; (case aP => exact rfl); (case aB => exact hB); (case aF => exact (fun _ _ => trivial)); (case aO => exact (by (with_reducible repeat (first | apply Kd.R_alloc | apply Kd.R_drewN | apply Kd.R_drew)); exact HO_11.out)); (case aS => exact (below_size hB)); (case aL => have := LMc16.out; omega); intro v209 w18 ho hb hg hat; rw [← Ny208.out] at ho; have n0_ := Aside0.mk (blk_grown (g := gb203) (o := .cells #[.int .i64 a1_0, .int .i64 a1_1] 89 (0, 0)) bK hg (Kd.R_ne HO_11.out BK203.out (by decide))); have n1_ := Aside0.mk (hb); have n2_ := Aside0.mk (ho); clear BK203; clear HB; clear HO_11; have BK203 := n0_; have HB := n1_; have HO210 := n2_; clear n0_ n1_ n2_; clear ho hb hg hat)))
             go_roundg k1
             case measure => have := HK1.out; omega
             case rel => exact ⟨(y208), (wrap64 (x12_1 + 1)), (by first | rfl | (simp; done) | (simp [*]; done)), H', ⟨by have := HK1.out; omega⟩, ⟨by (with_reducible repeat (first | apply Kd.R_alloc | apply Kd.R_drewN | apply Kd.R_drew)); exact HO210.out⟩, ⟨bK⟩, ⟨hB⟩⟩
            ·rw [if_neg c16] at H
             exact absurd H (by simp)
           ·rw [if_neg c15] at H
            have c15b0 : ((rdOf false (rd_L3 l0 x12_1) a1_1) == a4) = false := by simpa using c15
            (try (have c15b1 : decide ((rdOf false (rd_L3 l0 x12_1) a1_1) = a4) = false := by simpa using c15))
            (try (have c15b2 : ((rdOf false (rd_L3 l0 x12_1) a1_1) == a4) = false := by simpa using c15))
            (try (have c15b3 : ¬ ((rdOf false (rd_L3 l0 x12_1) a1_1) = a4) := by simpa using c15))
            clear c15
            have H' := Aside0.mk H
            clear H
            have hcz19_0 : wr.cell? ⟨gb203, 0, none⟩ = some (.int .i64 a1_0) := (blk_cell BK203.out 0).trans rfl
            have hcz19_1 : wr.cell? ⟨gb203, 1, none⟩ = some (.int .i64 a1_1) := (blk_cell BK203.out 1).trans rfl
            have hfz19_0 := blk_frozen BK203.out 0
            have hfz19_1 := blk_frozen BK203.out 1
            have p204 : 0 ≤ (x12_1 : Int) := of_decide_eq_true (by first | (with_reducible assumption) | assumption)
            have q204 : x12_1 < (l0.length : Int) := of_decide_eq_true (by first | (with_reducible assumption) | assumption)
            obtain ⟨ad204, A204_0, c204_0, e204, hx204_0, hl204_0, hi204_0⟩ := at_L3 HR0.out x12_1 p204 q204
            cases e204
            replace hx204_0 := (HB.out.cell (World.block_lt_of_cell? w _ hx204_0)).trans hx204_0
            have HR204_0 := Aside0.mk hi204_0
            have HC204_0 := Aside0.mk hl204_0
            clear hi204_0 hl204_0
            replace p204 := eq_true p204
            replace q204 := eq_true q204
            have p205 : 0 ≤ (a1_0 : Int) := of_decide_eq_true (by first | (with_reducible assumption) | assumption)
            have q205 : a1_0 < ((rd_L3 l0 x12_1).length : Int) := of_decide_eq_true (by first | (with_reducible assumption) | assumption)
            obtain ⟨ad205, e205, hx205_0⟩ := Kd.at_bool HR204_0.out a1_0 p205 q205
            cases e205
            replace hx205_0 := (HB.out.cell (World.block_lt_of_cell? w _ hx205_0)).trans hx205_0
            replace p205 := eq_true p205
            replace q205 := eq_true q205
            have p206 : 0 ≤ (x12_1 : Int) := of_decide_eq_true (by first | (with_reducible assumption) | assumption)
            have q206 : x12_1 < (l0.length : Int) := of_decide_eq_true (by first | (with_reducible assumption) | assumption)
            obtain ⟨ad206, A206_0, c206_0, e206, hx206_0, hl206_0, hi206_0⟩ := at_L3 HR0.out x12_1 p206 q206
            obtain rfl : ad204 = ad206 := (by injection e206)
            replace hx206_0 := (HB.out.cell (World.block_lt_of_cell? w _ hx206_0)).trans hx206_0
            have HR206_0 := Aside0.mk hi206_0
            have HC206_0 := Aside0.mk hl206_0
            clear hi206_0 hl206_0
            replace p206 := eq_true p206
            replace q206 := eq_true q206
            have ea_ := Option.some.inj (hx204_0.symm.trans hx206_0)
            injection ea_ with ea_ en_ ec_
            subst ea_
            subst ec_
            clear en_
            have p207 : 0 ≤ (a1_1 : Int) := of_decide_eq_true (by first | (with_reducible assumption) | assumption)
            have q207 : a1_1 < ((rd_L3 l0 x12_1).length : Int) := of_decide_eq_true (by first | (with_reducible assumption) | assumption)
            obtain ⟨ad207, e207, hx207_0⟩ := Kd.at_bool HR206_0.out a1_1 p207 q207
            cases e207
            replace hx207_0 := (HB.out.cell (World.block_lt_of_cell? w _ hx207_0)).trans hx207_0
            replace p207 := eq_true p207
            replace q207 := eq_true q207
            go_wp2
            repeat (go_quiet (fail); try go_wp2)
            go_roundg k1
            case measure => have := HK1.out; omega
            case rel => exact ⟨(x11_1), (wrap64 (x12_1 + 1)), (by first | rfl | (simp; done) | (simp [*]; done)), H', ⟨by have := HK1.out; omega⟩, ⟨by (with_reducible repeat (first | apply Kd.R_alloc | apply Kd.R_drewN | apply Kd.R_drew)); exact HO_11.out⟩, ⟨bK⟩, ⟨hB⟩⟩
          ·rw [if_neg c14] at H
           exact absurd H (by simp)
         ·rw [if_neg c13] at H
          exact absurd H (by simp)
        ·rw [if_neg c12] at H
         have c12b0 : ((rdOf false (rd_L3 l0 x12_1) a1_0) == a4) = false := by simpa using c12
         (try (have c12b1 : decide ((rdOf false (rd_L3 l0 x12_1) a1_0) = a4) = false := by simpa using c12))
         (try (have c12b2 : ((rdOf false (rd_L3 l0 x12_1) a1_0) == a4) = false := by simpa using c12))
         (try (have c12b3 : ¬ ((rdOf false (rd_L3 l0 x12_1) a1_0) = a4) := by simpa using c12))
         clear c12
         have H' := Aside0.mk H
         clear H
         have hcz20_0 : wr.cell? ⟨gb203, 0, none⟩ = some (.int .i64 a1_0) := (blk_cell BK203.out 0).trans rfl
         have hcz20_1 : wr.cell? ⟨gb203, 1, none⟩ = some (.int .i64 a1_1) := (blk_cell BK203.out 1).trans rfl
         have hfz20_0 := blk_frozen BK203.out 0
         have hfz20_1 := blk_frozen BK203.out 1
         have p204 : 0 ≤ (x12_1 : Int) := of_decide_eq_true (by first | (with_reducible assumption) | assumption)
         have q204 : x12_1 < (l0.length : Int) := of_decide_eq_true (by first | (with_reducible assumption) | assumption)
         obtain ⟨ad204, A204_0, c204_0, e204, hx204_0, hl204_0, hi204_0⟩ := at_L3 HR0.out x12_1 p204 q204
         cases e204
         replace hx204_0 := (HB.out.cell (World.block_lt_of_cell? w _ hx204_0)).trans hx204_0
         have HR204_0 := Aside0.mk hi204_0
         have HC204_0 := Aside0.mk hl204_0
         clear hi204_0 hl204_0
         replace p204 := eq_true p204
         replace q204 := eq_true q204
         have p205 : 0 ≤ (a1_0 : Int) := of_decide_eq_true (by first | (with_reducible assumption) | assumption)
         have q205 : a1_0 < ((rd_L3 l0 x12_1).length : Int) := of_decide_eq_true (by first | (with_reducible assumption) | assumption)
         obtain ⟨ad205, e205, hx205_0⟩ := Kd.at_bool HR204_0.out a1_0 p205 q205
         cases e205
         replace hx205_0 := (HB.out.cell (World.block_lt_of_cell? w _ hx205_0)).trans hx205_0
         replace p205 := eq_true p205
         replace q205 := eq_true q205
         go_wp2
         repeat (go_quiet (fail); try go_wp2)
         go_roundg k1
         case measure => have := HK1.out; omega
         case rel => exact ⟨(x11_1), (wrap64 (x12_1 + 1)), (by first | rfl | (simp; done) | (simp [*]; done)), H', ⟨by have := HK1.out; omega⟩, ⟨by (with_reducible repeat (first | apply Kd.R_alloc | apply Kd.R_drewN | apply Kd.R_drew)); exact HO_11.out⟩, ⟨bK⟩, ⟨hB⟩⟩
       ·rw [if_neg c11] at H
        exact absurd H (by simp)
      ·rw [if_neg c10] at H
       exact absurd H (by simp)
     ·rw [if_neg c9] at H
      exact absurd H (by simp)
    ·rw [if_neg c8] at H
     exact absurd H (by simp)
   ·rw [if_neg c7] at H
    have c7b0 : decide (x12_1 < a1_0) = false := decide_eq_false c7
    clear c7
    by_cases c21 : a4 = true
    ·subst c21
     have H1 : ((spec_trMade.f k1 l0 x11_1 ([] : List Int) (wrap64 (a2 - 2)) true).bind fun t211 => (some (!t211))) = some r := by rw [if_pos rfl] at H; exact H
     clear H
     have H := H1
     clear H1
     replace H := Option.bind_eq_some_iff.mp H
     obtain ⟨t211, A220, H⟩ := H
     replace H : (some (!t211)) = some r := H
     have A22 := Aside0.mk A220
     clear A220
     obtain rfl := Option.some.inj H
     have hcz23_0 : wr.cell? ⟨gb203, 0, none⟩ = some (.int .i64 a1_0) := (blk_cell BK203.out 0).trans rfl
     have hcz23_1 : wr.cell? ⟨gb203, 1, none⟩ = some (.int .i64 a1_1) := (blk_cell BK203.out 1).trans rfl
     have hfz23_0 := blk_frozen BK203.out 0
     have hfz23_1 := blk_frozen BK203.out 1
     obtain ⟨Ao24, co24, eo24⟩ := Kd.R_slice HO_11.out
     subst eo24
     go_wp2_with (first | (go_at_call 124; (refine (spec_trMade.calls k1 _ _ l0 _ _ x11_1 _ _ ([] : List Int) (wrap64 (a2 - 2)) true t211 _ ?side1 ?side2 ?side3 ?side4 ?side5 ?side6 A22.out).mono ?_); (case side1 => repeat (first | exact (Kd.C_below HR0.out HB.out) | (with_reducible refine Kd.C_alloc ?_ _) | (with_reducible refine Kd.C_drewN ?_ _) | (with_reducible refine Kd.C_drew ?_))); (case side2 => exact HC0.out); (case side3 => repeat (first | exact (Kd.R_reads' HO_11.out).2.2 | (with_reducible refine Kd.C_alloc ?_ _) | (with_reducible refine Kd.C_drewN ?_ _) | (with_reducible refine Kd.C_drew ?_))); (case side4 => exact (Kd.R_reads' HO_11.out).2.1); (case side5 => exact Kd.C_nil _ _); (case side6 => exact Nat.le_refl _); rintro e w25 ⟨rfl, hb⟩; have n0_ := Aside0.mk (Kd.R_below (by (with_reducible repeat (first | apply Kd.R_alloc | apply Kd.R_drewN | apply Kd.R_drew)); exact HO_11.out) hb); have n1_ := bS BK203 hb; have n2_ := hS HB hb; clear HO_11; clear BK203; clear HB; have HO_11 := n0_; have BK203 := n1_; have HB := n2_; clear n0_ n1_ n2_; (try clear hb); (try clear hb2); (try clear hk); (try clear hi)))
     repeat (go_quiet (first | (go_at_call 124; (refine (spec_trMade.calls k1 _ _ l0 _ _ x11_1 _ _ ([] : List Int) (wrap64 (a2 - 2)) true t211 _ ?side1 ?side2 ?side3 ?side4 ?side5 ?side6 A22.out).mono ?_); (case side1 => repeat (first | exact (Kd.C_below HR0.out HB.out) | (with_reducible refine Kd.C_alloc ?_ _) | (with_reducible refine Kd.C_drewN ?_ _) | (with_reducible refine Kd.C_drew ?_))); (case side2 => exact HC0.out); (case side3 => repeat (first | exact (Kd.R_reads' HO_11.out).2.2 | (with_reducible refine Kd.C_alloc ?_ _) | (with_reducible refine Kd.C_drewN ?_ _) | (with_reducible refine Kd.C_drew ?_))); (case side4 => exact (Kd.R_reads' HO_11.out).2.1); (case side5 => exact Kd.C_nil _ _); (case side6 => exact Nat.le_refl _); rintro e w25 ⟨rfl, hb⟩; have n0_ := Aside0.mk (Kd.R_below (by (with_reducible repeat (first | apply Kd.R_alloc | apply Kd.R_drewN | apply Kd.R_drew)); exact HO_11.out) hb); have n1_ := bS BK203 hb; have n2_ := hS HB hb; clear HO_11; clear BK203; clear HB; have HO_11 := n0_; have BK203 := n1_; have HB := n2_; clear n0_ n1_ n2_; (try clear hb); (try clear hb2); (try clear hk); (try clear hi))); try go_wp2_with (first | (go_at_call 124; (refine (spec_trMade.calls k1 _ _ l0 _ _ x11_1 _ _ ([] : List Int) (wrap64 (a2 - 2)) true t211 _ ?side1 ?side2 ?side3 ?side4 ?side5 ?side6 A22.out).mono ?_); (case side1 => repeat (first | exact (Kd.C_below HR0.out HB.out) | (with_reducible refine Kd.C_alloc ?_ _) | (with_reducible refine Kd.C_drewN ?_ _) | (with_reducible refine Kd.C_drew ?_))); (case side2 => exact HC0.out); (case side3 => repeat (first | exact (Kd.R_reads' HO_11.out).2.2 | (with_reducible refine Kd.C_alloc ?_ _) | (with_reducible refine Kd.C_drewN ?_ _) | (with_reducible refine Kd.C_drew ?_))); (case side4 => exact (Kd.R_reads' HO_11.out).2.1); (case side5 => exact Kd.C_nil _ _); (case side6 => exact Nat.le_refl _); rintro e w25 ⟨rfl, hb⟩; have n0_ := Aside0.mk (Kd.R_below (by (with_reducible repeat (first | apply Kd.R_alloc | apply Kd.R_drewN | apply Kd.R_drew)); exact HO_11.out) hb); have n1_ := bS BK203 hb; have n2_ := hS HB hb; clear HO_11; clear BK203; clear HB; have HO_11 := n0_; have BK203 := n1_; have HB := n2_; clear n0_ n1_ n2_; (try clear hb); (try clear hb2); (try clear hk); (try clear hi))))
     go_ret
     exact ⟨by first | rfl | (simp [errW_none, errW_some] <;> rfl) | (simp [*, errW_none, errW_some] <;> rfl), hB⟩
    ·replace c21 := Bool.eq_false_iff.mpr c21
     subst c21
     have H1 : ((spec_trMade.f k1 l0 x11_1 ([] : List Int) (wrap64 (a3 - 2)) false).bind fun t212 => (some (!t212))) = some r := by rw [if_neg (show ¬ (false = true) by decide)] at H; exact H
     clear H
     have H := H1
     clear H1
     replace H := Option.bind_eq_some_iff.mp H
     obtain ⟨t212, A260, H⟩ := H
     replace H : (some (!t212)) = some r := H
     have A26 := Aside0.mk A260
     clear A260
     obtain rfl := Option.some.inj H
     have hcz27_0 : wr.cell? ⟨gb203, 0, none⟩ = some (.int .i64 a1_0) := (blk_cell BK203.out 0).trans rfl
     have hcz27_1 : wr.cell? ⟨gb203, 1, none⟩ = some (.int .i64 a1_1) := (blk_cell BK203.out 1).trans rfl
     have hfz27_0 := blk_frozen BK203.out 0
     have hfz27_1 := blk_frozen BK203.out 1
     obtain ⟨Ao28, co28, eo28⟩ := Kd.R_slice HO_11.out
     subst eo28
     go_wp2_with (first | (go_at_call 124; (refine (spec_trMade.calls k1 _ _ l0 _ _ x11_1 _ _ ([] : List Int) (wrap64 (a3 - 2)) false t212 _ ?side1 ?side2 ?side3 ?side4 ?side5 ?side6 A26.out).mono ?_); (case side1 => repeat (first | exact (Kd.C_below HR0.out HB.out) | (with_reducible refine Kd.C_alloc ?_ _) | (with_reducible refine Kd.C_drewN ?_ _) | (with_reducible refine Kd.C_drew ?_))); (case side2 => exact HC0.out); (case side3 => repeat (first | exact (Kd.R_reads' HO_11.out).2.2 | (with_reducible refine Kd.C_alloc ?_ _) | (with_reducible refine Kd.C_drewN ?_ _) | (with_reducible refine Kd.C_drew ?_))); (case side4 => exact (Kd.R_reads' HO_11.out).2.1); (case side5 => exact Kd.C_nil _ _); (case side6 => exact Nat.le_refl _); rintro e w29 ⟨rfl, hb⟩; have n0_ := Aside0.mk (Kd.R_below (by (with_reducible repeat (first | apply Kd.R_alloc | apply Kd.R_drewN | apply Kd.R_drew)); exact HO_11.out) hb); have n1_ := bS BK203 hb; have n2_ := hS HB hb; clear HO_11; clear BK203; clear HB; have HO_11 := n0_; have BK203 := n1_; have HB := n2_; clear n0_ n1_ n2_; (try clear hb); (try clear hb2); (try clear hk); (try clear hi)))
     repeat (go_quiet (first | (go_at_call 124; (refine (spec_trMade.calls k1 _ _ l0 _ _ x11_1 _ _ ([] : List Int) (wrap64 (a3 - 2)) false t212 _ ?side1 ?side2 ?side3 ?side4 ?side5 ?side6 A26.out).mono ?_); (case side1 => repeat (first | exact (Kd.C_below HR0.out HB.out) | (with_reducible refine Kd.C_alloc ?_ _) | (with_reducible refine Kd.C_drewN ?_ _) | (with_reducible refine Kd.C_drew ?_))); (case side2 => exact HC0.out); (case side3 => repeat (first | exact (Kd.R_reads' HO_11.out).2.2 | (with_reducible refine Kd.C_alloc ?_ _) | (with_reducible refine Kd.C_drewN ?_ _) | (with_reducible refine Kd.C_drew ?_))); (case side4 => exact (Kd.R_reads' HO_11.out).2.1); (case side5 => exact Kd.C_nil _ _); (case side6 => exact Nat.le_refl _); rintro e w29 ⟨rfl, hb⟩; have n0_ := Aside0.mk (Kd.R_below (by (with_reducible repeat (first | apply Kd.R_alloc | apply Kd.R_drewN | apply Kd.R_drew)); exact HO_11.out) hb); have n1_ := bS BK203 hb; have n2_ := hS HB hb; clear HO_11; clear BK203; clear HB; have HO_11 := n0_; have BK203 := n1_; have HB := n2_; clear n0_ n1_ n2_; (try clear hb); (try clear hb2); (try clear hk); (try clear hi))); try go_wp2_with (first | (go_at_call 124; (refine (spec_trMade.calls k1 _ _ l0 _ _ x11_1 _ _ ([] : List Int) (wrap64 (a3 - 2)) false t212 _ ?side1 ?side2 ?side3 ?side4 ?side5 ?side6 A26.out).mono ?_); (case side1 => repeat (first | exact (Kd.C_below HR0.out HB.out) | (with_reducible refine Kd.C_alloc ?_ _) | (with_reducible refine Kd.C_drewN ?_ _) | (with_reducible refine Kd.C_drew ?_))); (case side2 => exact HC0.out); (case side3 => repeat (first | exact (Kd.R_reads' HO_11.out).2.2 | (with_reducible refine Kd.C_alloc ?_ _) | (with_reducible refine Kd.C_drewN ?_ _) | (with_reducible refine Kd.C_drew ?_))); (case side4 => exact (Kd.R_reads' HO_11.out).2.1); (case side5 => exact Kd.C_nil _ _); (case side6 => exact Nat.le_refl _); rintro e w29 ⟨rfl, hb⟩; have n0_ := Aside0.mk (Kd.R_below (by (with_reducible repeat (first | apply Kd.R_alloc | apply Kd.R_drewN | apply Kd.R_drew)); exact HO_11.out) hb); have n1_ := bS BK203 hb; have n2_ := hS HB hb; clear HO_11; clear BK203; clear HB; have HO_11 := n0_; have BK203 := n1_; have HB := n2_; clear n0_ n1_ n2_; (try clear hb); (try clear hb2); (try clear hk); (try clear hi))))
     go_ret
     exact ⟨by first | rfl | (simp [errW_none, errW_some] <;> rfl) | (simp [*, errW_none, errW_some] <;> rfl), hB⟩

/-! ### spec_trCount: function 57 (a text of this session's own) -/
/-- One half of the count: a pair is set, and if it is open still, the rest is counted. -/
def trHalf (g : List (List Bool) → Option (Int × List (List Bool))) (k : Nat) (T : List (List Bool)) (x : S89) (r s : Int) (f : Bool) (sum : Int) : Option (Int × List (List Bool)) :=
  (setT T x.f0 x.f1 f).bind fun T1 => (spec_trOpen.f k T1 x.f0 x.f1 r s f).bind fun o => if o = true then ((g T1).bind fun z => some (wrap64 (sum + z.1), z.2)) else some (sum, T1)
def spec_trCount.f : Nat → List (List Bool) → List S89 → Int → Int → Int → Option (Int × List (List Bool))
 | 0, _, _, _, _, _ => none
 | k + 1, T, ps, fr, r, s => if fr = (ps.length : Int) then ((spec_paOf.f k T).bind fun p => (spec_trNeither.f k p.1 p.2 r s).bind fun t => if t = true then some (1, T) else some (0, T)) else (if 0 ≤ fr then (if fr < (ps.length : Int) then ((trHalf (fun T1 => spec_trCount.f k T1 ps (wrap64 (fr + 1)) r s) k T (rd_T89 ps fr) r s true 0).bind fun q => (trHalf (fun T1 => spec_trCount.f k T1 ps (wrap64 (fr + 1)) r s) k q.2 (rd_T89 ps fr) r s false q.1).bind fun q2 => (setT q2.2 (rd_T89 ps fr).f0 (rd_T89 ps fr).f1 false).bind fun T3 => some (q2.1, T3)) else none) else none)
theorem trHalf.mono (g g' : List (List Bool) → Option (Int × List (List Bool))) (hg : ∀ T, LeO (g T) (g' T)) (k : Nat) (T : List (List Bool)) (x : S89) (r s : Int) (f : Bool) (sum : Int) : LeO (trHalf g k T x r s f sum) (trHalf g' (k + 1) T x r s f sum) := by
  unfold trHalf
  refine LeO.bind (LeO.refl _) (fun T1 => LeO.bind (spec_trOpen.mono _ _ _ _ _ _ _) (fun o => LeO.ite (LeO.bind (hg _) (fun _ => LeO.refl _)) (LeO.refl _)))
theorem spec_trCount.mono_l : ∀ k, ∀ y0 y1 y2 y3 y4, LeO (spec_trCount.f k y0 y1 y2 y3 y4) (spec_trCount.f (k + 1) y0 y1 y2 y3 y4)
 | 0 => fun _ _ _ _ _ r h => by simp [spec_trCount.f] at h
 | k + 1 => by
  have ih := spec_trCount.mono_l k
  intro y0 y1 y2 y3 y4
  unfold spec_trCount.f
  refine LeO.ite (LeO.bind (spec_paOf.mono _ _) (fun _ => LeO.bind (spec_trNeither.mono _ _ _ _ _) (fun _ => LeO.refl _))) (LeO.ite (LeO.ite (LeO.bind (trHalf.mono _ _ (fun T => ih T _ _ _ _) _ _ _ _ _ _ _) (fun _ => LeO.bind (trHalf.mono _ _ (fun T => ih T _ _ _ _) _ _ _ _ _ _ _) (fun _ => LeO.refl _))) (LeO.refl _)) (LeO.refl _))
set_option maxHeartbeats 8000000 in
set_option maxRecDepth 100000 in
theorem spec_trCount.calls : ∀ (k : Nat) (A : Option Addr) (n cap : Nat) (T : List (List Bool)) (Ap : Option Addr) (cp : Nat) (ps : List S89) (fr r s : Int) (z : Int × List (List Bool)) (w : World) (base : Nat) (ok : Nat → Prop)
    (_HO : Kd.S (Kd.slice 4 Kd.bool) 122 w base ok (.slice A n cap) T) (_hp : Kd.F k89 w (fun k => ¬ ok k) Ap ps.length ps) (_hcp : ps.length ≤ cp) (_hok : ∀ k, ok k → k < w.heap.size) (_hbase : base ≤ w.heap.size) (_h : spec_trCount.f k T ps fr r s = some z),
    Calls Tryd.prog 57 #[.slice A n cap, .slice Ap ps.length cp, .int .i64 fr, .int .i64 r, .int .i64 s] w fun e w' => e = .returned (.int .i64 z.1) ∧ TSt w base ok (.slice A n cap) w' z.2 := by
  intro k
  induction k using Nat.strongRecOn with
  | ind k ih =>
    intro A n cap T Ap cp ps fr r s z w base ok HO hp hcp hok hbase h
    cases k with
    | zero => simp [spec_trCount.f] at h
    | succ k =>
      simp only [spec_trCount.f] at h
      have hn := (Kd.S_reads' HO).1
      have hcn := (Kd.S_reads' HO).2.1
      by_cases c1 : fr = (ps.length : Int)
      · subst hn
        rw [if_pos c1] at h
        have c1b : (fr == (ps.length : Int)) = true := beq_iff_eq.mpr c1
        replace h := Option.bind_eq_some_iff.mp h
        obtain ⟨⟨p1, p2⟩, hp1, h⟩ := h
        replace h := Option.bind_eq_some_iff.mp h
        obtain ⟨t, ht, h⟩ := h
        have HOf := Aside0.mk hp1
        have HNe := Aside0.mk ht
        have HS := Aside0.mk (TSt.refl HO)
        have HC := Aside0.mk (Kd.S_reads' HO).2.2
        clear hp1 ht HO hp ih c1
        cases t with
        | true =>
          rw [if_pos rfl] at h
          obtain rfl := Option.some.inj h
          clear h
          go_enter Tryd.func57, Tryd.ntmps57
          go_wp2_with (first
            | (go_at_call 63; refine (spec_paOf.calls k A cap T p1 p2 _ HC.out hcn HOf.out).mono ?_; rintro e w1 ⟨v1, rfl, ho, hb⟩; have HO1 := Aside0.mk ho; have HB1 := Aside0.mk hb; clear ho hb; obtain ⟨A1, c1, rfl⟩ := Kd.R_slice HO1.out)
            | (go_at_call 45; refine (spec_trNeither.calls k p1 A1 c1 p2 r s true _ (Kd.R_reads' HO1.out).2.2 (Kd.R_reads' HO1.out).2.1 HNe.out).mono ?_; rintro e w2 ⟨rfl, hb⟩; have HB2 := Aside0.mk hb; clear hb))
          go_ret
          exact ⟨rfl, (HS.out.later hbase HB1.out).later (Nat.le_trans hbase HB1.out.size) HB2.out⟩
        | false =>
          rw [if_neg (by simp)] at h
          obtain rfl := Option.some.inj h
          clear h
          go_enter Tryd.func57, Tryd.ntmps57
          go_wp2_with (first
            | (go_at_call 63; refine (spec_paOf.calls k A cap T p1 p2 _ HC.out hcn HOf.out).mono ?_; rintro e w1 ⟨v1, rfl, ho, hb⟩; have HO1 := Aside0.mk ho; have HB1 := Aside0.mk hb; clear ho hb; obtain ⟨A1, c1, rfl⟩ := Kd.R_slice HO1.out)
            | (go_at_call 45; refine (spec_trNeither.calls k p1 A1 c1 p2 r s false _ (Kd.R_reads' HO1.out).2.2 (Kd.R_reads' HO1.out).2.1 HNe.out).mono ?_; rintro e w2 ⟨rfl, hb⟩; have HB2 := Aside0.mk hb; clear hb))
          go_ret
          exact ⟨rfl, (HS.out.later hbase HB1.out).later (Nat.le_trans hbase HB1.out.size) HB2.out⟩
      · rw [if_neg c1] at h
        have c1b : (fr == (ps.length : Int)) = false := beq_eq_false_iff_ne.mpr c1
        by_cases c2 : 0 ≤ fr
        · by_cases c3 : fr < (ps.length : Int)
          · rw [if_pos c2, if_pos c3] at h
            obtain ⟨x, hx⟩ : ∃ x_, x_ = rd_T89 ps fr := ⟨_, rfl⟩
            rw [← hx] at h
            replace h := Option.bind_eq_some_iff.mp h
            obtain ⟨q, hq, h⟩ := h
            replace h := Option.bind_eq_some_iff.mp h
            obtain ⟨q2, hq2, h⟩ := h
            replace h := Option.bind_eq_some_iff.mp h
            obtain ⟨T3, hT3, h⟩ := h
            obtain rfl := Option.some.inj h
            obtain ⟨st, s0, s1, s2⟩ : ∃ st : Nat → Int × List (List Bool), st 0 = (0, T) ∧ st 1 = q ∧ st 2 = q2 := ⟨fun i => if i = 0 then (0, T) else if i = 1 then q else q2, rfl, rfl, rfl⟩
            have hH : ∀ i, i < 2 → trHalf (fun T1 => spec_trCount.f k T1 ps (wrap64 (fr + 1)) r s) k (st i).2 x r s (decide (i = 0)) (st i).1 = some (st (i + 1)) := by
              intro i hi
              obtain rfl | rfl : i = 0 ∨ i = 1 := by omega
              · rw [s0, s1]; exact hq
              · rw [s1, s2]; exact hq2
            obtain ⟨ad, e, hx0, hx1⟩ := at_T89 (Kd.F_now hp) fr c2 c3
            subst e
            have HX := Aside0.mk (fun (w' : World) (hF : Kd.F k89 w' (fun k => ¬ ok k) (some ad) ps.length ps) => show w'.cell? (ad.add (fr.toNat * 2)) = some (.int .i64 x.f0) ∧ w'.cell? ⟨(ad.add (fr.toNat * 2)).block, (ad.add (fr.toNat * 2)).off + 1, none⟩ = some (.int .i64 x.f1) from by
              obtain ⟨ad', e, h0, h1⟩ := at_T89 (Kd.F_now hF) fr c2 c3
              injection e with e
              subst e
              rw [hx]
              exact ⟨h0, h1⟩)
            have HH := Aside0.mk hH
            have HF := Aside0.mk hp
            have HS0 := Aside0.mk (TSt.refl HO)
            have HT3 := Aside0.mk hT3
            have HOK := Aside0.mk hok
            have E0 := Aside0.mk s0
            have E2 := Aside0.mk s2
            have pf1 : (0 ≤ fr) = True := eq_true c2
            have pf2 : (fr < (ps.length : Int)) = True := eq_true c3
            clear hq hq2 hT3 h s0 s1 s2 hx0 hx1 hH hp HO hok hx c1 c2 c3 hn hcn
            go_enter Tryd.func57, Tryd.ntmps57
            go_wp2
            go_loopg [11, 25] 2 (fun gg v11 v25 w' => ∃ i : Nat, i ≤ 2 ∧ 2 - i ≤ gg ∧ v25 = .int .i64 (i : Int) ∧ v11 = .int .i64 (st i).1 ∧ Aside0 (TSt w base ok (.slice A n cap) w' (st i).2) ∧ Aside0 (w'.heap[w.heap.size]? = some (.cells #[.bool true, .bool false] 4 (0, 0))))
            case atStart =>
              refine ⟨0, by omega, by omega, rfl, by rw [E0.out], ⟨?_⟩, ⟨?_⟩⟩
              · rw [E0.out]; exact HS0.out.later hbase (below_alloc (Below.refl _ _) _)
              · exact blk_new w _
            case round =>
              obtain ⟨i, hi, hg, rfl, rfl, HS, HL⟩ := hrel
              have hbr : base ≤ wr.heap.size := Nat.le_trans hbase HS.out.below.size
              by_cases hlt : i < 2
              · have hh := HH.out i hlt
                obtain ⟨fb, hfb, hcell⟩ : ∃ fb : Bool, fb = decide (i = 0) ∧ wr.cell? ⟨w.heap.size, i, none⟩ = some (.bool fb) := by
                  refine ⟨_, rfl, ?_⟩
                  obtain rfl | rfl : i = 0 ∨ i = 1 := by omega
                  · exact (blk_cell HL.out 0).trans rfl
                  · exact (blk_cell HL.out 1).trans rfl
                rw [← hfb] at hh
                unfold trHalf at hh
                replace hh := Option.bind_eq_some_iff.mp hh
                obtain ⟨T1, hT1, hh⟩ := hh
                replace hh := Option.bind_eq_some_iff.mp hh
                obtain ⟨o, ho_, hh⟩ := hh
                have HT1 := Aside0.mk (fun (w' : World) (hS : Kd.S (Kd.slice 4 Kd.bool) 122 w' base ok (.slice A n cap) (st i).2) (hb : base ≤ w'.heap.size) => spec_trSet.sets A n cap (st i).2 T1 x.f0 x.f1 fb w' base ok hS hb hT1)
                have HO1 := Aside0.mk (fun (w' : World) (hS : Kd.S (Kd.slice 4 Kd.bool) 122 w' base ok (.slice A n cap) T1) => show Calls Tryd.prog 99 #[.slice A n cap, .agg #[.int .i64 x.f0, .int .i64 x.f1], .int .i64 r, .int .i64 s, .bool fb] w' (fun e w'' => e = .returned (.bool o) ∧ Below w'.heap.size w' w'') from by
                  obtain ⟨h1, h2, h3⟩ := Kd.S_reads' hS
                  have := spec_trOpen.calls k A cap T1 x.f0 x.f1 r s fb o w' h3 (by omega) ho_
                  rw [← h1] at this
                  exact this)
                have pi1 : (0 ≤ (i : Int)) = True := eq_true (by omega)
                have pi2 : ((i : Int) < 2) = True := eq_true (by omega)
                have hx := HX.out wr (HS.out.foot HF.out)
                have hxa := hx.1
                have hxb := hx.2
                clear hT1 ho_ hfb hx
                cases o with
                | true =>
                  rw [if_pos rfl] at hh
                  replace hh := Option.bind_eq_some_iff.mp hh
                  obtain ⟨zz, hz, hh⟩ := hh
                  have HZ := Aside0.mk (fun (w' : World) (u : TSt w base ok (.slice A n cap) w' T1) => ih k (by omega) A n cap T1 (some ad) cp ps (wrap64 (fr + 1)) r s zz w' base ok u.row (u.foot HF.out) hcp (fun k_ hk => Nat.lt_of_lt_of_le (HOK.out k_ hk) u.below.size) (Nat.le_trans hbase u.below.size) hz)
                  have HE := Aside0.mk (Option.some.inj hh)
                  clear hh hz
                  go_wp2_with (first
                    | (go_at_call 98; refine (HT1.out _ HS.out.row hbr).mono ?_; rintro e w1 ⟨rfl, u1⟩; have U1 := Aside0.mk (HS.out.trans u1); have HL1 := Aside0.mk ((u1.keep _ (fun h_ => Nat.lt_irrefl _ (HOK.out _ h_)) (blk_lt HL.out)).trans HL.out); have hya := (HX.out w1 (U1.out.foot HF.out)).1; have hyb := (HX.out w1 (U1.out.foot HF.out)).2; clear u1)
                    | (go_at_call 99; refine (HO1.out _ U1.out.row).mono ?_; rintro e w2 ⟨rfl, hb2⟩; have U2 := Aside0.mk (U1.out.later (Nat.le_trans hbase U1.out.below.size) hb2); have HL2 := Aside0.mk ((hb2.block _ (blk_lt HL1.out)).trans HL1.out); clear hb2)
                    | (go_at_call 57; refine (HZ.out _ U2.out).mono ?_; rintro e w3 ⟨rfl, u3⟩; have U3 := Aside0.mk (U2.out.trans u3); have HL3 := Aside0.mk ((u3.keep _ (fun h_ => Nat.lt_irrefl _ (HOK.out _ h_)) (blk_lt HL2.out)).trans HL2.out); clear u3))
                  go_roundg (2 - (i + 1))
                  case measure => omega
                  case rel =>
                    refine ⟨i + 1, by omega, by omega, by first | rfl | go_num, by rw [← HE.out], ?_, HL3⟩
                    rw [← HE.out]
                    exact U3
                | false =>
                  rw [if_neg (by simp)] at hh
                  have HE := Aside0.mk (Option.some.inj hh)
                  clear hh
                  go_wp2_with (first
                    | (go_at_call 98; refine (HT1.out _ HS.out.row hbr).mono ?_; rintro e w1 ⟨rfl, u1⟩; have U1 := Aside0.mk (HS.out.trans u1); have HL1 := Aside0.mk ((u1.keep _ (fun h_ => Nat.lt_irrefl _ (HOK.out _ h_)) (blk_lt HL.out)).trans HL.out); have hya := (HX.out w1 (U1.out.foot HF.out)).1; have hyb := (HX.out w1 (U1.out.foot HF.out)).2; clear u1)
                    | (go_at_call 99; refine (HO1.out _ U1.out.row).mono ?_; rintro e w2 ⟨rfl, hb2⟩; have U2 := Aside0.mk (U1.out.later (Nat.le_trans hbase U1.out.below.size) hb2); have HL2 := Aside0.mk ((hb2.block _ (blk_lt HL1.out)).trans HL1.out); clear hb2))
                  go_roundg (2 - (i + 1))
                  case measure => omega
                  case rel =>
                    refine ⟨i + 1, by omega, by omega, by first | rfl | go_num, by rw [← HE.out], ?_, HL2⟩
                    rw [← HE.out]
                    exact U2
              · have hx := HX.out wr (HS.out.foot HF.out)
                have hxa := hx.1
                have hxb := hx.2
                have e2 : st i = q2 := by rw [show i = 2 from by omega]; exact E2.out
                have pi2 : ((i : Int) < 2) = False := eq_false (by omega)
                have EI := Aside0.mk e2
                have HT := Aside0.mk (spec_trSet.sets A n cap (st i).2 T3 x.f0 x.f1 false wr base ok HS.out.row hbr (by rw [e2]; exact HT3.out))
                clear hx e2 hlt hi hg
                go_wp2_with (go_at_call 98; refine HT.out.mono ?_; rintro e w1 ⟨rfl, u1⟩; have U1 := Aside0.mk (HS.out.trans u1); clear u1)
                go_ret
                exact ⟨by rw [EI.out]; rfl, U1.out⟩
          · rw [if_neg c3, if_pos c2] at h; cases h
        · rw [if_neg c2] at h; cases h

/-! ### spec_trPairs: function 58 (a text of this session's own) -/

def spec_trPairs.f (k : Nat) (a0 : Int) : Option (List S89) := (spec_paOther.f k a0 ([] : List S89)).bind fun b => some b.2
theorem spec_trPairs.mono : ∀ a0 k, LeO (spec_trPairs.f k a0) (spec_trPairs.f (k + 1) a0) := fun a0 k => LeO.bind (spec_paOther.mono _ _ _) (fun _ => LeO.refl _)
set_option maxHeartbeats 4000000 in
set_option maxRecDepth 100000 in
theorem spec_trPairs.calls (k : Nat) (a0 : Int) (r : List S89) (w : World) (h : spec_trPairs.f k a0 = some r) :
    Calls Tryd.prog 58 #[.int .i64 a0] w fun e w' => ∃ v0_ : Value, e = .returned (v0_) ∧ Kd.R k89 89 w' w.heap.size (fun _ => True) v0_ r ∧ Below w.heap.size w w' := by
  have hu := Tryd.underlying30
  unfold spec_trPairs.f at h
  replace h := Option.bind_eq_some_iff.mp h
  obtain ⟨⟨p1, p2⟩, hp, h⟩ := h
  obtain rfl := Option.some.inj h
  have HP := Aside0.mk hp
  have hfl := fun (A : Option Addr) (n c : Nat) (w : World) => (show (Instr.field 30 (.agg #[.int .i64 p1, .slice A n c]) 1).run Tryd.prog w = .ok (.slice A n c) w from by simp [Instr.field, run_underlying hu, part, asAgg])
  clear hp h
  go_enter Tryd.func58, Tryd.ntmps58
  go_wp2_with (go_at_call 90; refine (spec_paOther.calls k a0 none 0 [] p1 p2 _ (Kd.C_nil _ _) (Nat.le_refl _) HP.out).mono ?_; rintro e w1 ⟨v1, rfl, ho, hb⟩; have HO := Aside0.mk ho; have HB := Aside0.mk hb; clear ho hb; obtain ⟨A1, c1, rfl⟩ := Kd.R_slice HO.out)
  go_ret
  exact ⟨_, rfl, HO.out, HB.out⟩

/-! ### spec_CountNeither: function 18 (a text of this session's own) -/
def spec_CountNeither.f (k : Nat) (a0 : Int) (a1 : Int) (a2 : Int) : Option (Int × Bool) := (spec_l1In.f a0 0 6).bind fun t => if t = true then ((spec_trKinds.f a1 a2).bind fun u => if u = true then ((spec_paTable.f k a0 []).bind fun T => (spec_trPairs.f k a0).bind fun ps => (spec_trCount.f k T ps 0 a1 a2).bind fun z => some (z.1, true)) else some (0, false)) else some (0, false)
theorem spec_CountNeither.mono : ∀ a0 a1 a2 k, LeO (spec_CountNeither.f k a0 a1 a2) (spec_CountNeither.f (k + 1) a0 a1 a2) := by
  intro a0 a1 a2 k
  unfold spec_CountNeither.f
  refine LeO.bind (LeO.refl _) (fun _ => LeO.ite (LeO.bind (LeO.refl _) (fun _ => LeO.ite (LeO.bind (spec_paTable.mono _ _ _) (fun _ => LeO.bind (spec_trPairs.mono _ _) (fun _ => LeO.bind (spec_trCount.mono_l k _ _ _ _ _) (fun _ => LeO.refl _)))) (LeO.refl _))) (LeO.refl _))
set_option maxHeartbeats 8000000 in
set_option maxRecDepth 100000 in
theorem spec_CountNeither.calls (k : Nat) (a0 : Int) (a1 : Int) (a2 : Int) (r1 : Int) (r2 : Bool) (w : World) (h : spec_CountNeither.f k a0 a1 a2 = some (r1, r2)) :
    Calls Tryd.prog 18 #[.int .i64 a0, .int .i64 a1, .int .i64 a2] w fun e w' => e = .returned (.tuple #[.int .i64 r1, .bool r2]) ∧ Below w.heap.size w w' := by
  unfold spec_CountNeither.f at h
  replace h := Option.bind_eq_some_iff.mp h
  obtain ⟨t, ht, h⟩ := h
  have HT := Aside0.mk ht
  clear ht
  cases t with
  | false =>
    rw [if_neg (by simp)] at h
    simp only [Option.some.injEq, Prod.mk.injEq] at h
    obtain ⟨rfl, rfl⟩ := h
    go_enter Tryd.func18, Tryd.ntmps18
    go_wp2_with (go_at_call 51; refine (spec_l1In.calls a0 0 6 false _ HT.out).mono ?_; rintro e w1 ⟨rfl, ⟨m, rfl⟩⟩)
    go_ret2
    exact ⟨rfl, by repeat (first | exact Below.refl _ _ | apply below_alloc | apply pw_below_drewN)⟩
  | true =>
    rw [if_pos rfl] at h
    replace h := Option.bind_eq_some_iff.mp h
    obtain ⟨u, hu, h⟩ := h
    have HU := Aside0.mk hu
    clear hu
    cases u with
    | false =>
      rw [if_neg (by simp)] at h
      simp only [Option.some.injEq, Prod.mk.injEq] at h
      obtain ⟨rfl, rfl⟩ := h
      go_enter Tryd.func18, Tryd.ntmps18
      go_wp2_with (first | (go_at_call 51; refine (spec_l1In.calls a0 0 6 true _ HT.out).mono ?_; rintro e w1 ⟨rfl, ⟨m, rfl⟩⟩) | (go_at_call 44; refine (spec_trKinds.calls a1 a2 false _ HU.out).mono ?_; rintro e w2 ⟨rfl, ⟨m2, rfl⟩⟩))
      go_ret2
      exact ⟨rfl, by repeat (first | exact Below.refl _ _ | apply below_alloc | apply pw_below_drewN)⟩
    | true =>
      rw [if_pos rfl] at h
      replace h := Option.bind_eq_some_iff.mp h
      obtain ⟨T, hT, h⟩ := h
      replace h := Option.bind_eq_some_iff.mp h
      obtain ⟨ps, hps, h⟩ := h
      replace h := Option.bind_eq_some_iff.mp h
      obtain ⟨z, hz, h⟩ := h
      simp only [Option.some.injEq, Prod.mk.injEq] at h
      obtain ⟨rfl, rfl⟩ := h
      have A1 := Aside0.mk hT
      have A2 := Aside0.mk hps
      have A3 := Aside0.mk hz
      have HB := Aside0.mk (Below.refl w.heap.size w)
      clear hT hps hz
      go_enter Tryd.func18, Tryd.ntmps18
      go_wp2_with (first
        | (go_at_call 51; refine (spec_l1In.calls a0 0 6 true _ HT.out).mono ?_; rintro e w1 ⟨rfl, ⟨m, rfl⟩⟩)
        | (go_at_call 44; refine (spec_trKinds.calls a1 a2 true _ HU.out).mono ?_; rintro e w2 ⟨rfl, ⟨m2, rfl⟩⟩)
        | (go_at_call 53; refine (spec_paTable.calls k a0 none 0 [] T _ (Kd.C_nil _ _) (Nat.le_refl _) A1.out).mono ?_; rintro e w3 ⟨v3, rfl, ho, hb⟩; have S3 := Aside0.mk (Kd.S_lower ho (by exact (show w.heap.size ≤ w.heap.size from Nat.le_refl _))); have B3 := Aside0.mk (show Below w.heap.size w w3 from ⟨hb.os, hb.tape, hb.output, hb.size, hb.block⟩); clear ho hb; obtain ⟨A4, c4, rfl⟩ := Kd.S_slice S3.out)
        | (go_at_call 58; refine (spec_trPairs.calls k a0 ps _ A2.out).mono ?_; rintro e w5 ⟨v5, rfl, ho, hb⟩; have R5 := Aside0.mk ho; have B5 := Aside0.mk hb; clear ho hb; obtain ⟨A6, c6, rfl⟩ := Kd.R_slice R5.out)
        | (go_at_call 57; refine (spec_trCount.calls k A4 T.length c4 T A6 c6 ps 0 a1 a2 z _ w.heap.size (fun k_ => k_ < w3.heap.size) (Kd.S_mono (Kd.S_below (Kd.S_bound S3.out) B5.out) (fun _ hk => hk.2.2.1)) (Kd.R_F (Kd.R_mono (Kd.R_bound R5.out) (fun k_ hk => by have := hk.2.1; omega))) (Kd.R_reads' R5.out).2.1 (fun k_ hk => Nat.lt_of_lt_of_le hk B5.out.size) (Nat.le_trans B3.out.size B5.out.size) A3.out).mono ?_; rintro e w7 ⟨rfl, u7⟩; have U7 := Aside0.mk u7.below; clear u7))
      go_ret2
      exact ⟨rfl, (below_then B3.out B3.out.size B5.out).trans U7.out⟩

/-! ### impl_within: function 54 -/
def impl_within.f (a0 : Int) (a1 : Int) (a2 : Int) : Option (Bool) := if a1 ≤ a0 then (some (decide (a0 ≤ a2))) else (some false)
set_option maxHeartbeats 8000000 in
set_option maxRecDepth 100000 in
theorem impl_within.calls (a0 : Int) (a1 : Int) (a2 : Int) (r : Bool) (w : World) (h : impl_within.f a0 a1 a2 = some r) :
  Calls Tryd.prog 54 #[.int .i64 a0, .int .i64 a1, .int .i64 a2] w fun e w' => e = .returned (.bool r) ∧ Drawn0 w w' := by
 have H : (if a1 ≤ a0 then (some (decide (a0 ≤ a2))) else (some false)) = some r := h
 clear h
 by_cases c4 : a1 ≤ a0
 ·rw [if_pos c4] at H
  have c4b0 : decide (a1 ≤ a0) = true := decide_eq_true c4
  clear c4
  obtain rfl := Option.some.inj H
  go_enter Tryd.func54, Tryd.ntmps54
  go_wp2
  go_ret
  exact ⟨by first | rfl | (simp; done) | (simp [*]; done), by repeat (first | exact Drawn0.refl _ | apply Drawn0.step)⟩
 ·rw [if_neg c4] at H
  have c4b0 : decide (a1 ≤ a0) = false := decide_eq_false c4
  clear c4
  obtain rfl := Option.some.inj H
  go_enter Tryd.func54, Tryd.ntmps54
  go_wp2
  go_ret
  exact ⟨by first | rfl | (simp; done) | (simp [*]; done), by repeat (first | exact Drawn0.refl _ | apply Drawn0.step)⟩
theorem impl_within.ok (n lo hi : Int) : impl_within.f n lo hi = some (decide (lo ≤ n ∧ n ≤ hi)) := by
  unfold impl_within.f
  by_cases h : lo ≤ n <;> simp [h]

/-! ### impl_areSides: function 48 -/
def impl_areSides.f (a0 : Int) (a1 : Int) : Option (Bool) := (impl_within.f a0 1 4).bind fun t213 => (if t213 = true then ((impl_within.f a1 1 4).bind fun t214 => (some t214)) else (some false))
set_option maxHeartbeats 8000000 in
set_option maxRecDepth 100000 in
theorem impl_areSides.calls (a0 : Int) (a1 : Int) (r : Bool) (w : World) (h : impl_areSides.f a0 a1 = some r) :
  Calls Tryd.prog 48 #[.int .i64 a0, .int .i64 a1] w fun e w' => e = .returned (.bool r) ∧ Drawn0 w w' := by
 have H : ((impl_within.f a0 1 4).bind fun t213 => (if t213 = true then ((impl_within.f a1 1 4).bind fun t214 => (some t214)) else (some false))) = some r := h
 clear h
 replace H := Option.bind_eq_some_iff.mp H
 obtain ⟨t213, A30, H⟩ := H
 replace H : (if t213 = true then ((impl_within.f a1 1 4).bind fun t214 => (some t214)) else (some false)) = some r := H
 have A3 := Aside0.mk A30
 clear A30
 by_cases c4 : t213 = true
 ·subst c4
  have H1 : ((impl_within.f a1 1 4).bind fun t214 => (some t214)) = some r := by rw [if_pos rfl] at H; exact H
  clear H
  have H := H1
  clear H1
  replace H := Option.bind_eq_some_iff.mp H
  obtain ⟨t214, A50, H⟩ := H
  replace H : (some t214) = some r := H
  have A5 := Aside0.mk A50
  clear A50
  obtain rfl := Option.some.inj H
  go_enter Tryd.func48, Tryd.ntmps48
  go_wp2_with (first | ((with_reducible refine gate_callee (f := 54) rfl ?_); refine goesL_ (some 6) rfl rfl Tryd.func54 (by kernel_rfl) rfl #[.int .i64 a0, .int .i64 1, .int .i64 4] rfl mapT ?_; (with_reducible refine (impl_within.calls a0 1 4 true _ A3.out).mono ?_); rintro e w' ⟨rfl, ⟨nd, rfl⟩⟩; refine ⟨_, rfl, ?_⟩) | (go_at_call 54; (with_reducible refine (impl_within.calls a1 1 4 t214 _ A5.out).mono ?_); rintro e w' ⟨rfl, ⟨nd, rfl⟩⟩))
  go_ret
  exact ⟨by first | rfl | (simp; done) | (simp [*]; done), by repeat (first | exact Drawn0.refl _ | apply Drawn0.step)⟩
 ·replace c4 := Bool.eq_false_iff.mpr c4
  subst c4
  have H1 : (some false) = some r := by rw [if_neg (show ¬ (false = true) by decide)] at H; exact H
  clear H
  have H := H1
  clear H1
  obtain rfl := Option.some.inj H
  go_enter Tryd.func48, Tryd.ntmps48
  go_wp2_with (first | ((with_reducible refine gate_callee (f := 54) rfl ?_); refine goesL_ (some 6) rfl rfl Tryd.func54 (by kernel_rfl) rfl #[.int .i64 a0, .int .i64 1, .int .i64 4] rfl mapT ?_; (with_reducible refine (impl_within.calls a0 1 4 false _ A3.out).mono ?_); rintro e w' ⟨rfl, ⟨nd, rfl⟩⟩; refine ⟨_, rfl, ?_⟩))
  go_ret
  exact ⟨by first | rfl | (simp; done) | (simp [*]; done), by repeat (first | exact Drawn0.refl _ | apply Drawn0.step)⟩

/-! ### bits_OnesCount16: function 96 (a text of this session's own) -/
def bits_OnesCount16.f (a0 : Int) : Option Int := if 0 ≤ a0 ∧ a0 < 65536 then some ((popN 16 a0.toNat : Nat) : Int) else none
set_option maxRecDepth 100000 in
set_option maxHeartbeats 1000000 in
theorem bits_OnesCount16.calls (a0 : Int) (r : Int) (w : World) (h : bits_OnesCount16.f a0 = some r) :
    Calls Tryd.prog 96 #[.int .u16 a0] w fun e w' => e = .returned (.int .i64 r) ∧ Drawn0 w w' := by
  unfold bits_OnesCount16.f at h
  by_cases hx : 0 ≤ a0 ∧ a0 < 65536
  · rw [if_pos hx] at h
    obtain rfl := Option.some.inj h
    clear h
    obtain ⟨x, rfl⟩ := Int.eq_ofNat_of_zero_le hx.1
    have hd : (x : Int) / 256 = ((x / 256 : Nat) : Int) := by omega
    have ha : Go.bits .and .u16 (x : Int) 255 = ((x % 256 : Nat) : Int) := by
      have := u16_and_nat x 255 (by omega) (by omega)
      rw [show ((255 : Nat) : Int) = 255 from rfl] at this
      rw [this, show (255 : Nat) = 2 ^ 8 - 1 from rfl, Nat.and_two_pow_sub_one_eq_mod]
    have h1 : (0 : Int) ≤ ((x / 256 : Nat) : Int) := by omega
    have h2 : ((x / 256 : Nat) : Int) < 256 := by omega
    have h3 : (0 : Int) ≤ ((x % 256 : Nat) : Int) := by omega
    have h4 : ((x % 256 : Nat) : Int) < 256 := by omega
    have HE : Aside0 ((Go.Lib.pop8 ((x / 256 : Nat) : Int) + Go.Lib.pop8 ((x % 256 : Nat) : Int)) % 256 = ((popN 16 (x : Int).toNat : Nat) : Int)) := ⟨by
      rw [Int.toNat_natCast]
      rw [popN_byte _ (by omega), popN_byte _ (by omega), popN_split]
      have := popN_le 8 (x / 256)
      have := popN_le 8 (x % 256)
      omega⟩
    clear hx
    generalize ((x / 256 : Nat) : Int) = hi at *
    generalize ((x % 256 : Nat) : Int) = lo at *
    have hs := Go.Lib.pop8tab_size
    have hp : ∀ (i : Int) (h : i.toNat < Go.Lib.pop8tab.size), ((Go.Lib.pop8tab[i.toNat]'h).toNat : Int) = Go.Lib.pop8 i := fun i h => by simp [Go.Lib.pop8, h]
    have hp1 := hp hi
    have hp2 := hp lo
    clear hp
    have b1 : hi < (Go.Lib.pop8tab.size : Int) := by rw [hs]; exact h2
    have b2 : lo < (Go.Lib.pop8tab.size : Int) := by rw [hs]; exact h4
    clear hs
    go_enter Tryd.func96, Tryd.ntmps96
    go_wp2
    go_quiet (fail)
    go_wp2
    go_ret
    exact ⟨by rw [← HE.out]; rfl, by repeat (first | exact Drawn0.refl _ | apply Drawn0.step)⟩
  · rw [if_neg hx] at h; cases h

/-! ### bits_TrailingZeros16: function 97 (a text of this session's own) -/
def bits_TrailingZeros16.f (a0 : Int) : Option Int := if 0 ≤ a0 ∧ a0 < 65536 then some (ctz16 a0) else none
theorem bits_TrailingZeros16.calls (a0 : Int) (r : Int) (w : World) (h : bits_TrailingZeros16.f a0 = some r) (hG : GTab 0 w := by first | exact Aside0.out ‹Aside0 (GTab _ _)› | exact GTab.up (Aside0.out ‹Aside0 (GTab _ _)›) (by repeat (first | (with_reducible first | exact Below.refl _ _ | exact Aside0.out ‹Aside0 (Below _ _ _)› | apply below_alloc | apply pw_below_drewN | apply below_drew1 | refine below_set ?_ (Aside0.out (by assumption))) | exact Aside0.out ‹Aside0 (Below _ _ _)›))) :
    Calls Tryd.prog 97 #[.int .u16 a0] w fun e w' => e = .returned (.int .i64 r) ∧ Drawn0 w w' := by
  unfold bits_TrailingZeros16.f at h
  by_cases hx : 0 ≤ a0 ∧ a0 < 65536
  · rw [if_pos hx] at h
    obtain rfl := Option.some.inj h
    clear h
    obtain ⟨x, rfl⟩ := Int.eq_ofNat_of_zero_le hx.1
    by_cases h0 : x = 0
    · subst h0
      clear hG hx
      go_enter Tryd.func97, Tryd.ntmps97
      go_wp2
      go_ret
      exact ⟨rfl, ⟨0, rfl⟩⟩
    · obtain ⟨idx, key, hi, htab, hk⟩ := tz16_key x (by omega) h0
      have hk1 : ((Go.Lib.ctz 16 x : Nat) : Int) ≤ 15 := by omega
      have hk2 : (0 : Int) ≤ ((Go.Lib.ctz 16 x : Nat) : Int) := by omega
      clear hk
      have hcell := hG idx hi
      rw [htab] at hcell
      have hx0 : ((x : Int) == 0) = false := by simp; omega
      have h1 : (0 : Int) ≤ (idx : Int) := by omega
      have h2 : (idx : Int) < 32 := by omega
      have HC : Aside0 (ctz16 (x : Int) = ((Go.Lib.ctz 16 x : Nat) : Int)) := ⟨by simp [ctz16]⟩
      clear hG htab h0 hx
      go_enter Tryd.func97, Tryd.ntmps97
      go_wp2
      go_ret
      exact ⟨by rw [HC.out]; rfl, ⟨0, rfl⟩⟩
  · rw [if_neg hx] at h; cases h

/-! ### impl_table_hasGroup: function 55 -/
mutual
def impl_table_hasGroup.l0 : Nat → List Int → Int → Int → Option (Bool)
 | 0, _, _, _ => none
 | k + 1, x0, x1, x2 => (bits_OnesCount16.f x1).bind fun t215 => (if t215 ≥ x2 then ((bits_TrailingZeros16.f x1).bind fun t216 => (if 0 ≤ t216 then (if t216 < (x0.length : Int) then ((impl_table_hasGroup.f k x0 (Go.bits .andNot .u16 (Go.bits .and .u16 x1 (rd x0 t216)) (Go.bits .and .u16 x1 (IntKind.u16.wrap (-x1)))) (wrap64 (x2 - 1))).bind fun t218 => (if t218 = true then (some true) else (impl_table_hasGroup.l0 k x0 (Go.bits .and .u16 x1 (IntKind.u16.wrap (x1 - 1))) x2))) else (none)) else (none))) else (some false))
def impl_table_hasGroup.f : Nat → List Int → Int → Int → Option (Bool)
 | 0, _, _, _ => none
 | k + 1, l0, a1, a2 => if a2 ≤ 0 then (some true) else (impl_table_hasGroup.l0 k l0 a1 a2)
end
theorem impl_table_hasGroup.mono_l : ∀ k, (∀ y0 y1 y2, LeO (impl_table_hasGroup.f k y0 y1 y2) (impl_table_hasGroup.f (k + 1) y0 y1 y2)) ∧ (∀ y0 y1 y2, LeO (impl_table_hasGroup.l0 k y0 y1 y2) (impl_table_hasGroup.l0 (k + 1) y0 y1 y2))
 | 0 => ⟨fun _ _ _ r h => by simp [impl_table_hasGroup.f] at h, fun _ _ _ r h => by simp [impl_table_hasGroup.l0] at h⟩
 | k + 1 => by
  obtain ⟨ih0, ih1⟩ := impl_table_hasGroup.mono_l k
  refine ⟨?_, ?_⟩
  ·intro y0 y1 y2
   unfold impl_table_hasGroup.f
   repeat' first
   | (with_reducible exact ih0 _ _ _)
   | (with_reducible exact ih1 _ _ _)
   | (with_reducible exact LeO.refl _)
   | (with_reducible exact LeO.none _)
   | (with_reducible refine LeO.ite ?_ ?_)
   | (with_reducible refine LeO.bind ?_ (fun _ => ?_))
   | exact ih0 _ _ _
   | exact ih1 _ _ _
   | exact LeO.none _
   | refine LeO.ite ?_ ?_
   | refine LeO.bind ?_ (fun _ => ?_)
  ·intro y0 y1 y2
   unfold impl_table_hasGroup.l0
   repeat' first
   | (with_reducible exact ih0 _ _ _)
   | (with_reducible exact ih1 _ _ _)
   | (with_reducible exact LeO.refl _)
   | (with_reducible exact LeO.none _)
   | (with_reducible refine LeO.ite ?_ ?_)
   | (with_reducible refine LeO.bind ?_ (fun _ => ?_))
   | exact ih0 _ _ _
   | exact ih1 _ _ _
   | exact LeO.none _
   | refine LeO.ite ?_ ?_
   | refine LeO.bind ?_ (fun _ => ?_)
theorem impl_table_hasGroup.mono : ∀ a0 a1 a2 k, LeO (impl_table_hasGroup.f k a0 a1 a2) (impl_table_hasGroup.f (k + 1) a0 a1 a2) := by
 intro a0 a1 a2 k
 obtain ⟨ih0, ih1⟩ := impl_table_hasGroup.mono_l k
 exact ih0 a0 a1 a2
set_option maxHeartbeats 8000000 in
set_option maxRecDepth 100000 in
theorem impl_table_hasGroup.calls (k : Nat) : ∀ (A0 : Option Addr) (c0 : Nat) (l0 : List Int) (a1 : Int) (a2 : Int) (r : Bool) (w : World) (hr0 : Kd.C (Kd.int .u16) w A0 l0.length l0) (hc0 : l0.length ≤ c0) (h : impl_table_hasGroup.f k l0 a1 a2 = some r) (hG : GTab 0 w := by first | exact Aside0.out ‹Aside0 (GTab _ _)› | exact GTab.up (Aside0.out ‹Aside0 (GTab _ _)›) (by repeat (first | (with_reducible first | exact Below.refl _ _ | exact Aside0.out ‹Aside0 (Below _ _ _)› | apply below_alloc | apply pw_below_drewN | apply below_drew1 | refine below_set ?_ (Aside0.out (by assumption))) | exact Aside0.out ‹Aside0 (Below _ _ _)›))),
  Calls Tryd.prog 55 #[.slice A0 l0.length c0, .int .u16 a1, .int .i64 a2] w fun e w' => e = .returned (.bool r) ∧ Drawn0 w w' := by
 induction k using Nat.strongRecOn with
 | _ k ih =>
 intro A0 c0 l0 a1 a2 r w hr0 hc0 h hG
 cases k with
 | zero => exact absurd h (by simp [impl_table_hasGroup.f])
 | succ k =>
 simp only [impl_table_hasGroup.f] at h
 have HG := Aside0.mk (p := GTab _ _) hG
 clear hG
 have HR0 := Aside0.mk hr0
 have HC0 := Aside0.mk hc0
 clear hr0 hc0
 have H : (if a2 ≤ 0 then (some true) else (impl_table_hasGroup.l0 k l0 a1 a2)) = some r := h
 clear h
 by_cases c4 : a2 ≤ 0
 ·rw [if_pos c4] at H
  have c4b0 : decide (a2 ≤ 0) = true := decide_eq_true c4
  clear c4
  obtain rfl := Option.some.inj H
  go_enter Tryd.func55, Tryd.ntmps55
  go_wp2
  go_ret
  exact ⟨by first | rfl | (simp; done) | (simp [*]; done), by repeat (first | exact Drawn0.refl _ | apply Drawn0.step)⟩
 ·rw [if_neg c4] at H
  have c4b0 : decide (a2 ≤ 0) = false := decide_eq_false c4
  clear c4
  have H' := Aside0.mk H
  clear H
  go_enter Tryd.func55, Tryd.ntmps55
  go_wp2
  go_loopg [1] k (fun kq v1 w' => ∃ (x1_1 : Int), v1 = .int .u16 x1_1 ∧ Aside0 (impl_table_hasGroup.l0 kq l0 x1_1 a2 = some r) ∧ Aside0 (kq ≤ k) ∧ Drawn0 w w')
  case atStart => exact ⟨(a1), (by first | rfl | (simp; done) | (simp [*]; done)), H', ⟨Nat.le_refl _⟩, by repeat (first | exact Drawn0.refl _ | apply Drawn0.step)⟩
  case round =>
   clear H'
   try clear p2
   try clear c4
   try clear c4b0
   obtain ⟨x1_1, rfl, HA, HK1, ⟨m1, rfl⟩⟩ := hrel
   cases gk with
   | zero => exact absurd HA.out (by simp [impl_table_hasGroup.l0])
   | succ k1 =>
    have H := HA.out
    clear HA
    simp only [impl_table_hasGroup.l0] at H
    replace H := Option.bind_eq_some_iff.mp H
    obtain ⟨t215, A50, H⟩ := H
    replace H : (if t215 ≥ a2 then ((bits_TrailingZeros16.f x1_1).bind fun t216 => (if 0 ≤ t216 then (if t216 < (l0.length : Int) then ((impl_table_hasGroup.f k1 l0 (Go.bits .andNot .u16 (Go.bits .and .u16 x1_1 (rd l0 t216)) (Go.bits .and .u16 x1_1 (IntKind.u16.wrap (-x1_1)))) (wrap64 (a2 - 1))).bind fun t218 => (if t218 = true then (some true) else (impl_table_hasGroup.l0 k1 l0 (Go.bits .and .u16 x1_1 (IntKind.u16.wrap (x1_1 - 1))) a2))) else (none)) else (none))) else (some false)) = some r := H
    have A5 := Aside0.mk A50
    clear A50
    by_cases c6 : t215 ≥ a2
    ·rw [if_pos c6] at H
     have c6b0 : decide (a2 ≤ t215) = true := decide_eq_true c6
     clear c6
     replace H := Option.bind_eq_some_iff.mp H
     obtain ⟨t216, A70, H⟩ := H
     replace H : (if 0 ≤ t216 then (if t216 < (l0.length : Int) then ((impl_table_hasGroup.f k1 l0 (Go.bits .andNot .u16 (Go.bits .and .u16 x1_1 (rd l0 t216)) (Go.bits .and .u16 x1_1 (IntKind.u16.wrap (-x1_1)))) (wrap64 (a2 - 1))).bind fun t218 => (if t218 = true then (some true) else (impl_table_hasGroup.l0 k1 l0 (Go.bits .and .u16 x1_1 (IntKind.u16.wrap (x1_1 - 1))) a2))) else (none)) else (none)) = some r := H
     have A7 := Aside0.mk A70
     clear A70
     by_cases c8 : 0 ≤ t216
     ·rw [if_pos c8] at H
      have c8b0 : decide (0 ≤ t216) = true := decide_eq_true c8
      clear c8
      by_cases c9 : t216 < (l0.length : Int)
      ·rw [if_pos c9] at H
       have c9b0 : decide (t216 < (l0.length : Int)) = true := decide_eq_true c9
       clear c9
       replace H := Option.bind_eq_some_iff.mp H
       obtain ⟨t218, A100, H⟩ := H
       replace H : (if t218 = true then (some true) else (impl_table_hasGroup.l0 k1 l0 (Go.bits .and .u16 x1_1 (IntKind.u16.wrap (x1_1 - 1))) a2)) = some r := H
       have A10 := Aside0.mk A100
       clear A100
       by_cases c11 : t218 = true
       ·subst c11
        have H1 : (some true) = some r := by rw [if_pos rfl] at H; exact H
        clear H
        have H := H1
        clear H1
        obtain rfl := Option.some.inj H
        go_wp2_with (first | ((with_reducible refine gate_callee (f := 96) rfl ?_); refine goesL_ (some 10) rfl rfl Tryd.func96 (by kernel_rfl) rfl #[.int .u16 x1_1] rfl mapT ?_; (with_reducible refine (bits_OnesCount16.calls x1_1 t215 _ A5.out).mono ?_); rintro e w' ⟨rfl, ⟨nd, rfl⟩⟩; refine ⟨_, rfl, ?_⟩) | ((with_reducible refine gate_callee (f := 97) rfl ?_); refine goesL_ (some 21) rfl rfl Tryd.func97 (by kernel_rfl) rfl #[.int .u16 x1_1] rfl mapT ?_; (with_reducible refine (bits_TrailingZeros16.calls x1_1 t216 _ A7.out).mono ?_); rintro e w' ⟨rfl, ⟨nd, rfl⟩⟩; refine ⟨_, rfl, ?_⟩; have p217 : 0 ≤ (t216 : Int) := of_decide_eq_true (by first | (with_reducible assumption) | assumption); have q217 : t216 < (l0.length : Int) := of_decide_eq_true (by first | (with_reducible assumption) | assumption); obtain ⟨ad217, e217, hx217_0⟩ := Kd.at_int HR0.out t216 p217 q217; cases e217; replace p217 := eq_true p217; replace q217 := eq_true q217) | ((with_reducible refine gate_callee (f := 55) rfl ?_); refine goesL_ (some 32) rfl rfl Tryd.func55 (by kernel_rfl) rfl #[.slice (some ad217) l0.length c0, .int .u16 (Go.bits .andNot .u16 (Go.bits .and .u16 x1_1 (rd l0 t216)) (Go.bits .and .u16 x1_1 (IntKind.u16.wrap (-x1_1)))), .int .i64 (wrap64 (a2 - 1))] rfl mapT ?_; (with_reducible refine (ih k1 (by have := HK1.out; omega) _ _ l0 (Go.bits .andNot .u16 (Go.bits .and .u16 x1_1 (rd l0 t216)) (Go.bits .and .u16 x1_1 (IntKind.u16.wrap (-x1_1)))) (wrap64 (a2 - 1)) true _ ?side1 ?side2 A10.out).mono ?_); (case side1 => repeat (first | exact HR0.out | (with_reducible refine Kd.C_alloc ?_ _) | (with_reducible refine Kd.C_drewN ?_ _) | (with_reducible refine Kd.C_drew ?_))); (case side2 => exact HC0.out); rintro e w' ⟨rfl, ⟨nd, rfl⟩⟩; refine ⟨_, rfl, ?_⟩))
        go_ret
        exact ⟨by first | rfl | (simp; done) | (simp [*]; done), by repeat (first | exact Drawn0.refl _ | apply Drawn0.step)⟩
       ·replace c11 := Bool.eq_false_iff.mpr c11
        subst c11
        have H1 : (impl_table_hasGroup.l0 k1 l0 (Go.bits .and .u16 x1_1 (IntKind.u16.wrap (x1_1 - 1))) a2) = some r := by rw [if_neg (show ¬ (false = true) by decide)] at H; exact H
        clear H
        have H := H1
        clear H1
        have H' := Aside0.mk H
        clear H
        go_wp2_with (first | ((with_reducible refine gate_callee (f := 96) rfl ?_); refine goesL_ (some 10) rfl rfl Tryd.func96 (by kernel_rfl) rfl #[.int .u16 x1_1] rfl mapT ?_; (with_reducible refine (bits_OnesCount16.calls x1_1 t215 _ A5.out).mono ?_); rintro e w' ⟨rfl, ⟨nd, rfl⟩⟩; refine ⟨_, rfl, ?_⟩) | ((with_reducible refine gate_callee (f := 97) rfl ?_); refine goesL_ (some 21) rfl rfl Tryd.func97 (by kernel_rfl) rfl #[.int .u16 x1_1] rfl mapT ?_; (with_reducible refine (bits_TrailingZeros16.calls x1_1 t216 _ A7.out).mono ?_); rintro e w' ⟨rfl, ⟨nd, rfl⟩⟩; refine ⟨_, rfl, ?_⟩; have p217 : 0 ≤ (t216 : Int) := of_decide_eq_true (by first | (with_reducible assumption) | assumption); have q217 : t216 < (l0.length : Int) := of_decide_eq_true (by first | (with_reducible assumption) | assumption); obtain ⟨ad217, e217, hx217_0⟩ := Kd.at_int HR0.out t216 p217 q217; cases e217; replace p217 := eq_true p217; replace q217 := eq_true q217) | ((with_reducible refine gate_callee (f := 55) rfl ?_); refine goesL_ (some 32) rfl rfl Tryd.func55 (by kernel_rfl) rfl #[.slice (some ad217) l0.length c0, .int .u16 (Go.bits .andNot .u16 (Go.bits .and .u16 x1_1 (rd l0 t216)) (Go.bits .and .u16 x1_1 (IntKind.u16.wrap (-x1_1)))), .int .i64 (wrap64 (a2 - 1))] rfl mapT ?_; (with_reducible refine (ih k1 (by have := HK1.out; omega) _ _ l0 (Go.bits .andNot .u16 (Go.bits .and .u16 x1_1 (rd l0 t216)) (Go.bits .and .u16 x1_1 (IntKind.u16.wrap (-x1_1)))) (wrap64 (a2 - 1)) false _ ?side1 ?side2 A10.out).mono ?_); (case side1 => repeat (first | exact HR0.out | (with_reducible refine Kd.C_alloc ?_ _) | (with_reducible refine Kd.C_drewN ?_ _) | (with_reducible refine Kd.C_drew ?_))); (case side2 => exact HC0.out); rintro e w' ⟨rfl, ⟨nd, rfl⟩⟩; refine ⟨_, rfl, ?_⟩))
        go_roundg k1
        case measure => have := HK1.out; omega
        case rel => exact ⟨(Go.bits .and .u16 x1_1 (IntKind.u16.wrap (x1_1 - 1))), (by first | rfl | (simp; done) | (simp [*]; done)), H', ⟨by have := HK1.out; omega⟩, by repeat (first | exact Drawn0.refl _ | apply Drawn0.step)⟩
      ·rw [if_neg c9] at H
       exact absurd H (by simp)
     ·rw [if_neg c8] at H
      exact absurd H (by simp)
    ·rw [if_neg c6] at H
     have c6b0 : decide (a2 ≤ t215) = false := decide_eq_false c6
     clear c6
     obtain rfl := Option.some.inj H
     go_wp2_with (first | ((with_reducible refine gate_callee (f := 96) rfl ?_); refine goesL_ (some 10) rfl rfl Tryd.func96 (by kernel_rfl) rfl #[.int .u16 x1_1] rfl mapT ?_; (with_reducible refine (bits_OnesCount16.calls x1_1 t215 _ A5.out).mono ?_); rintro e w' ⟨rfl, ⟨nd, rfl⟩⟩; refine ⟨_, rfl, ?_⟩))
     go_ret
     exact ⟨by first | rfl | (simp; done) | (simp [*]; done), by repeat (first | exact Drawn0.refl _ | apply Drawn0.step)⟩

end Go.Proofs.YtomlbbnoicpfpaaDoor.PFnExactCountNeither
