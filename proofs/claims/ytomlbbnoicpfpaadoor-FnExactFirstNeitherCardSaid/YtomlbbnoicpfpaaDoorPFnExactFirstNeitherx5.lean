-- Of this session's own program wip/gen/gen.py (it drives the kit's print): contracts of the functions that the law reaches.
import Derived.Test.YtomlbbnoicpfpaaDoorPFnExactFirstNeitherx0
import Derived.Test.YtomlbbnoicpfpaaDoorPFnExactFirstNeitherx1
import Derived.Test.YtomlbbnoicpfpaaDoorPFnExactFirstNeitherx2
import Derived.Test.YtomlbbnoicpfpaaDoorPFnExactFirstNeitherx3
import Derived.Test.YtomlbbnoicpfpaaDoorPFnExactFirstNeitherx4
namespace Go.Proofs.YtomlbbnoicpfpaaDoor.PFnExactFirstNeither
open Go.RowKit Go.Proofs.YtomlbbnoicpfpaaDoorW.PrintWords Go.Proofs.YtomlbbnoicpfpaaDoorW.PrintLast Go.Proofs.YtomlbbnoicpfpaaDoorW.PrintMore Go.Proofs.YtomlbbnoicpfpaaDoor.Base
attribute [local go_sem] max2_int min2_int max_two min_two max_three min_three max_four min_four   -- for this text's walks alone
set_option linter.unusedVariables false
set_option linter.unusedSimpArgs false

/-! ### spec_trOpen: function 99 -/
def spec_trOpen.l0 : Nat → List (List Bool) → Int → Int → Bool → List Int → Int → Int → Int → Option (Bool)
 | 0, _, _, _, _, _, _, _, _ => none
 | k + 1, x0, x2, x3, x4, x11, x12, x212000, x212001 => if x12 < x212000 then (if 0 ≤ x12 then (if x12 < (x0.length : Int) then (if 0 ≤ x212000 then (if x212000 < ((rd_L3 x0 x12).length : Int) then (if ((rdOf false (rd_L3 x0 x12) x212000) == x4) = true then (if 0 ≤ x212001 then (if x212001 < ((rd_L3 x0 x12).length : Int) then (if ((rdOf false (rd_L3 x0 x12) x212001) == x4) = true then (if x11.length < 17592186044416 then (spec_trOpen.l0 k x0 x2 x3 x4 (x11 ++ [x12]) (wrap64 (x12 + 1)) x212000 x212001) else (none)) else (spec_trOpen.l0 k x0 x2 x3 x4 x11 (wrap64 (x12 + 1)) x212000 x212001)) else (none)) else (none)) else (spec_trOpen.l0 k x0 x2 x3 x4 x11 (wrap64 (x12 + 1)) x212000 x212001)) else (none)) else (none)) else (none)) else (none)) else (if x4 = true then ((spec_trMade.f k x0 x11 ([] : List Int) (wrap64 (x2 - 2)) x4).bind fun t219 => (some (!t219))) else ((spec_trMade.f k x0 x11 ([] : List Int) (wrap64 (x3 - 2)) x4).bind fun t220 => (some (!t220))))
def spec_trOpen.f (k : Nat) (l0 : List (List Bool)) (a1_0 : Int) (a1_1 : Int) (a2 : Int) (a3 : Int) (a4 : Bool) : Option (Bool) := spec_trOpen.l0 k l0 a2 a3 a4 ([] : List Int) 0 a1_0 a1_1
theorem spec_trOpen.mono_l : ∀ k, (∀ y0 y1 y2 y3 y4 y5 y6 y7, LeO (spec_trOpen.l0 k y0 y1 y2 y3 y4 y5 y6 y7) (spec_trOpen.l0 (k + 1) y0 y1 y2 y3 y4 y5 y6 y7))
 | 0 => fun _ _ _ _ _ _ _ _ r h => by simp [spec_trOpen.l0] at h
 | k + 1 => by
  have ih0 := spec_trOpen.mono_l k
  ·intro y0 y1 y2 y3 y4 y5 y6 y7
   unfold spec_trOpen.l0
   repeat' first
   | (with_reducible exact ih0 _ _ _ _ _ _ _ _)
   | (with_reducible exact spec_trMade.mono _ _ _ _ _ _)
   | (with_reducible exact LeO.refl _)
   | (with_reducible exact LeO.none _)
   | (with_reducible refine LeO.ite ?_ ?_)
   | (with_reducible refine LeO.bind ?_ (fun _ => ?_))
   | exact ih0 _ _ _ _ _ _ _ _
   | exact spec_trMade.mono _ _ _ _ _ _
   | exact LeO.none _
   | refine LeO.ite ?_ ?_
   | refine LeO.bind ?_ (fun _ => ?_)
theorem spec_trOpen.mono : ∀ a0 a1 a2 a3 a4 a5 k, LeO (spec_trOpen.f k a0 a1 a2 a3 a4 a5) (spec_trOpen.f (k + 1) a0 a1 a2 a3 a4 a5) := by
 intro a0 a1 a2 a3 a4 a5 k
 have ih0 := spec_trOpen.mono_l k
 unfold spec_trOpen.f
 repeat' first
   | (with_reducible exact ih0 _ _ _ _ _ _ _ _)
   | (with_reducible exact spec_trMade.mono _ _ _ _ _ _)
   | (with_reducible exact LeO.refl _)
   | (with_reducible exact LeO.none _)
   | (with_reducible refine LeO.ite ?_ ?_)
   | (with_reducible refine LeO.bind ?_ (fun _ => ?_))
   | exact ih0 _ _ _ _ _ _ _ _
   | exact spec_trMade.mono _ _ _ _ _ _
   | exact LeO.none _
   | refine LeO.ite ?_ ?_
   | refine LeO.bind ?_ (fun _ => ?_)
set_option maxHeartbeats 8000000 in
set_option maxRecDepth 100000 in
theorem spec_trOpen.calls (k : Nat) (A0 : Option Addr) (c0 : Nat) (l0 : List (List Bool)) (a1_0 : Int) (a1_1 : Int) (a2 : Int) (a3 : Int) (a4 : Bool) (r : Bool) (w : World) (hr0 : Kd.C (Kd.slice 4 Kd.bool) w A0 l0.length l0) (hc0 : l0.length ≤ c0) (h : spec_trOpen.f k l0 a1_0 a1_1 a2 a3 a4 = some r) :
  Calls Tryd.prog 99 #[.slice A0 l0.length c0, .agg #[.int .i64 a1_0, .int .i64 a1_1], .int .i64 a2, .int .i64 a3, .bool a4] w fun e w' => e = .returned (.bool r) ∧ Below w.heap.size w w' := by
 have hu89 := Tryd.underlying89
 have HR0 := Aside0.mk hr0
 have HC0 := Aside0.mk hc0
 clear hr0 hc0
 have HB := Aside0.mk (Below.refl w.heap.size w)
 have H : (spec_trOpen.l0 k l0 a2 a3 a4 ([] : List Int) 0 a1_0 a1_1) = some r := h
 clear h
 have H' := Aside0.mk H
 clear H
 go_enter Tryd.func99, Tryd.ntmps99
 go_wp2_with (first | ((with_reducible refine gate_dst (N := 6) rfl ?_); refine box_event ?hg (N := 6) ?hd (cs := #[.int .i64 a1_0, .int .i64 a1_1]) (t := 89) ?hr ?_; (case hd => rfl); (case hg => rfl); (case hr => first | (go_simp; done) | (go_simp; rfl)); intro gb211 hg w6 hbox hb; have n0_ := hS HB hb; have n1_ := Aside0.mk (hbox); have n2_ := gS HB hg; have n3_ := gS HB hg; clear HB; have HB := n0_; have BK211 := n1_; have GW211 := n2_; have GE211 := n3_; clear n0_ n1_ n2_ n3_; clear hb hbox hg))
 repeat (go_quiet (first | ((with_reducible refine gate_dst (N := 6) rfl ?_); refine box_event ?hg (N := 6) ?hd (cs := #[.int .i64 a1_0, .int .i64 a1_1]) (t := 89) ?hr ?_; (case hd => rfl); (case hg => rfl); (case hr => first | (go_simp; done) | (go_simp; rfl)); intro gb211 hg w6 hbox hb; have n0_ := hS HB hb; have n1_ := Aside0.mk (hbox); have n2_ := gS HB hg; have n3_ := gS HB hg; clear HB; have HB := n0_; have BK211 := n1_; have GW211 := n2_; have GE211 := n3_; clear n0_ n1_ n2_ n3_; clear hb hbox hg)); try go_wp2_with (first | ((with_reducible refine gate_dst (N := 6) rfl ?_); refine box_event ?hg (N := 6) ?hd (cs := #[.int .i64 a1_0, .int .i64 a1_1]) (t := 89) ?hr ?_; (case hd => rfl); (case hg => rfl); (case hr => first | (go_simp; done) | (go_simp; rfl)); intro gb211 hg w6 hbox hb; have n0_ := hS HB hb; have n1_ := Aside0.mk (hbox); have n2_ := gS HB hg; have n3_ := gS HB hg; clear HB; have HB := n0_; have BK211 := n1_; have GW211 := n2_; have GE211 := n3_; clear n0_ n1_ n2_ n3_; clear hb hbox hg)))
 go_loopg [11, 12] k (fun kq v11 v12 w' => ∃ (x11_1 : List Int) (x12_1 : Int), v12 = .int .i64 x12_1 ∧ Aside0 (spec_trOpen.l0 kq l0 a2 a3 a4 x11_1 x12_1 a1_0 a1_1 = some r) ∧ Aside0 (kq ≤ k) ∧ Aside0 (Kd.R (Kd.int .i64) 3 w' w.heap.size (fun _ => True) v11 x11_1) ∧ Aside0 (w'.heap[gb211]? = some (.cells #[.int .i64 a1_0, .int .i64 a1_1] 89 (0, 0))) ∧ Aside0 (Below w.heap.size w w'))
 case atStart => exact ⟨(([] : List Int)), (0), (by first | rfl | (simp; done) | (simp [*]; done)), H', ⟨Nat.le_refl _⟩, ⟨by first | exact Kd.R_nil _ _ _ _ _ | exact Kd.N_nil _ _ _ _ _ | exact Kd.V_nil _ _ _ _ _ | exact Kd.Q_nil _ _ _ _ _ | exact Kd.S_nil _ _ _ _ _⟩, ⟨bK⟩, ⟨hB⟩⟩
 case round =>
  clear H'
  try clear p2
  obtain ⟨x11_1, x12_1, rfl, HA, HK1, HO_11, BK211, HB⟩ := hrel
  cases gk with
  | zero => exact absurd HA.out (by simp [spec_trOpen.l0])
  | succ k1 =>
   have H := HA.out
   clear HA
   simp only [spec_trOpen.l0] at H
   by_cases c7 : x12_1 < a1_0
   ·rw [if_pos c7] at H
    have c7b0 : decide (x12_1 < a1_0) = true := decide_eq_true c7
    clear c7
    by_cases c8 : 0 ≤ x12_1
    ·rw [if_pos c8] at H
     have c8b0 : decide (0 ≤ x12_1) = true := decide_eq_true c8
     clear c8
     by_cases c9 : x12_1 < (l0.length : Int)
     ·rw [if_pos c9] at H
      have c9b0 : decide (x12_1 < (l0.length : Int)) = true := decide_eq_true c9
      clear c9
      by_cases c10 : 0 ≤ a1_0
      ·rw [if_pos c10] at H
       have c10b0 : decide (0 ≤ a1_0) = true := decide_eq_true c10
       clear c10
       by_cases c11 : a1_0 < ((rd_L3 l0 x12_1).length : Int)
       ·rw [if_pos c11] at H
        have c11b0 : decide (a1_0 < ((rd_L3 l0 x12_1).length : Int)) = true := decide_eq_true c11
        clear c11
        by_cases c12 : ((rdOf false (rd_L3 l0 x12_1) a1_0) == a4) = true
        ·rw [if_pos c12] at H
         have c12b0 : ((rdOf false (rd_L3 l0 x12_1) a1_0) == a4) = true := c12
         (try (have c12b1 : decide ((rdOf false (rd_L3 l0 x12_1) a1_0) = a4) = true := by simpa using c12))
         (try (have c12b2 : ((rdOf false (rd_L3 l0 x12_1) a1_0) == a4) = true := by simpa using c12))
         clear c12
         by_cases c13 : 0 ≤ a1_1
         ·rw [if_pos c13] at H
          have c13b0 : decide (0 ≤ a1_1) = true := decide_eq_true c13
          clear c13
          by_cases c14 : a1_1 < ((rd_L3 l0 x12_1).length : Int)
          ·rw [if_pos c14] at H
           have c14b0 : decide (a1_1 < ((rd_L3 l0 x12_1).length : Int)) = true := decide_eq_true c14
           clear c14
           by_cases c15 : ((rdOf false (rd_L3 l0 x12_1) a1_1) == a4) = true
           ·rw [if_pos c15] at H
            have c15b0 : ((rdOf false (rd_L3 l0 x12_1) a1_1) == a4) = true := c15
            (try (have c15b1 : decide ((rdOf false (rd_L3 l0 x12_1) a1_1) = a4) = true := by simpa using c15))
            (try (have c15b2 : ((rdOf false (rd_L3 l0 x12_1) a1_1) == a4) = true := by simpa using c15))
            clear c15
            by_cases c16 : x11_1.length < 17592186044416
            ·rw [if_pos c16] at H
             have LMc16 := Aside0.mk c16
             clear c16
             obtain ⟨y216, hy216⟩ : ∃ y_ : List Int, y_ = (x11_1 ++ [x12_1]) := ⟨_, rfl⟩
             replace H : (spec_trOpen.l0 k1 l0 a2 a3 a4 y216 (wrap64 (x12_1 + 1)) a1_0 a1_1) = some r := by first | (rw [hy216]; with_reducible exact H) | (have H2_ := (Option.bind_some _ _).symm.trans H; rw [hy216]; with_reducible exact H2_) | (have H2_ := (Option.bind_some _ _).symm.trans H; with_reducible exact H2_) | with_reducible exact H | (rw [hy216]; exact H) | exact H
             have Ny216 := Aside0.mk hy216
             clear hy216
             have H' := Aside0.mk H
             clear H
             have hcz17_0 : wr.cell? ⟨gb211, 0, none⟩ = some (.int .i64 a1_0) := (blk_cell BK211.out 0).trans rfl
             have hcz17_1 : wr.cell? ⟨gb211, 1, none⟩ = some (.int .i64 a1_1) := (blk_cell BK211.out 1).trans rfl
             have hfz17_0 := blk_frozen BK211.out 0
             have hfz17_1 := blk_frozen BK211.out 1
             have p212 : 0 ≤ (x12_1 : Int) := of_decide_eq_true (by first | (with_reducible assumption) | assumption)
             have q212 : x12_1 < (l0.length : Int) := of_decide_eq_true (by first | (with_reducible assumption) | assumption)
             obtain ⟨ad212, A212_0, c212_0, e212, hx212_0, hl212_0, hi212_0⟩ := at_L3 HR0.out x12_1 p212 q212
             cases e212
             replace hx212_0 := (HB.out.cell (World.block_lt_of_cell? w _ hx212_0)).trans hx212_0
             have HR212_0 := Aside0.mk hi212_0
             have HC212_0 := Aside0.mk hl212_0
             clear hi212_0 hl212_0
             replace p212 := eq_true p212
             replace q212 := eq_true q212
             have p213 : 0 ≤ (a1_0 : Int) := of_decide_eq_true (by first | (with_reducible assumption) | assumption)
             have q213 : a1_0 < ((rd_L3 l0 x12_1).length : Int) := of_decide_eq_true (by first | (with_reducible assumption) | assumption)
             obtain ⟨ad213, e213, hx213_0⟩ := Kd.at_bool HR212_0.out a1_0 p213 q213
             cases e213
             replace hx213_0 := (HB.out.cell (World.block_lt_of_cell? w _ hx213_0)).trans hx213_0
             replace p213 := eq_true p213
             replace q213 := eq_true q213
             have p214 : 0 ≤ (x12_1 : Int) := of_decide_eq_true (by first | (with_reducible assumption) | assumption)
             have q214 : x12_1 < (l0.length : Int) := of_decide_eq_true (by first | (with_reducible assumption) | assumption)
             obtain ⟨ad214, A214_0, c214_0, e214, hx214_0, hl214_0, hi214_0⟩ := at_L3 HR0.out x12_1 p214 q214
             obtain rfl : ad212 = ad214 := (by injection e214)
             replace hx214_0 := (HB.out.cell (World.block_lt_of_cell? w _ hx214_0)).trans hx214_0
             have HR214_0 := Aside0.mk hi214_0
             have HC214_0 := Aside0.mk hl214_0
             clear hi214_0 hl214_0
             replace p214 := eq_true p214
             replace q214 := eq_true q214
             have ea_ := Option.some.inj (hx212_0.symm.trans hx214_0)
             injection ea_ with ea_ en_ ec_
             subst ea_
             subst ec_
             clear en_
             have p215 : 0 ≤ (a1_1 : Int) := of_decide_eq_true (by first | (with_reducible assumption) | assumption)
             have q215 : a1_1 < ((rd_L3 l0 x12_1).length : Int) := of_decide_eq_true (by first | (with_reducible assumption) | assumption)
             obtain ⟨ad215, e215, hx215_0⟩ := Kd.at_bool HR214_0.out a1_1 p215 q215
             cases e215
             replace hx215_0 := (HB.out.cell (World.block_lt_of_cell? w _ hx215_0)).trans hx215_0
             replace p215 := eq_true p215
             replace q215 := eq_true q215
             go_wp2_with (first | ((with_reducible refine gate_builtin (b := .append) (xs := #[.tmp 42, .tmp 44]) rfl ?_); at_builtin; refine Kd.R_append (Kd.int .i64) (w0 := w) w.heap.size rfl (.tmp 42) (.tmp 44) 81 3 (.int .i64 0) 8 rfl Tryd.underlying81 info3 rfl (by decide) (by omega) u11 x11_1 x12_1 [.int .i64 x12_1] (fun _ => True) (fun _ => False) rfl rfl ?aP (fun _ hk => hk.elim) ?aF ?aO ?aB ?aS ?aL ?_; (case aP => exact rfl); (case aB => exact hB); (case aF => exact (fun _ _ => trivial)); (case aO => exact (by (with_reducible repeat (first | apply Kd.R_alloc | apply Kd.R_drewN | apply Kd.R_drew)); exact HO_11.out)); (case aS => exact (below_size hB)); (case aL => have := LMc16.out; omega); intro v217 w18 ho hb hg hat; rw [← Ny216.out] at ho; have n0_ := Aside0.mk (blk_grown (g := gb211) (o := .cells #[.int .i64 a1_0, .int .i64 a1_1] 89 (0, 0)) bK hg (Kd.R_ne HO_11.out BK211.out (by decide))); have n1_ := Aside0.mk (hb); have n2_ := Aside0.mk (ho); clear BK211; clear HB; clear HO_11; have BK211 := n0_; have HB := n1_; have HO218 := n2_; clear n0_ n1_ n2_; clear ho hb hg hat))
             repeat (go_quiet (first | ((with_reducible refine gate_builtin (b := .append) (xs := #[.tmp 42, .tmp 44]) rfl ?_); at_builtin; refine Kd.R_append (Kd.int .i64) (w0 := w) w.heap.size rfl (.tmp 42) (.tmp 44) 81 3 (.int .i64 0) 8 rfl Tryd.underlying81 info3 rfl (by decide) (by omega) u11 x11_1 x12_1 [.int .i64 x12_1] (fun _ => True) (fun _ => False) rfl rfl ?aP (fun _ hk => hk.elim) ?aF ?aO ?aB ?aS ?aL ?_; (case aP => exact rfl); (case aB => exact hB); (case aF => exact (fun _ _ => trivial)); (case aO => exact (by (with_reducible repeat (first | apply Kd.R_alloc | apply Kd.R_drewN | apply Kd.R_drew)); exact HO_11.out)); (case aS => exact (below_size hB)); (case aL => have := LMc16.out; omega); intro v217 w18 ho hb hg hat; rw [← Ny216.out] at ho; have n0_ := Aside0.mk (blk_grown (g := gb211) (o := .cells #[.int .i64 a1_0, .int .i64 a1_1] 89 (0, 0)) bK hg (Kd.R_ne HO_11.out BK211.out (by decide))); have n1_ := Aside0.mk (hb); have n2_ := Aside0.mk (ho); clear BK211; clear HB; clear HO_11; have BK211 := n0_; have HB := n1_; have HO218 := n2_; clear n0_ n1_ n2_; clear ho hb hg hat)); try go_wp2_with (first | ((with_reducible refine gate_builtin (b := .append) (xs := #[.tmp 42, .tmp 44]) rfl ?_); at_builtin; refine Kd.R_append (Kd.int .i64) (w0 := w) w.heap.size rfl (.tmp 42) (.tmp 44) 81 3 (.int .i64 0) 8 rfl Tryd.underlying81 info3 rfl (by decide) (by omega) u11 x11_1 x12_1 [.int .i64 x12_1] (fun _ => True) (fun _ => False) rfl rfl ?aP (fun _ hk => hk.elim) ?aF ?aO ?aB ?aS ?aL ?_; (case aP => exact rfl); (case aB => exact hB); (case aF => exact (fun _ _ => trivial)); (case aO => exact (by (with_reducible repeat (first | apply Kd.R_alloc | apply Kd.R_drewN | apply Kd.R_drew)); exact HO_11.out)); (case aS => exact (below_size hB)); (case aL => have := LMc16.out; omega); intro v217 w18 ho hb hg hat; rw [← Ny216.out] at ho; have n0_ := Aside0.mk (blk_grown (g := gb211) (o := .cells #[.int .i64 a1_0, .int .i64 a1_1] 89 (0, 0)) bK hg (Kd.R_ne HO_11.out BK211.out (by decide))); have n1_ := Aside0.mk (hb); have n2_ := Aside0.mk (ho); clear BK211; clear HB; clear HO_11; have BK211 := n0_; have HB := n1_; have HO218 := n2_; clear n0_ n1_ n2_; clear ho hb hg hat)))
             go_roundg k1
             case measure => have := HK1.out; omega
             case rel => exact ⟨(y216), (wrap64 (x12_1 + 1)), (by first | rfl | (simp; done) | (simp [*]; done)), H', ⟨by have := HK1.out; omega⟩, ⟨by (with_reducible repeat (first | apply Kd.R_alloc | apply Kd.R_drewN | apply Kd.R_drew)); exact HO218.out⟩, ⟨bK⟩, ⟨hB⟩⟩
            ·rw [if_neg c16] at H
             exact absurd H (by simp)
           ·rw [if_neg c15] at H
            have c15b0 : ((rdOf false (rd_L3 l0 x12_1) a1_1) == a4) = false := by simpa using c15
            (try (have c15b1 : decide ((rdOf false (rd_L3 l0 x12_1) a1_1) = a4) = false := by simpa using c15))
            (try (have c15b2 : ((rdOf false (rd_L3 l0 x12_1) a1_1) == a4) = false := by simpa using c15))
            (try (have c15b3 : ¬ ((rdOf false (rd_L3 l0 x12_1) a1_1) = a4) := by simpa using c15))
            clear c15
            have H' := Aside0.mk H
            clear H
            have hcz19_0 : wr.cell? ⟨gb211, 0, none⟩ = some (.int .i64 a1_0) := (blk_cell BK211.out 0).trans rfl
            have hcz19_1 : wr.cell? ⟨gb211, 1, none⟩ = some (.int .i64 a1_1) := (blk_cell BK211.out 1).trans rfl
            have hfz19_0 := blk_frozen BK211.out 0
            have hfz19_1 := blk_frozen BK211.out 1
            have p212 : 0 ≤ (x12_1 : Int) := of_decide_eq_true (by first | (with_reducible assumption) | assumption)
            have q212 : x12_1 < (l0.length : Int) := of_decide_eq_true (by first | (with_reducible assumption) | assumption)
            obtain ⟨ad212, A212_0, c212_0, e212, hx212_0, hl212_0, hi212_0⟩ := at_L3 HR0.out x12_1 p212 q212
            cases e212
            replace hx212_0 := (HB.out.cell (World.block_lt_of_cell? w _ hx212_0)).trans hx212_0
            have HR212_0 := Aside0.mk hi212_0
            have HC212_0 := Aside0.mk hl212_0
            clear hi212_0 hl212_0
            replace p212 := eq_true p212
            replace q212 := eq_true q212
            have p213 : 0 ≤ (a1_0 : Int) := of_decide_eq_true (by first | (with_reducible assumption) | assumption)
            have q213 : a1_0 < ((rd_L3 l0 x12_1).length : Int) := of_decide_eq_true (by first | (with_reducible assumption) | assumption)
            obtain ⟨ad213, e213, hx213_0⟩ := Kd.at_bool HR212_0.out a1_0 p213 q213
            cases e213
            replace hx213_0 := (HB.out.cell (World.block_lt_of_cell? w _ hx213_0)).trans hx213_0
            replace p213 := eq_true p213
            replace q213 := eq_true q213
            have p214 : 0 ≤ (x12_1 : Int) := of_decide_eq_true (by first | (with_reducible assumption) | assumption)
            have q214 : x12_1 < (l0.length : Int) := of_decide_eq_true (by first | (with_reducible assumption) | assumption)
            obtain ⟨ad214, A214_0, c214_0, e214, hx214_0, hl214_0, hi214_0⟩ := at_L3 HR0.out x12_1 p214 q214
            obtain rfl : ad212 = ad214 := (by injection e214)
            replace hx214_0 := (HB.out.cell (World.block_lt_of_cell? w _ hx214_0)).trans hx214_0
            have HR214_0 := Aside0.mk hi214_0
            have HC214_0 := Aside0.mk hl214_0
            clear hi214_0 hl214_0
            replace p214 := eq_true p214
            replace q214 := eq_true q214
            have ea_ := Option.some.inj (hx212_0.symm.trans hx214_0)
            injection ea_ with ea_ en_ ec_
            subst ea_
            subst ec_
            clear en_
            have p215 : 0 ≤ (a1_1 : Int) := of_decide_eq_true (by first | (with_reducible assumption) | assumption)
            have q215 : a1_1 < ((rd_L3 l0 x12_1).length : Int) := of_decide_eq_true (by first | (with_reducible assumption) | assumption)
            obtain ⟨ad215, e215, hx215_0⟩ := Kd.at_bool HR214_0.out a1_1 p215 q215
            cases e215
            replace hx215_0 := (HB.out.cell (World.block_lt_of_cell? w _ hx215_0)).trans hx215_0
            replace p215 := eq_true p215
            replace q215 := eq_true q215
            go_wp2
            repeat (go_quiet (fail); try go_wp2)
            go_roundg k1
            case measure => have := HK1.out; omega
            case rel => exact ⟨(x11_1), (wrap64 (x12_1 + 1)), (by first | rfl | (simp; done) | (simp [*]; done)), H', ⟨by have := HK1.out; omega⟩, ⟨by (with_reducible repeat (first | apply Kd.R_alloc | apply Kd.R_drewN | apply Kd.R_drew)); exact HO_11.out⟩, ⟨bK⟩, ⟨hB⟩⟩
          ·rw [if_neg c14] at H
           exact absurd H (by simp)
         ·rw [if_neg c13] at H
          exact absurd H (by simp)
        ·rw [if_neg c12] at H
         have c12b0 : ((rdOf false (rd_L3 l0 x12_1) a1_0) == a4) = false := by simpa using c12
         (try (have c12b1 : decide ((rdOf false (rd_L3 l0 x12_1) a1_0) = a4) = false := by simpa using c12))
         (try (have c12b2 : ((rdOf false (rd_L3 l0 x12_1) a1_0) == a4) = false := by simpa using c12))
         (try (have c12b3 : ¬ ((rdOf false (rd_L3 l0 x12_1) a1_0) = a4) := by simpa using c12))
         clear c12
         have H' := Aside0.mk H
         clear H
         have hcz20_0 : wr.cell? ⟨gb211, 0, none⟩ = some (.int .i64 a1_0) := (blk_cell BK211.out 0).trans rfl
         have hcz20_1 : wr.cell? ⟨gb211, 1, none⟩ = some (.int .i64 a1_1) := (blk_cell BK211.out 1).trans rfl
         have hfz20_0 := blk_frozen BK211.out 0
         have hfz20_1 := blk_frozen BK211.out 1
         have p212 : 0 ≤ (x12_1 : Int) := of_decide_eq_true (by first | (with_reducible assumption) | assumption)
         have q212 : x12_1 < (l0.length : Int) := of_decide_eq_true (by first | (with_reducible assumption) | assumption)
         obtain ⟨ad212, A212_0, c212_0, e212, hx212_0, hl212_0, hi212_0⟩ := at_L3 HR0.out x12_1 p212 q212
         cases e212
         replace hx212_0 := (HB.out.cell (World.block_lt_of_cell? w _ hx212_0)).trans hx212_0
         have HR212_0 := Aside0.mk hi212_0
         have HC212_0 := Aside0.mk hl212_0
         clear hi212_0 hl212_0
         replace p212 := eq_true p212
         replace q212 := eq_true q212
         have p213 : 0 ≤ (a1_0 : Int) := of_decide_eq_true (by first | (with_reducible assumption) | assumption)
         have q213 : a1_0 < ((rd_L3 l0 x12_1).length : Int) := of_decide_eq_true (by first | (with_reducible assumption) | assumption)
         obtain ⟨ad213, e213, hx213_0⟩ := Kd.at_bool HR212_0.out a1_0 p213 q213
         cases e213
         replace hx213_0 := (HB.out.cell (World.block_lt_of_cell? w _ hx213_0)).trans hx213_0
         replace p213 := eq_true p213
         replace q213 := eq_true q213
         go_wp2
         repeat (go_quiet (fail); try go_wp2)
         go_roundg k1
         case measure => have := HK1.out; omega
         case rel => exact ⟨(x11_1), (wrap64 (x12_1 + 1)), (by first | rfl | (simp; done) | (simp [*]; done)), H', ⟨by have := HK1.out; omega⟩, ⟨by (with_reducible repeat (first | apply Kd.R_alloc | apply Kd.R_drewN | apply Kd.R_drew)); exact HO_11.out⟩, ⟨bK⟩, ⟨hB⟩⟩
       ·rw [if_neg c11] at H
        exact absurd H (by simp)
      ·rw [if_neg c10] at H
       exact absurd H (by simp)
     ·rw [if_neg c9] at H
      exact absurd H (by simp)
    ·rw [if_neg c8] at H
     exact absurd H (by simp)
   ·rw [if_neg c7] at H
    have c7b0 : decide (x12_1 < a1_0) = false := decide_eq_false c7
    clear c7
    by_cases c21 : a4 = true
    ·subst c21
     have H1 : ((spec_trMade.f k1 l0 x11_1 ([] : List Int) (wrap64 (a2 - 2)) true).bind fun t219 => (some (!t219))) = some r := by rw [if_pos rfl] at H; exact H
     clear H
     have H := H1
     clear H1
     replace H := Option.bind_eq_some_iff.mp H
     obtain ⟨t219, A220, H⟩ := H
     replace H : (some (!t219)) = some r := H
     have A22 := Aside0.mk A220
     clear A220
     obtain rfl := Option.some.inj H
     have hcz23_0 : wr.cell? ⟨gb211, 0, none⟩ = some (.int .i64 a1_0) := (blk_cell BK211.out 0).trans rfl
     have hcz23_1 : wr.cell? ⟨gb211, 1, none⟩ = some (.int .i64 a1_1) := (blk_cell BK211.out 1).trans rfl
     have hfz23_0 := blk_frozen BK211.out 0
     have hfz23_1 := blk_frozen BK211.out 1
     obtain ⟨Ao24, co24, eo24⟩ := Kd.R_slice HO_11.out
     subst eo24
     go_wp2_with (first | (go_at_call 124; (refine (spec_trMade.calls k1 _ _ l0 _ _ x11_1 _ _ ([] : List Int) (wrap64 (a2 - 2)) true t219 _ ?side1 ?side2 ?side3 ?side4 ?side5 ?side6 A22.out).mono ?_); (case side1 => repeat (first | exact (Kd.C_below HR0.out HB.out) | (with_reducible refine Kd.C_alloc ?_ _) | (with_reducible refine Kd.C_drewN ?_ _) | (with_reducible refine Kd.C_drew ?_))); (case side2 => exact HC0.out); (case side3 => repeat (first | exact (Kd.R_reads' HO_11.out).2.2 | (with_reducible refine Kd.C_alloc ?_ _) | (with_reducible refine Kd.C_drewN ?_ _) | (with_reducible refine Kd.C_drew ?_))); (case side4 => exact (Kd.R_reads' HO_11.out).2.1); (case side5 => exact Kd.C_nil _ _); (case side6 => exact Nat.le_refl _); rintro e w25 ⟨rfl, hb⟩; have n0_ := Aside0.mk (Kd.R_below (by (with_reducible repeat (first | apply Kd.R_alloc | apply Kd.R_drewN | apply Kd.R_drew)); exact HO_11.out) hb); have n1_ := bS BK211 hb; have n2_ := hS HB hb; clear HO_11; clear BK211; clear HB; have HO_11 := n0_; have BK211 := n1_; have HB := n2_; clear n0_ n1_ n2_; (try clear hb); (try clear hb2); (try clear hk); (try clear hi)))
     repeat (go_quiet (first | (go_at_call 124; (refine (spec_trMade.calls k1 _ _ l0 _ _ x11_1 _ _ ([] : List Int) (wrap64 (a2 - 2)) true t219 _ ?side1 ?side2 ?side3 ?side4 ?side5 ?side6 A22.out).mono ?_); (case side1 => repeat (first | exact (Kd.C_below HR0.out HB.out) | (with_reducible refine Kd.C_alloc ?_ _) | (with_reducible refine Kd.C_drewN ?_ _) | (with_reducible refine Kd.C_drew ?_))); (case side2 => exact HC0.out); (case side3 => repeat (first | exact (Kd.R_reads' HO_11.out).2.2 | (with_reducible refine Kd.C_alloc ?_ _) | (with_reducible refine Kd.C_drewN ?_ _) | (with_reducible refine Kd.C_drew ?_))); (case side4 => exact (Kd.R_reads' HO_11.out).2.1); (case side5 => exact Kd.C_nil _ _); (case side6 => exact Nat.le_refl _); rintro e w25 ⟨rfl, hb⟩; have n0_ := Aside0.mk (Kd.R_below (by (with_reducible repeat (first | apply Kd.R_alloc | apply Kd.R_drewN | apply Kd.R_drew)); exact HO_11.out) hb); have n1_ := bS BK211 hb; have n2_ := hS HB hb; clear HO_11; clear BK211; clear HB; have HO_11 := n0_; have BK211 := n1_; have HB := n2_; clear n0_ n1_ n2_; (try clear hb); (try clear hb2); (try clear hk); (try clear hi))); try go_wp2_with (first | (go_at_call 124; (refine (spec_trMade.calls k1 _ _ l0 _ _ x11_1 _ _ ([] : List Int) (wrap64 (a2 - 2)) true t219 _ ?side1 ?side2 ?side3 ?side4 ?side5 ?side6 A22.out).mono ?_); (case side1 => repeat (first | exact (Kd.C_below HR0.out HB.out) | (with_reducible refine Kd.C_alloc ?_ _) | (with_reducible refine Kd.C_drewN ?_ _) | (with_reducible refine Kd.C_drew ?_))); (case side2 => exact HC0.out); (case side3 => repeat (first | exact (Kd.R_reads' HO_11.out).2.2 | (with_reducible refine Kd.C_alloc ?_ _) | (with_reducible refine Kd.C_drewN ?_ _) | (with_reducible refine Kd.C_drew ?_))); (case side4 => exact (Kd.R_reads' HO_11.out).2.1); (case side5 => exact Kd.C_nil _ _); (case side6 => exact Nat.le_refl _); rintro e w25 ⟨rfl, hb⟩; have n0_ := Aside0.mk (Kd.R_below (by (with_reducible repeat (first | apply Kd.R_alloc | apply Kd.R_drewN | apply Kd.R_drew)); exact HO_11.out) hb); have n1_ := bS BK211 hb; have n2_ := hS HB hb; clear HO_11; clear BK211; clear HB; have HO_11 := n0_; have BK211 := n1_; have HB := n2_; clear n0_ n1_ n2_; (try clear hb); (try clear hb2); (try clear hk); (try clear hi))))
     go_ret
     exact ⟨by first | rfl | (simp [errW_none, errW_some] <;> rfl) | (simp [*, errW_none, errW_some] <;> rfl), hB⟩
    ·replace c21 := Bool.eq_false_iff.mpr c21
     subst c21
     have H1 : ((spec_trMade.f k1 l0 x11_1 ([] : List Int) (wrap64 (a3 - 2)) false).bind fun t220 => (some (!t220))) = some r := by rw [if_neg (show ¬ (false = true) by decide)] at H; exact H
     clear H
     have H := H1
     clear H1
     replace H := Option.bind_eq_some_iff.mp H
     obtain ⟨t220, A260, H⟩ := H
     replace H : (some (!t220)) = some r := H
     have A26 := Aside0.mk A260
     clear A260
     obtain rfl := Option.some.inj H
     have hcz27_0 : wr.cell? ⟨gb211, 0, none⟩ = some (.int .i64 a1_0) := (blk_cell BK211.out 0).trans rfl
     have hcz27_1 : wr.cell? ⟨gb211, 1, none⟩ = some (.int .i64 a1_1) := (blk_cell BK211.out 1).trans rfl
     have hfz27_0 := blk_frozen BK211.out 0
     have hfz27_1 := blk_frozen BK211.out 1
     obtain ⟨Ao28, co28, eo28⟩ := Kd.R_slice HO_11.out
     subst eo28
     go_wp2_with (first | (go_at_call 124; (refine (spec_trMade.calls k1 _ _ l0 _ _ x11_1 _ _ ([] : List Int) (wrap64 (a3 - 2)) false t220 _ ?side1 ?side2 ?side3 ?side4 ?side5 ?side6 A26.out).mono ?_); (case side1 => repeat (first | exact (Kd.C_below HR0.out HB.out) | (with_reducible refine Kd.C_alloc ?_ _) | (with_reducible refine Kd.C_drewN ?_ _) | (with_reducible refine Kd.C_drew ?_))); (case side2 => exact HC0.out); (case side3 => repeat (first | exact (Kd.R_reads' HO_11.out).2.2 | (with_reducible refine Kd.C_alloc ?_ _) | (with_reducible refine Kd.C_drewN ?_ _) | (with_reducible refine Kd.C_drew ?_))); (case side4 => exact (Kd.R_reads' HO_11.out).2.1); (case side5 => exact Kd.C_nil _ _); (case side6 => exact Nat.le_refl _); rintro e w29 ⟨rfl, hb⟩; have n0_ := Aside0.mk (Kd.R_below (by (with_reducible repeat (first | apply Kd.R_alloc | apply Kd.R_drewN | apply Kd.R_drew)); exact HO_11.out) hb); have n1_ := bS BK211 hb; have n2_ := hS HB hb; clear HO_11; clear BK211; clear HB; have HO_11 := n0_; have BK211 := n1_; have HB := n2_; clear n0_ n1_ n2_; (try clear hb); (try clear hb2); (try clear hk); (try clear hi)))
     repeat (go_quiet (first | (go_at_call 124; (refine (spec_trMade.calls k1 _ _ l0 _ _ x11_1 _ _ ([] : List Int) (wrap64 (a3 - 2)) false t220 _ ?side1 ?side2 ?side3 ?side4 ?side5 ?side6 A26.out).mono ?_); (case side1 => repeat (first | exact (Kd.C_below HR0.out HB.out) | (with_reducible refine Kd.C_alloc ?_ _) | (with_reducible refine Kd.C_drewN ?_ _) | (with_reducible refine Kd.C_drew ?_))); (case side2 => exact HC0.out); (case side3 => repeat (first | exact (Kd.R_reads' HO_11.out).2.2 | (with_reducible refine Kd.C_alloc ?_ _) | (with_reducible refine Kd.C_drewN ?_ _) | (with_reducible refine Kd.C_drew ?_))); (case side4 => exact (Kd.R_reads' HO_11.out).2.1); (case side5 => exact Kd.C_nil _ _); (case side6 => exact Nat.le_refl _); rintro e w29 ⟨rfl, hb⟩; have n0_ := Aside0.mk (Kd.R_below (by (with_reducible repeat (first | apply Kd.R_alloc | apply Kd.R_drewN | apply Kd.R_drew)); exact HO_11.out) hb); have n1_ := bS BK211 hb; have n2_ := hS HB hb; clear HO_11; clear BK211; clear HB; have HO_11 := n0_; have BK211 := n1_; have HB := n2_; clear n0_ n1_ n2_; (try clear hb); (try clear hb2); (try clear hk); (try clear hi))); try go_wp2_with (first | (go_at_call 124; (refine (spec_trMade.calls k1 _ _ l0 _ _ x11_1 _ _ ([] : List Int) (wrap64 (a3 - 2)) false t220 _ ?side1 ?side2 ?side3 ?side4 ?side5 ?side6 A26.out).mono ?_); (case side1 => repeat (first | exact (Kd.C_below HR0.out HB.out) | (with_reducible refine Kd.C_alloc ?_ _) | (with_reducible refine Kd.C_drewN ?_ _) | (with_reducible refine Kd.C_drew ?_))); (case side2 => exact HC0.out); (case side3 => repeat (first | exact (Kd.R_reads' HO_11.out).2.2 | (with_reducible refine Kd.C_alloc ?_ _) | (with_reducible refine Kd.C_drewN ?_ _) | (with_reducible refine Kd.C_drew ?_))); (case side4 => exact (Kd.R_reads' HO_11.out).2.1); (case side5 => exact Kd.C_nil _ _); (case side6 => exact Nat.le_refl _); rintro e w29 ⟨rfl, hb⟩; have n0_ := Aside0.mk (Kd.R_below (by (with_reducible repeat (first | apply Kd.R_alloc | apply Kd.R_drewN | apply Kd.R_drew)); exact HO_11.out) hb); have n1_ := bS BK211 hb; have n2_ := hS HB hb; clear HO_11; clear BK211; clear HB; have HO_11 := n0_; have BK211 := n1_; have HB := n2_; clear n0_ n1_ n2_; (try clear hb); (try clear hb2); (try clear hk); (try clear hi))))
     go_ret
     exact ⟨by first | rfl | (simp [errW_none, errW_some] <;> rfl) | (simp [*, errW_none, errW_some] <;> rfl), hB⟩

/-! ### spec_trFirst: function 62 (a text of this session's own) -/
/-- The first party with neither: by true as the function, by false as its loop. -/
def spec_trFirst.w : Nat → Bool → List (List Bool) → List S89 → Int → Int → Int → Option (Bool × List (List Bool))
 | 0, _, _, _, _, _, _ => none
 | k + 1, true, T, ps, i, r, s => (spec_paOf.f k T).bind fun p => (spec_trNeither.f k p.1 p.2 r s).bind fun t => if t = true then some (true, T) else spec_trFirst.w k false T ps i r s
 | k + 1, false, T, ps, i, r, s => if i < (ps.length : Int) then (if 0 ≤ i then ((setT T (rd_T89 ps i).f0 (rd_T89 ps i).f1 true).bind fun T1 => (spec_trOpen.f k T1 (rd_T89 ps i).f0 (rd_T89 ps i).f1 r s true).bind fun o => (if o = true then spec_trFirst.w k true T1 ps (wrap64 (i + 1)) r s else some (false, T1)).bind fun z => if z.1 = true then some (true, z.2) else (setT z.2 (rd_T89 ps i).f0 (rd_T89 ps i).f1 false).bind fun T3 => (spec_trOpen.f k T3 (rd_T89 ps i).f0 (rd_T89 ps i).f1 r s false).bind fun o2 => if o2 = true then spec_trFirst.w k false T3 ps (wrap64 (i + 1)) r s else some (false, T3)) else none) else some (false, T)
def spec_trFirst.f (k : Nat) (T : List (List Bool)) (ps : List S89) (i r s : Int) : Option (Bool × List (List Bool)) := spec_trFirst.w k true T ps i r s
theorem spec_trFirst.mono_w : ∀ k, ∀ b y0 y1 y2 y3 y4, LeO (spec_trFirst.w k b y0 y1 y2 y3 y4) (spec_trFirst.w (k + 1) b y0 y1 y2 y3 y4)
 | 0 => fun b _ _ _ _ _ r h => by cases b <;> simp [spec_trFirst.w] at h
 | k + 1 => by
  have ih := spec_trFirst.mono_w k
  intro b y0 y1 y2 y3 y4
  cases b with
  | true =>
    show LeO ((spec_paOf.f k y0).bind fun p => (spec_trNeither.f k p.1 p.2 y3 y4).bind fun t => if t = true then some (true, y0) else spec_trFirst.w k false y0 y1 y2 y3 y4) ((spec_paOf.f (k + 1) y0).bind fun p => (spec_trNeither.f (k + 1) p.1 p.2 y3 y4).bind fun t => if t = true then some (true, y0) else spec_trFirst.w (k + 1) false y0 y1 y2 y3 y4)
    exact LeO.bind (spec_paOf.mono _ _) (fun _ => LeO.bind (spec_trNeither.mono _ _ _ _ _) (fun _ => LeO.ite (LeO.refl _) (ih _ _ _ _ _ _)))
  | false =>
    rw [spec_trFirst.w, spec_trFirst.w]
    refine LeO.ite (LeO.ite (LeO.bind (LeO.refl _) (fun _ => LeO.bind (spec_trOpen.mono _ _ _ _ _ _ _) (fun _ => LeO.bind (LeO.ite (ih _ _ _ _ _ _) (LeO.refl _)) (fun _ => LeO.ite (LeO.refl _) (LeO.bind (LeO.refl _) (fun _ => LeO.bind (spec_trOpen.mono _ _ _ _ _ _ _) (fun _ => LeO.ite (ih _ _ _ _ _ _) (LeO.refl _)))))))) (LeO.refl _)) (LeO.refl _)
set_option maxHeartbeats 8000000 in
set_option maxRecDepth 100000 in
theorem spec_trFirst.calls : ∀ (k : Nat) (A : Option Addr) (n cap : Nat) (T : List (List Bool)) (Ap : Option Addr) (cp : Nat) (ps : List S89) (fr r s : Int) (z : Bool × List (List Bool)) (w : World) (base : Nat) (ok : Nat → Prop)
    (_HO : Kd.S (Kd.slice 4 Kd.bool) 122 w base ok (.slice A n cap) T) (_hp : Kd.F k89 w (fun k => ¬ ok k) Ap ps.length ps) (_hcp : ps.length ≤ cp) (_hok : ∀ k, ok k → k < w.heap.size) (_hbase : base ≤ w.heap.size) (_h : spec_trFirst.f k T ps fr r s = some z),
    Calls Tryd.prog 62 #[.slice A n cap, .slice Ap ps.length cp, .int .i64 fr, .int .i64 r, .int .i64 s] w fun e w' => e = .returned (.bool z.1) ∧ TSt w base ok (.slice A n cap) w' z.2 := by
  intro k
  induction k using Nat.strongRecOn with
  | ind k ih =>
    intro A n cap T Ap cp ps fr r s z w base ok HO hp hcp hok hbase h
    cases k with
    | zero => simp [spec_trFirst.f, spec_trFirst.w] at h
    | succ k =>
      unfold spec_trFirst.f at h
      rw [spec_trFirst.w] at h
      have hn := (Kd.S_reads' HO).1
      have hcn := (Kd.S_reads' HO).2.1
      have hC := (Kd.S_reads' HO).2.2
      replace h := Option.bind_eq_some_iff.mp h
      obtain ⟨⟨p1, p2⟩, hp1, h⟩ := h
      replace h := Option.bind_eq_some_iff.mp h
      obtain ⟨t, ht, h⟩ := h
      have HOf := Aside0.mk (fun (w' : World) (hS : Kd.S (Kd.slice 4 Kd.bool) 122 w' base ok (.slice A n cap) T) => show Calls Tryd.prog 63 #[.slice A n cap] w' (fun e w'' => ∃ v : Value, e = .returned (.agg #[.int .i64 p1, v]) ∧ Kd.R k89 89 w'' w'.heap.size (fun _ => True) v p2 ∧ Below w'.heap.size w' w'') from by
        obtain ⟨h1, h2, h3⟩ := Kd.S_reads' hS
        have := spec_paOf.calls k A cap T p1 p2 w' h3 (by omega) hp1
        rw [← h1] at this
        exact this)
      have HNe := Aside0.mk ht
      have HS0 := Aside0.mk (TSt.refl HO)
      have HF := Aside0.mk hp
      have HOK := Aside0.mk hok
      have HIH := Aside0.mk ih
      clear hp1 ht HO hp hn hcn hC hok ih
      cases t with
      | true =>
        rw [if_pos rfl] at h
        obtain rfl := Option.some.inj h
        clear h
        go_enter Tryd.func62, Tryd.ntmps62
        go_wp2_with (first
          | (go_at_call 63; refine (HOf.out _ HS0.out.row).mono ?_; rintro e w1 ⟨v1, rfl, ho, hb⟩; have HO1 := Aside0.mk ho; have HB1 := Aside0.mk hb; clear ho hb; obtain ⟨A1, c1, rfl⟩ := Kd.R_slice HO1.out)
          | (go_at_call 45; refine (spec_trNeither.calls k p1 A1 c1 p2 r s true _ (Kd.R_reads' HO1.out).2.2 (Kd.R_reads' HO1.out).2.1 HNe.out).mono ?_; rintro e w2 ⟨rfl, hb⟩; have HB2 := Aside0.mk hb; clear hb))
        go_ret
        exact ⟨rfl, (HS0.out.later hbase HB1.out).later (Nat.le_trans hbase HB1.out.size) HB2.out⟩
      | false =>
        rw [if_neg (by simp)] at h
        have HH := Aside0.mk h
        clear h
        go_enter Tryd.func62, Tryd.ntmps62
        go_wp2_with (first
          | (go_at_call 63; refine (HOf.out _ HS0.out.row).mono ?_; rintro e w1 ⟨v1, rfl, ho, hb⟩; have HO1 := Aside0.mk ho; have HB1 := Aside0.mk hb; clear ho hb; obtain ⟨A1, c1, rfl⟩ := Kd.R_slice HO1.out)
          | (go_at_call 45; refine (spec_trNeither.calls k p1 A1 c1 p2 r s false _ (Kd.R_reads' HO1.out).2.2 (Kd.R_reads' HO1.out).2.1 HNe.out).mono ?_; rintro e w2 ⟨rfl, hb⟩; have HB2 := Aside0.mk hb; clear hb))
        go_loopg [11] k (fun gg v11 w' => ∃ (j : Nat) (i : Int) (U : List (List Bool)), j ≤ gg ∧ j ≤ k ∧ v11 = .int .i64 i ∧ Aside0 (spec_trFirst.w j false U ps i r s = some z) ∧ Aside0 (TSt w base ok (.slice A n cap) w' U))
        case atStart =>
          exact ⟨k, fr, T, Nat.le_refl _, Nat.le_refl _, rfl, HH, ⟨(HS0.out.later hbase HB1.out).later (Nat.le_trans hbase HB1.out.size) HB2.out⟩⟩
        case round =>
          obtain ⟨j, i, U, hg, hjk, rfl, HW, HS⟩ := hrel
          clear HH HS0 HNe HOf HO1 HB1 HB2
          have hbr : base ≤ wr.heap.size := Nat.le_trans hbase HS.out.below.size
          obtain ⟨hw⟩ := HW
          cases j with
          | zero => simp [spec_trFirst.w] at hw
          | succ j =>
            rw [spec_trFirst.w] at hw
            by_cases c1 : i < (ps.length : Int)
            · rw [if_pos c1] at hw
              by_cases c2 : 0 ≤ i
              · rw [if_pos c2] at hw
                obtain ⟨x, hx⟩ : ∃ x_, x_ = rd_T89 ps i := ⟨_, rfl⟩
                rw [← hx] at hw
                replace hw := Option.bind_eq_some_iff.mp hw
                obtain ⟨T1, hT1, hw⟩ := hw
                replace hw := Option.bind_eq_some_iff.mp hw
                obtain ⟨o, ho_, hw⟩ := hw
                replace hw := Option.bind_eq_some_iff.mp hw
                obtain ⟨y, hy, hw⟩ := hw
                obtain ⟨ad, e, hx0, hx1⟩ := at_T89 (Kd.F_now (HS.out.foot HF.out)) i c2 c1
                subst e
                have HX := Aside0.mk (fun (w' : World) (hF : Kd.F k89 w' (fun k => ¬ ok k) (some ad) ps.length ps) => show w'.cell? (ad.add (i.toNat * 2)) = some (.int .i64 x.f0) ∧ w'.cell? ⟨(ad.add (i.toNat * 2)).block, (ad.add (i.toNat * 2)).off + 1, none⟩ = some (.int .i64 x.f1) from by
                  obtain ⟨ad', e, h0, h1⟩ := at_T89 (Kd.F_now hF) i c2 c1
                  injection e with e
                  subst e
                  rw [hx]
                  exact ⟨h0, h1⟩)
                have pf1 : (0 ≤ i) = True := eq_true c2
                have pf2 : (i < (ps.length : Int)) = True := eq_true c1
                have HT1 := Aside0.mk (fun (w' : World) (hS : Kd.S (Kd.slice 4 Kd.bool) 122 w' base ok (.slice A n cap) U) (hb : base ≤ w'.heap.size) => spec_trSet.sets A n cap U T1 x.f0 x.f1 true w' base ok hS hb hT1)
                have HO1 := Aside0.mk (fun (w' : World) (hS : Kd.S (Kd.slice 4 Kd.bool) 122 w' base ok (.slice A n cap) T1) => show Calls Tryd.prog 99 #[.slice A n cap, .agg #[.int .i64 x.f0, .int .i64 x.f1], .int .i64 r, .int .i64 s, .bool true] w' (fun e w'' => e = .returned (.bool o) ∧ Below w'.heap.size w' w'') from by
                  obtain ⟨h1, h2, h3⟩ := Kd.S_reads' hS
                  have := spec_trOpen.calls j A cap T1 x.f0 x.f1 r s true o w' h3 (by omega) ho_
                  rw [← h1] at this
                  exact this)
                have hxx := HX.out wr (HS.out.foot HF.out)
                have hxa := hxx.1
                have hxb := hxx.2
                clear hT1 ho_ hx0 hx1 hxx hx c1 c2
                -- the party's rest, when there is one: after the pair with friends
                have HT3 := Aside0.mk (fun (T3 : List (List Bool)) (hT3 : setT y.2 x.f0 x.f1 false = some T3) (w' : World) (hS : Kd.S (Kd.slice 4 Kd.bool) 122 w' base ok (.slice A n cap) y.2) (hb : base ≤ w'.heap.size) => spec_trSet.sets A n cap y.2 T3 x.f0 x.f1 false w' base ok hS hb hT3)
                have HO3 := Aside0.mk (fun (T3 : List (List Bool)) (o2 : Bool) (ho2 : spec_trOpen.f j T3 x.f0 x.f1 r s false = some o2) (w' : World) (hS : Kd.S (Kd.slice 4 Kd.bool) 122 w' base ok (.slice A n cap) T3) => show Calls Tryd.prog 99 #[.slice A n cap, .agg #[.int .i64 x.f0, .int .i64 x.f1], .int .i64 r, .int .i64 s, .bool false] w' (fun e w'' => e = .returned (.bool o2) ∧ Below w'.heap.size w' w'') from by
                  obtain ⟨h1, h2, h3⟩ := Kd.S_reads' hS
                  have := spec_trOpen.calls j A cap T3 x.f0 x.f1 r s false o2 w' h3 (by omega) ho2
                  rw [← h1] at this
                  exact this)
                cases o with
                | true =>
                  rw [if_pos rfl] at hy
                  obtain ⟨y1, y2⟩ := y
                  have HZ := Aside0.mk (fun (w' : World) (u : TSt w base ok (.slice A n cap) w' T1) => HIH.out j (by omega) A n cap T1 (some ad) cp ps (wrap64 (i + 1)) r s (y1, y2) w' base ok u.row (u.foot HF.out) hcp (fun k_ hk => Nat.lt_of_lt_of_le (HOK.out k_ hk) u.below.size) (Nat.le_trans hbase u.below.size) hy)
                  clear hy HIH
                  cases y1 with
                  | true =>
                    rw [if_pos rfl] at hw
                    obtain rfl := Option.some.inj hw
                    clear hw hg
                    go_wp2_with (first
                      | (go_at_call 98; refine (HT1.out _ HS.out.row hbr).mono ?_; rintro e w1 ⟨rfl, u1⟩; have U1 := Aside0.mk (HS.out.trans u1); have hya := (HX.out w1 (U1.out.foot HF.out)).1; have hyb := (HX.out w1 (U1.out.foot HF.out)).2; clear u1 HT1)
                      | (go_at_call 99; refine (HO1.out _ U1.out.row).mono ?_; rintro e w2 ⟨rfl, hb2⟩; have U2 := Aside0.mk (U1.out.later (Nat.le_trans hbase U1.out.below.size) hb2); clear hb2 HO1)
                      | (go_at_call 62; refine (HZ.out _ U2.out).mono ?_; rintro e w3 ⟨rfl, u3⟩; have U3 := Aside0.mk (U2.out.trans u3); clear u3))
                    go_ret
                    exact ⟨rfl, U3.out⟩
                  | false =>
                    rw [if_neg (by simp)] at hw
                    replace hw := Option.bind_eq_some_iff.mp hw
                    obtain ⟨T3, hT3, hw⟩ := hw
                    replace hw := Option.bind_eq_some_iff.mp hw
                    obtain ⟨o2, ho2, hw⟩ := hw
                    have HT4 := Aside0.mk (HT3.out T3 hT3)
                    have HO4 := Aside0.mk (HO3.out T3 o2 ho2)
                    clear hT3 ho2 HT3 HO3
                    cases o2 with
                    | true =>
                      rw [if_pos rfl] at hw
                      have HW := Aside0.mk hw
                      clear hw
                      go_wp2_with (first
                        | (go_at_call 98; refine (HT1.out _ HS.out.row hbr).mono ?_; rintro e w1 ⟨rfl, u1⟩; have U1 := Aside0.mk (HS.out.trans u1); have hya := (HX.out w1 (U1.out.foot HF.out)).1; have hyb := (HX.out w1 (U1.out.foot HF.out)).2; clear u1 HT1)
                        | (go_at_call 99; refine (HO1.out _ U1.out.row).mono ?_; rintro e w2 ⟨rfl, hb2⟩; have U2 := Aside0.mk (U1.out.later (Nat.le_trans hbase U1.out.below.size) hb2); clear hb2 HO1)
                        | (go_at_call 62; refine (HZ.out _ U2.out).mono ?_; rintro e w3 ⟨rfl, u3⟩; have U3 := Aside0.mk (U2.out.trans u3); have hza := (HX.out w3 (U3.out.foot HF.out)).1; have hzb := (HX.out w3 (U3.out.foot HF.out)).2; clear u3)
                        | (go_at_call 98; refine (HT4.out _ U3.out.row (Nat.le_trans hbase U3.out.below.size)).mono ?_; rintro e w4 ⟨rfl, u4⟩; have U4 := Aside0.mk (U3.out.trans u4); have hua := (HX.out w4 (U4.out.foot HF.out)).1; have hub := (HX.out w4 (U4.out.foot HF.out)).2; clear u4)
                        | (go_at_call 99; refine (HO4.out _ U4.out.row).mono ?_; rintro e w5 ⟨rfl, hb5⟩; have U5 := Aside0.mk (U4.out.later (Nat.le_trans hbase U4.out.below.size) hb5); clear hb5))
                      go_roundg j
                      case measure => omega
                      case rel => exact ⟨j, _, T3, Nat.le_refl _, by omega, by first | rfl | go_num, HW, U5⟩
                    | false =>
                      rw [if_neg (by simp)] at hw
                      obtain rfl := Option.some.inj hw
                      clear hw hg
                      go_wp2_with (first
                        | (go_at_call 98; refine (HT1.out _ HS.out.row hbr).mono ?_; rintro e w1 ⟨rfl, u1⟩; have U1 := Aside0.mk (HS.out.trans u1); have hya := (HX.out w1 (U1.out.foot HF.out)).1; have hyb := (HX.out w1 (U1.out.foot HF.out)).2; clear u1 HT1)
                        | (go_at_call 99; refine (HO1.out _ U1.out.row).mono ?_; rintro e w2 ⟨rfl, hb2⟩; have U2 := Aside0.mk (U1.out.later (Nat.le_trans hbase U1.out.below.size) hb2); clear hb2 HO1)
                        | (go_at_call 62; refine (HZ.out _ U2.out).mono ?_; rintro e w3 ⟨rfl, u3⟩; have U3 := Aside0.mk (U2.out.trans u3); have hza := (HX.out w3 (U3.out.foot HF.out)).1; have hzb := (HX.out w3 (U3.out.foot HF.out)).2; clear u3)
                        | (go_at_call 98; refine (HT4.out _ U3.out.row (Nat.le_trans hbase U3.out.below.size)).mono ?_; rintro e w4 ⟨rfl, u4⟩; have U4 := Aside0.mk (U3.out.trans u4); have hua := (HX.out w4 (U4.out.foot HF.out)).1; have hub := (HX.out w4 (U4.out.foot HF.out)).2; clear u4)
                        | (go_at_call 99; refine (HO4.out _ U4.out.row).mono ?_; rintro e w5 ⟨rfl, hb5⟩; have U5 := Aside0.mk (U4.out.later (Nat.le_trans hbase U4.out.below.size) hb5); clear hb5))
                      go_ret
                      exact ⟨rfl, U5.out⟩
                | false =>
                  rw [if_neg (by simp)] at hy
                  obtain rfl := Option.some.inj hy
                  rw [if_neg (by simp)] at hw
                  clear hy HIH
                  replace hw := Option.bind_eq_some_iff.mp hw
                  obtain ⟨T3, hT3, hw⟩ := hw
                  replace hw := Option.bind_eq_some_iff.mp hw
                  obtain ⟨o2, ho2, hw⟩ := hw
                  have HT4 := Aside0.mk (HT3.out T3 hT3)
                  have HO4 := Aside0.mk (HO3.out T3 o2 ho2)
                  clear hT3 ho2 HT3 HO3
                  cases o2 with
                  | true =>
                    rw [if_pos rfl] at hw
                    have HW := Aside0.mk hw
                    clear hw
                    go_wp2_with (first
                      | (go_at_call 98; refine (HT1.out _ HS.out.row hbr).mono ?_; rintro e w1 ⟨rfl, u1⟩; have U1 := Aside0.mk (HS.out.trans u1); have hya := (HX.out w1 (U1.out.foot HF.out)).1; have hyb := (HX.out w1 (U1.out.foot HF.out)).2; clear u1 HT1)
                      | (go_at_call 99; refine (HO1.out _ U1.out.row).mono ?_; rintro e w2 ⟨rfl, hb2⟩; have U2 := Aside0.mk (U1.out.later (Nat.le_trans hbase U1.out.below.size) hb2); have hza := (HX.out w2 (U2.out.foot HF.out)).1; have hzb := (HX.out w2 (U2.out.foot HF.out)).2; clear hb2 HO1)
                      | (go_at_call 98; refine (HT4.out _ U2.out.row (Nat.le_trans hbase U2.out.below.size)).mono ?_; rintro e w4 ⟨rfl, u4⟩; have U4 := Aside0.mk (U2.out.trans u4); have hua := (HX.out w4 (U4.out.foot HF.out)).1; have hub := (HX.out w4 (U4.out.foot HF.out)).2; clear u4)
                      | (go_at_call 99; refine (HO4.out _ U4.out.row).mono ?_; rintro e w5 ⟨rfl, hb5⟩; have U5 := Aside0.mk (U4.out.later (Nat.le_trans hbase U4.out.below.size) hb5); clear hb5))
                    go_roundg j
                    case measure => omega
                    case rel => exact ⟨j, _, T3, Nat.le_refl _, by omega, by first | rfl | go_num, HW, U5⟩
                  | false =>
                    rw [if_neg (by simp)] at hw
                    obtain rfl := Option.some.inj hw
                    clear hw hg
                    go_wp2_with (first
                      | (go_at_call 98; refine (HT1.out _ HS.out.row hbr).mono ?_; rintro e w1 ⟨rfl, u1⟩; have U1 := Aside0.mk (HS.out.trans u1); have hya := (HX.out w1 (U1.out.foot HF.out)).1; have hyb := (HX.out w1 (U1.out.foot HF.out)).2; clear u1 HT1)
                      | (go_at_call 99; refine (HO1.out _ U1.out.row).mono ?_; rintro e w2 ⟨rfl, hb2⟩; have U2 := Aside0.mk (U1.out.later (Nat.le_trans hbase U1.out.below.size) hb2); have hza := (HX.out w2 (U2.out.foot HF.out)).1; have hzb := (HX.out w2 (U2.out.foot HF.out)).2; clear hb2 HO1)
                      | (go_at_call 98; refine (HT4.out _ U2.out.row (Nat.le_trans hbase U2.out.below.size)).mono ?_; rintro e w4 ⟨rfl, u4⟩; have U4 := Aside0.mk (U2.out.trans u4); have hua := (HX.out w4 (U4.out.foot HF.out)).1; have hub := (HX.out w4 (U4.out.foot HF.out)).2; clear u4)
                      | (go_at_call 99; refine (HO4.out _ U4.out.row).mono ?_; rintro e w5 ⟨rfl, hb5⟩; have U5 := Aside0.mk (U4.out.later (Nat.le_trans hbase U4.out.below.size) hb5); clear hb5))
                    go_ret
                    exact ⟨rfl, U5.out⟩
              · rw [if_neg c2] at hw; cases hw
            · rw [if_neg c1] at hw
              obtain rfl := Option.some.inj hw
              have pf2 : (i < (ps.length : Int)) = False := eq_false c1
              clear hw c1 hg HIH
              go_wp2
              go_ret
              exact ⟨rfl, HS.out⟩

/-! ### spec_FirstNeither: function 20 (a text of this session's own) -/
def spec_FirstNeither.f (k : Nat) (a0 : Int) (a1 : Int) (a2 : Int) : Option (Int × (List (S89)) × Bool) := (spec_l1In.f a0 0 8).bind fun t => if t = true then ((spec_trKinds.f a1 a2).bind fun u => if u = true then ((spec_paTable.f k a0 []).bind fun T => (spec_trPairs.f k a0).bind fun ps => (spec_trFirst.f k T ps 0 a1 a2).bind fun z => if z.1 = true then ((spec_paOf.f k z.2).bind fun p => some (p.1, p.2, true)) else some (0, [], false)) else some (0, [], false)) else some (0, [], false)
theorem spec_FirstNeither.mono : ∀ a0 a1 a2 k, LeO (spec_FirstNeither.f k a0 a1 a2) (spec_FirstNeither.f (k + 1) a0 a1 a2) := by
  intro a0 a1 a2 k
  unfold spec_FirstNeither.f
  refine LeO.bind (LeO.refl _) (fun _ => LeO.ite (LeO.bind (LeO.refl _) (fun _ => LeO.ite (LeO.bind (spec_paTable.mono _ _ _) (fun _ => LeO.bind (spec_trPairs.mono _ _) (fun _ => LeO.bind (spec_trFirst.mono_w k _ _ _ _ _ _) (fun _ => LeO.ite (LeO.bind (spec_paOf.mono _ _) (fun _ => LeO.refl _)) (LeO.refl _))))) (LeO.refl _))) (LeO.refl _))
set_option maxHeartbeats 8000000 in
set_option maxRecDepth 100000 in
theorem spec_FirstNeither.calls (k : Nat) (a0 : Int) (a1 : Int) (a2 : Int) (r1 : Int) (r2 : List (S89)) (r3 : Bool) (w : World) (h : spec_FirstNeither.f k a0 a1 a2 = some (r1, r2, r3)) :
    Calls Tryd.prog 20 #[.int .i64 a0, .int .i64 a1, .int .i64 a2] w fun e w' => ∃ v1_ : Value, e = .returned (.tuple #[.agg #[.int .i64 r1, v1_], .bool r3]) ∧ Kd.R k89 89 w' w.heap.size (fun _ => True) v1_ r2 ∧ Below w.heap.size w w' := by
  have hu := Tryd.underlying30
  have HB := Aside0.mk (Below.refl w.heap.size w)
  unfold spec_FirstNeither.f at h
  replace h := Option.bind_eq_some_iff.mp h
  obtain ⟨t, ht, h⟩ := h
  have HT := Aside0.mk ht
  clear ht
  cases t with
  | false =>
    rw [if_neg (by simp)] at h
    simp only [Option.some.injEq, Prod.mk.injEq] at h
    obtain ⟨rfl, rfl, rfl⟩ := h
    go_enter Tryd.func20, Tryd.ntmps20
    go_wp2_with (first | ((with_reducible refine gate_dst (N := 6) rfl ?_); refine box_event ?hg (N := 6) ?hd (cs := #[.int .i64 0, .slice none 0 0]) (t := 30) ?hr ?_; (case hd => rfl); (case hg => rfl); (case hr => first | (go_simp; done) | (go_simp; rfl)); intro gb hg wb hbox hb; have n0_ := hS HB hb; have n1_ := Aside0.mk hbox; have n2_ := gS HB hg; clear HB; have HB := n0_; have BK := n1_; have GW := n2_; clear n0_ n1_ n2_; clear hb hbox hg) | (go_at_call 51; refine (spec_l1In.calls a0 0 8 false _ HT.out).mono ?_; rintro e w1 ⟨rfl, ⟨m, rfl⟩⟩; generalize hq_ : World.drewN wb _ = wc; have n1_ : Aside0 (wc.heap[gb]? = some (.cells #[.int .i64 0, .slice none 0 0] 30 (0, 0))) := ⟨by rw [← hq_]; exact bK⟩; have n2_ : Aside0 (Below w.heap.size w wc) := ⟨by rw [← hq_]; exact hB⟩; clear BK HB hq_; have BK := n1_; have HB := n2_; clear n1_ n2_; have hcz0 : wc.cell? ⟨gb, 0, none⟩ = some (.int .i64 0) := (blk_cell BK.out 0).trans rfl; have hcz1 : wc.cell? ⟨gb, 1, none⟩ = some (.slice none 0 0) := (blk_cell BK.out 1).trans rfl; have hfz0 := blk_frozen BK.out 0; have hfz1 := blk_frozen BK.out 1))
    refine bodyPost_ret (results_ct rfl _ _ gb 30 #[.int .i64 0, .slice none 0 0] (0, 0) _ rfl (by (with_reducible repeat (first | refine blk_drewN ?_ _ | refine blk_drew ?_ | refine blk_alloc ?_ _)); refine blk_put (cs := #[.int .i64 0, .slice none 0 0]) ?_ 1 _ rfl; (with_reducible repeat (first | refine blk_drewN ?_ _ | refine blk_drew ?_ | refine blk_alloc ?_ _)); refine blk_put (cs := #[.int .i64 0, .slice none 0 0]) ?_ 0 _ rfl; (with_reducible repeat (first | refine blk_drewN ?_ _ | refine blk_drew ?_ | refine blk_alloc ?_ _)); exact BK.out) hu rfl (by kernel_rfl)) rfl ?_
    exact ⟨_, by first | rfl | (simp [*] <;> rfl), Kd.R_nil _ _ _ _ _, hB⟩
  | true =>
    rw [if_pos rfl] at h
    replace h := Option.bind_eq_some_iff.mp h
    obtain ⟨u, hu2, h⟩ := h
    have HU := Aside0.mk hu2
    clear hu2
    cases u with
    | false =>
      rw [if_neg (by simp)] at h
      simp only [Option.some.injEq, Prod.mk.injEq] at h
      obtain ⟨rfl, rfl, rfl⟩ := h
      go_enter Tryd.func20, Tryd.ntmps20
      go_wp2_with (first | ((with_reducible refine gate_dst (N := 6) rfl ?_); refine box_event ?hg (N := 6) ?hd (cs := #[.int .i64 0, .slice none 0 0]) (t := 30) ?hr ?_; (case hd => rfl); (case hg => rfl); (case hr => first | (go_simp; done) | (go_simp; rfl)); intro gb hg wb hbox hb; have n0_ := hS HB hb; have n1_ := Aside0.mk hbox; have n2_ := gS HB hg; clear HB; have HB := n0_; have BK := n1_; have GW := n2_; clear n0_ n1_ n2_; clear hb hbox hg) | (go_at_call 51; refine (spec_l1In.calls a0 0 8 true _ HT.out).mono ?_; rintro e w1 ⟨rfl, ⟨m, rfl⟩⟩; generalize hq_ : World.drewN wb _ = wc; have n1_ : Aside0 (wc.heap[gb]? = some (.cells #[.int .i64 0, .slice none 0 0] 30 (0, 0))) := ⟨by rw [← hq_]; exact bK⟩; have n2_ : Aside0 (Below w.heap.size w wc) := ⟨by rw [← hq_]; exact hB⟩; clear BK HB hq_; have BK := n1_; have HB := n2_; clear n1_ n2_) | (go_at_call 44; refine (spec_trKinds.calls a1 a2 false _ HU.out).mono ?_; rintro e w2 ⟨rfl, ⟨m, rfl⟩⟩; generalize hq_ : World.drewN wc _ = wd; have n1_ : Aside0 (wd.heap[gb]? = some (.cells #[.int .i64 0, .slice none 0 0] 30 (0, 0))) := ⟨by rw [← hq_]; exact bK⟩; have n2_ : Aside0 (Below w.heap.size w wd) := ⟨by rw [← hq_]; exact hB⟩; clear BK HB hq_; have BK := n1_; have HB := n2_; clear n1_ n2_; have hcz0 : wd.cell? ⟨gb, 0, none⟩ = some (.int .i64 0) := (blk_cell BK.out 0).trans rfl; have hcz1 : wd.cell? ⟨gb, 1, none⟩ = some (.slice none 0 0) := (blk_cell BK.out 1).trans rfl; have hfz0 := blk_frozen BK.out 0; have hfz1 := blk_frozen BK.out 1))
      refine bodyPost_ret (results_ct rfl _ _ gb 30 #[.int .i64 0, .slice none 0 0] (0, 0) _ rfl (by (with_reducible repeat (first | refine blk_drewN ?_ _ | refine blk_drew ?_ | refine blk_alloc ?_ _)); refine blk_put (cs := #[.int .i64 0, .slice none 0 0]) ?_ 1 _ rfl; (with_reducible repeat (first | refine blk_drewN ?_ _ | refine blk_drew ?_ | refine blk_alloc ?_ _)); refine blk_put (cs := #[.int .i64 0, .slice none 0 0]) ?_ 0 _ rfl; (with_reducible repeat (first | refine blk_drewN ?_ _ | refine blk_drew ?_ | refine blk_alloc ?_ _)); exact BK.out) hu rfl (by kernel_rfl)) rfl ?_
      exact ⟨_, by first | rfl | (simp [*] <;> rfl), Kd.R_nil _ _ _ _ _, hB⟩
    | true =>
      rw [if_pos rfl] at h
      replace h := Option.bind_eq_some_iff.mp h
      obtain ⟨T, hT, h⟩ := h
      replace h := Option.bind_eq_some_iff.mp h
      obtain ⟨ps, hps, h⟩ := h
      replace h := Option.bind_eq_some_iff.mp h
      obtain ⟨⟨z1, z2⟩, hz, h⟩ := h
      have A1 := Aside0.mk hT
      have A2 := Aside0.mk hps
      have A3 := Aside0.mk hz
      clear hT hps hz
      cases z1 with
      | false =>
        rw [if_neg (by simp)] at h
        simp only [Option.some.injEq, Prod.mk.injEq] at h
        obtain ⟨rfl, rfl, rfl⟩ := h
        go_enter Tryd.func20, Tryd.ntmps20
        go_wp2_with (first | ((with_reducible refine gate_dst (N := 6) rfl ?_); refine box_event ?hg (N := 6) ?hd (cs := #[.int .i64 0, .slice none 0 0]) (t := 30) ?hr ?_; (case hd => rfl); (case hg => rfl); (case hr => first | (go_simp; done) | (go_simp; rfl)); intro gb hg wb hbox hb; have n0_ := hS HB hb; have n1_ := Aside0.mk hbox; have n2_ := gS HB hg; clear HB; have HB := n0_; have BK := n1_; have GW := n2_; clear n0_ n1_ n2_; clear hb hbox hg) | (go_at_call 51; refine (spec_l1In.calls a0 0 8 true _ HT.out).mono ?_; rintro e w1 ⟨rfl, ⟨m, rfl⟩⟩; generalize hq_ : World.drewN wb _ = wc; have n1_ : Aside0 (wc.heap[gb]? = some (.cells #[.int .i64 0, .slice none 0 0] 30 (0, 0))) := ⟨by rw [← hq_]; exact bK⟩; have n2_ : Aside0 (Below w.heap.size w wc) := ⟨by rw [← hq_]; exact hB⟩; clear BK HB hq_; have BK := n1_; have HB := n2_; clear n1_ n2_) | (go_at_call 44; refine (spec_trKinds.calls a1 a2 true _ HU.out).mono ?_; rintro e w2 ⟨rfl, ⟨m, rfl⟩⟩; generalize hq_ : World.drewN wc _ = wd; have n1_ : Aside0 (wd.heap[gb]? = some (.cells #[.int .i64 0, .slice none 0 0] 30 (0, 0))) := ⟨by rw [← hq_]; exact bK⟩; have n2_ : Aside0 (Below w.heap.size w wd) := ⟨by rw [← hq_]; exact hB⟩; clear BK HB hq_; have BK := n1_; have HB := n2_; clear n1_ n2_) | (go_at_call 53; refine (spec_paTable.calls k a0 none 0 [] T _ (Kd.C_nil _ _) (Nat.le_refl _) A1.out).mono ?_; rintro e w3 ⟨v3, rfl, ho, hb⟩; have S3 := Aside0.mk (Kd.S_lower ho (below_size hB)); have n1_ := bS BK hb; have n2_ := hS HB hb; clear BK HB; have BK := n1_; have HB := n2_; clear n1_ n2_ ho hb; obtain ⟨A4, c4, rfl⟩ := Kd.S_slice S3.out) | (go_at_call 58; refine (spec_trPairs.calls k a0 ps _ A2.out).mono ?_; rintro e w5 ⟨v5, rfl, ho, hb⟩; have R5 := Aside0.mk ho; have B5 := Aside0.mk hb; have n1_ := bS BK hb; have n2_ := hS HB hb; clear BK HB; have BK := n1_; have HB := n2_; clear n1_ n2_ ho hb; obtain ⟨A6, c6, rfl⟩ := Kd.R_slice R5.out) | (go_at_call 62; refine (spec_trFirst.calls k A4 T.length c4 T A6 c6 ps 0 a1 a2 (false, z2) _ w.heap.size (fun k_ => k_ < w3.heap.size ∧ k_ ≠ gb) (Kd.S_mono (Kd.S_types (Kd.S_below (Kd.S_bound S3.out) B5.out) BK.out (by decide)) (fun _ hk => ⟨hk.1.2.2.1, hk.2⟩)) (Kd.R_F (Kd.R_mono (Kd.R_bound R5.out) (fun k_ hk hh => by have := hk.2.1; have := hh.1; omega))) (Kd.R_reads' R5.out).2.1 (fun k_ hk => Nat.lt_of_lt_of_le hk.1 B5.out.size) (below_size hB) A3.out).mono ?_; rintro e w7 ⟨rfl, u7⟩; have n1_ : Aside0 (w7.heap[gb]? = some (.cells #[.int .i64 0, .slice none 0 0] 30 (0, 0))) := ⟨(u7.keep gb (fun h => h.2 rfl) (blk_lt BK.out)).trans BK.out⟩; have n2_ : Aside0 (Below w.heap.size w w7) := ⟨HB.out.trans u7.below⟩; have S7 := Aside0.mk u7.row; clear BK HB u7; have BK := n1_; have HB := n2_; clear n1_ n2_; have hcz0 : w7.cell? ⟨gb, 0, none⟩ = some (.int .i64 0) := (blk_cell BK.out 0).trans rfl; have hcz1 : w7.cell? ⟨gb, 1, none⟩ = some (.slice none 0 0) := (blk_cell BK.out 1).trans rfl; have hfz0 := blk_frozen BK.out 0; have hfz1 := blk_frozen BK.out 1))
        refine bodyPost_ret (results_ct rfl _ _ gb 30 #[.int .i64 0, .slice none 0 0] (0, 0) _ rfl (by (with_reducible repeat (first | refine blk_drewN ?_ _ | refine blk_drew ?_ | refine blk_alloc ?_ _)); refine blk_put (cs := #[.int .i64 0, .slice none 0 0]) ?_ 1 _ rfl; (with_reducible repeat (first | refine blk_drewN ?_ _ | refine blk_drew ?_ | refine blk_alloc ?_ _)); refine blk_put (cs := #[.int .i64 0, .slice none 0 0]) ?_ 0 _ rfl; (with_reducible repeat (first | refine blk_drewN ?_ _ | refine blk_drew ?_ | refine blk_alloc ?_ _)); exact BK.out) hu rfl (by kernel_rfl)) rfl ?_
        exact ⟨_, by first | rfl | (simp [*] <;> rfl), Kd.R_nil _ _ _ _ _, hB⟩
      | true =>
        rw [if_pos rfl] at h
        replace h := Option.bind_eq_some_iff.mp h
        obtain ⟨⟨p1, p2⟩, hp, h⟩ := h
        simp only [Option.some.injEq, Prod.mk.injEq] at h
        obtain ⟨rfl, rfl, rfl⟩ := h
        have HP := Aside0.mk (fun (w' : World) (base : Nat) (ok : Nat → Prop) (A : Option Addr) (n cap : Nat) (hS : Kd.S (Kd.slice 4 Kd.bool) 122 w' base ok (.slice A n cap) z2) => show Calls Tryd.prog 63 #[.slice A n cap] w' (fun e w'' => ∃ v : Value, e = .returned (.agg #[.int .i64 p1, v]) ∧ Kd.R k89 89 w'' w'.heap.size (fun _ => True) v p2 ∧ Below w'.heap.size w' w'') from by
          obtain ⟨h1, h2, h3⟩ := Kd.S_reads' hS
          have := spec_paOf.calls k A cap z2 p1 p2 w' h3 (by omega) hp
          rw [← h1] at this
          exact this)
        clear hp
        go_enter Tryd.func20, Tryd.ntmps20
        go_wp2_with (first | ((with_reducible refine gate_dst (N := 6) rfl ?_); refine box_event ?hg (N := 6) ?hd (cs := #[.int .i64 0, .slice none 0 0]) (t := 30) ?hr ?_; (case hd => rfl); (case hg => rfl); (case hr => first | (go_simp; done) | (go_simp; rfl)); intro gb hg wb hbox hb; have n0_ := hS HB hb; have n1_ := Aside0.mk hbox; have n2_ := gS HB hg; clear HB; have HB := n0_; have BK := n1_; have GW := n2_; clear n0_ n1_ n2_; clear hb hbox hg) | (go_at_call 51; refine (spec_l1In.calls a0 0 8 true _ HT.out).mono ?_; rintro e w1 ⟨rfl, ⟨m, rfl⟩⟩; generalize hq_ : World.drewN wb _ = wc; have n1_ : Aside0 (wc.heap[gb]? = some (.cells #[.int .i64 0, .slice none 0 0] 30 (0, 0))) := ⟨by rw [← hq_]; exact bK⟩; have n2_ : Aside0 (Below w.heap.size w wc) := ⟨by rw [← hq_]; exact hB⟩; clear BK HB hq_; have BK := n1_; have HB := n2_; clear n1_ n2_) | (go_at_call 44; refine (spec_trKinds.calls a1 a2 true _ HU.out).mono ?_; rintro e w2 ⟨rfl, ⟨m, rfl⟩⟩; generalize hq_ : World.drewN wc _ = wd; have n1_ : Aside0 (wd.heap[gb]? = some (.cells #[.int .i64 0, .slice none 0 0] 30 (0, 0))) := ⟨by rw [← hq_]; exact bK⟩; have n2_ : Aside0 (Below w.heap.size w wd) := ⟨by rw [← hq_]; exact hB⟩; clear BK HB hq_; have BK := n1_; have HB := n2_; clear n1_ n2_) | (go_at_call 53; refine (spec_paTable.calls k a0 none 0 [] T _ (Kd.C_nil _ _) (Nat.le_refl _) A1.out).mono ?_; rintro e w3 ⟨v3, rfl, ho, hb⟩; have S3 := Aside0.mk (Kd.S_lower ho (below_size hB)); have n1_ := bS BK hb; have n2_ := hS HB hb; clear BK HB; have BK := n1_; have HB := n2_; clear n1_ n2_ ho hb; obtain ⟨A4, c4, rfl⟩ := Kd.S_slice S3.out) | (go_at_call 58; refine (spec_trPairs.calls k a0 ps _ A2.out).mono ?_; rintro e w5 ⟨v5, rfl, ho, hb⟩; have R5 := Aside0.mk ho; have B5 := Aside0.mk hb; have n1_ := bS BK hb; have n2_ := hS HB hb; clear BK HB; have BK := n1_; have HB := n2_; clear n1_ n2_ ho hb; obtain ⟨A6, c6, rfl⟩ := Kd.R_slice R5.out) | (go_at_call 62; refine (spec_trFirst.calls k A4 T.length c4 T A6 c6 ps 0 a1 a2 (true, z2) _ w.heap.size (fun k_ => k_ < w3.heap.size ∧ k_ ≠ gb) (Kd.S_mono (Kd.S_types (Kd.S_below (Kd.S_bound S3.out) B5.out) BK.out (by decide)) (fun _ hk => ⟨hk.1.2.2.1, hk.2⟩)) (Kd.R_F (Kd.R_mono (Kd.R_bound R5.out) (fun k_ hk hh => by have := hk.2.1; have := hh.1; omega))) (Kd.R_reads' R5.out).2.1 (fun k_ hk => Nat.lt_of_lt_of_le hk.1 B5.out.size) (below_size hB) A3.out).mono ?_; rintro e w7 ⟨rfl, u7⟩; have n1_ : Aside0 (w7.heap[gb]? = some (.cells #[.int .i64 0, .slice none 0 0] 30 (0, 0))) := ⟨(u7.keep gb (fun h => h.2 rfl) (blk_lt BK.out)).trans BK.out⟩; have n2_ : Aside0 (Below w.heap.size w w7) := ⟨HB.out.trans u7.below⟩; have S7 := Aside0.mk u7.row; clear BK HB u7; have BK := n1_; have HB := n2_; clear n1_ n2_) | (go_at_call 63; refine (HP.out _ _ _ _ _ _ S7.out).mono ?_; rintro e w9 ⟨v9, rfl, ho, hb⟩; have R9 := Aside0.mk (Kd.R_lower ho (below_size hB)); have n1_ := bS BK hb; have n2_ := hS HB hb; clear BK HB; have BK := n1_; have HB := n2_; clear n1_ n2_ ho hb; have hcz0 : w9.cell? ⟨gb, 0, none⟩ = some (.int .i64 0) := (blk_cell BK.out 0).trans rfl; have hcz1 : w9.cell? ⟨gb, 1, none⟩ = some (.slice none 0 0) := (blk_cell BK.out 1).trans rfl; have hfz0 := blk_frozen BK.out 0; have hfz1 := blk_frozen BK.out 1; obtain ⟨A10, c10, rfl⟩ := Kd.R_slice R9.out))
        refine bodyPost_ret (results_ct rfl _ _ gb 30 #[.int .i64 p1, .slice A10 p2.length c10] (0, 0) _ rfl (by (with_reducible repeat (first | refine blk_drewN ?_ _ | refine blk_drew ?_ | refine blk_alloc ?_ _)); refine blk_put (cs := #[.int .i64 p1, .slice none 0 0]) ?_ 1 _ rfl; (with_reducible repeat (first | refine blk_drewN ?_ _ | refine blk_drew ?_ | refine blk_alloc ?_ _)); refine blk_put (cs := #[.int .i64 0, .slice none 0 0]) ?_ 0 _ rfl; (with_reducible repeat (first | refine blk_drewN ?_ _ | refine blk_drew ?_ | refine blk_alloc ?_ _)); exact BK.out) hu rfl (by kernel_rfl)) rfl ?_
        exact ⟨_, by first | rfl | (simp [*] <;> rfl), Kd.R_mono (Kd.R_far (p := ⟨gb, 1, none⟩) (Kd.R_far (p := ⟨gb, 0, none⟩) (Kd.R_types R9.out BK.out (by decide)) (fun _ hk => hk.2) (.int .i64 p1)) (fun _ hk => hk.2) (.slice A10 p2.length c10)) (fun _ hk => trivial), hB⟩

/-! ### impl_within: function 54 -/
def impl_within.f (a0 : Int) (a1 : Int) (a2 : Int) : Option (Bool) := if a1 ≤ a0 then (some (decide (a0 ≤ a2))) else (some false)
set_option maxHeartbeats 8000000 in
set_option maxRecDepth 100000 in
theorem impl_within.calls (a0 : Int) (a1 : Int) (a2 : Int) (r : Bool) (w : World) (h : impl_within.f a0 a1 a2 = some r) :
  Calls Tryd.prog 54 #[.int .i64 a0, .int .i64 a1, .int .i64 a2] w fun e w' => e = .returned (.bool r) ∧ Drawn0 w w' := by
 have H : (if a1 ≤ a0 then (some (decide (a0 ≤ a2))) else (some false)) = some r := h
 clear h
 by_cases c4 : a1 ≤ a0
 ·rw [if_pos c4] at H
  have c4b0 : decide (a1 ≤ a0) = true := decide_eq_true c4
  clear c4
  obtain rfl := Option.some.inj H
  go_enter Tryd.func54, Tryd.ntmps54
  go_wp2
  go_ret
  exact ⟨by first | rfl | (simp; done) | (simp [*]; done), by repeat (first | exact Drawn0.refl _ | apply Drawn0.step)⟩
 ·rw [if_neg c4] at H
  have c4b0 : decide (a1 ≤ a0) = false := decide_eq_false c4
  clear c4
  obtain rfl := Option.some.inj H
  go_enter Tryd.func54, Tryd.ntmps54
  go_wp2
  go_ret
  exact ⟨by first | rfl | (simp; done) | (simp [*]; done), by repeat (first | exact Drawn0.refl _ | apply Drawn0.step)⟩
theorem impl_within.ok (n lo hi : Int) : impl_within.f n lo hi = some (decide (lo ≤ n ∧ n ≤ hi)) := by
  unfold impl_within.f
  by_cases h : lo ≤ n <;> simp [h]

/-! ### impl_areSides: function 48 -/
def impl_areSides.f (a0 : Int) (a1 : Int) : Option (Bool) := (impl_within.f a0 1 4).bind fun t221 => (if t221 = true then ((impl_within.f a1 1 4).bind fun t222 => (some t222)) else (some false))
set_option maxHeartbeats 8000000 in
set_option maxRecDepth 100000 in
theorem impl_areSides.calls (a0 : Int) (a1 : Int) (r : Bool) (w : World) (h : impl_areSides.f a0 a1 = some r) :
  Calls Tryd.prog 48 #[.int .i64 a0, .int .i64 a1] w fun e w' => e = .returned (.bool r) ∧ Drawn0 w w' := by
 have H : ((impl_within.f a0 1 4).bind fun t221 => (if t221 = true then ((impl_within.f a1 1 4).bind fun t222 => (some t222)) else (some false))) = some r := h
 clear h
 replace H := Option.bind_eq_some_iff.mp H
 obtain ⟨t221, A30, H⟩ := H
 replace H : (if t221 = true then ((impl_within.f a1 1 4).bind fun t222 => (some t222)) else (some false)) = some r := H
 have A3 := Aside0.mk A30
 clear A30
 by_cases c4 : t221 = true
 ·subst c4
  have H1 : ((impl_within.f a1 1 4).bind fun t222 => (some t222)) = some r := by rw [if_pos rfl] at H; exact H
  clear H
  have H := H1
  clear H1
  replace H := Option.bind_eq_some_iff.mp H
  obtain ⟨t222, A50, H⟩ := H
  replace H : (some t222) = some r := H
  have A5 := Aside0.mk A50
  clear A50
  obtain rfl := Option.some.inj H
  go_enter Tryd.func48, Tryd.ntmps48
  go_wp2_with (first | ((with_reducible refine gate_callee (f := 54) rfl ?_); refine goesL_ (some 6) rfl rfl Tryd.func54 (by kernel_rfl) rfl #[.int .i64 a0, .int .i64 1, .int .i64 4] rfl mapT ?_; (with_reducible refine (impl_within.calls a0 1 4 true _ A3.out).mono ?_); rintro e w' ⟨rfl, ⟨nd, rfl⟩⟩; refine ⟨_, rfl, ?_⟩) | (go_at_call 54; (with_reducible refine (impl_within.calls a1 1 4 t222 _ A5.out).mono ?_); rintro e w' ⟨rfl, ⟨nd, rfl⟩⟩))
  go_ret
  exact ⟨by first | rfl | (simp; done) | (simp [*]; done), by repeat (first | exact Drawn0.refl _ | apply Drawn0.step)⟩
 ·replace c4 := Bool.eq_false_iff.mpr c4
  subst c4
  have H1 : (some false) = some r := by rw [if_neg (show ¬ (false = true) by decide)] at H; exact H
  clear H
  have H := H1
  clear H1
  obtain rfl := Option.some.inj H
  go_enter Tryd.func48, Tryd.ntmps48
  go_wp2_with (first | ((with_reducible refine gate_callee (f := 54) rfl ?_); refine goesL_ (some 6) rfl rfl Tryd.func54 (by kernel_rfl) rfl #[.int .i64 a0, .int .i64 1, .int .i64 4] rfl mapT ?_; (with_reducible refine (impl_within.calls a0 1 4 false _ A3.out).mono ?_); rintro e w' ⟨rfl, ⟨nd, rfl⟩⟩; refine ⟨_, rfl, ?_⟩))
  go_ret
  exact ⟨by first | rfl | (simp; done) | (simp [*]; done), by repeat (first | exact Drawn0.refl _ | apply Drawn0.step)⟩

/-! ### bits_OnesCount16: function 96 (a text of this session's own) -/
def bits_OnesCount16.f (a0 : Int) : Option Int := if 0 ≤ a0 ∧ a0 < 65536 then some ((popN 16 a0.toNat : Nat) : Int) else none
set_option maxRecDepth 100000 in
set_option maxHeartbeats 1000000 in
theorem bits_OnesCount16.calls (a0 : Int) (r : Int) (w : World) (h : bits_OnesCount16.f a0 = some r) :
    Calls Tryd.prog 96 #[.int .u16 a0] w fun e w' => e = .returned (.int .i64 r) ∧ Drawn0 w w' := by
  unfold bits_OnesCount16.f at h
  by_cases hx : 0 ≤ a0 ∧ a0 < 65536
  · rw [if_pos hx] at h
    obtain rfl := Option.some.inj h
    clear h
    obtain ⟨x, rfl⟩ := Int.eq_ofNat_of_zero_le hx.1
    have hd : (x : Int) / 256 = ((x / 256 : Nat) : Int) := by omega
    have ha : Go.bits .and .u16 (x : Int) 255 = ((x % 256 : Nat) : Int) := by
      have := u16_and_nat x 255 (by omega) (by omega)
      rw [show ((255 : Nat) : Int) = 255 from rfl] at this
      rw [this, show (255 : Nat) = 2 ^ 8 - 1 from rfl, Nat.and_two_pow_sub_one_eq_mod]
    have h1 : (0 : Int) ≤ ((x / 256 : Nat) : Int) := by omega
    have h2 : ((x / 256 : Nat) : Int) < 256 := by omega
    have h3 : (0 : Int) ≤ ((x % 256 : Nat) : Int) := by omega
    have h4 : ((x % 256 : Nat) : Int) < 256 := by omega
    have HE : Aside0 ((Go.Lib.pop8 ((x / 256 : Nat) : Int) + Go.Lib.pop8 ((x % 256 : Nat) : Int)) % 256 = ((popN 16 (x : Int).toNat : Nat) : Int)) := ⟨by
      rw [Int.toNat_natCast]
      rw [popN_byte _ (by omega), popN_byte _ (by omega), popN_split]
      have := popN_le 8 (x / 256)
      have := popN_le 8 (x % 256)
      omega⟩
    clear hx
    generalize ((x / 256 : Nat) : Int) = hi at *
    generalize ((x % 256 : Nat) : Int) = lo at *
    have hs := Go.Lib.pop8tab_size
    have hp : ∀ (i : Int) (h : i.toNat < Go.Lib.pop8tab.size), ((Go.Lib.pop8tab[i.toNat]'h).toNat : Int) = Go.Lib.pop8 i := fun i h => by simp [Go.Lib.pop8, h]
    have hp1 := hp hi
    have hp2 := hp lo
    clear hp
    have b1 : hi < (Go.Lib.pop8tab.size : Int) := by rw [hs]; exact h2
    have b2 : lo < (Go.Lib.pop8tab.size : Int) := by rw [hs]; exact h4
    clear hs
    go_enter Tryd.func96, Tryd.ntmps96
    go_wp2
    go_quiet (fail)
    go_wp2
    go_ret
    exact ⟨by rw [← HE.out]; rfl, by repeat (first | exact Drawn0.refl _ | apply Drawn0.step)⟩
  · rw [if_neg hx] at h; cases h

/-! ### bits_TrailingZeros16: function 97 (a text of this session's own) -/
def bits_TrailingZeros16.f (a0 : Int) : Option Int := if 0 ≤ a0 ∧ a0 < 65536 then some (ctz16 a0) else none
theorem bits_TrailingZeros16.calls (a0 : Int) (r : Int) (w : World) (h : bits_TrailingZeros16.f a0 = some r) (hG : GTab 0 w := by first | exact Aside0.out ‹Aside0 (GTab _ _)› | exact GTab.up (Aside0.out ‹Aside0 (GTab _ _)›) (by repeat (first | (with_reducible first | exact Below.refl _ _ | exact Aside0.out ‹Aside0 (Below _ _ _)› | apply below_alloc | apply pw_below_drewN | apply below_drew1 | refine below_set ?_ (Aside0.out (by assumption))) | exact Aside0.out ‹Aside0 (Below _ _ _)›))) :
    Calls Tryd.prog 97 #[.int .u16 a0] w fun e w' => e = .returned (.int .i64 r) ∧ Drawn0 w w' := by
  unfold bits_TrailingZeros16.f at h
  by_cases hx : 0 ≤ a0 ∧ a0 < 65536
  · rw [if_pos hx] at h
    obtain rfl := Option.some.inj h
    clear h
    obtain ⟨x, rfl⟩ := Int.eq_ofNat_of_zero_le hx.1
    by_cases h0 : x = 0
    · subst h0
      clear hG hx
      go_enter Tryd.func97, Tryd.ntmps97
      go_wp2
      go_ret
      exact ⟨rfl, ⟨0, rfl⟩⟩
    · obtain ⟨idx, key, hi, htab, hk⟩ := tz16_key x (by omega) h0
      have hk1 : ((Go.Lib.ctz 16 x : Nat) : Int) ≤ 15 := by omega
      have hk2 : (0 : Int) ≤ ((Go.Lib.ctz 16 x : Nat) : Int) := by omega
      clear hk
      have hcell := hG idx hi
      rw [htab] at hcell
      have hx0 : ((x : Int) == 0) = false := by simp; omega
      have h1 : (0 : Int) ≤ (idx : Int) := by omega
      have h2 : (idx : Int) < 32 := by omega
      have HC : Aside0 (ctz16 (x : Int) = ((Go.Lib.ctz 16 x : Nat) : Int)) := ⟨by simp [ctz16]⟩
      clear hG htab h0 hx
      go_enter Tryd.func97, Tryd.ntmps97
      go_wp2
      go_ret
      exact ⟨by rw [HC.out]; rfl, ⟨0, rfl⟩⟩
  · rw [if_neg hx] at h; cases h

end Go.Proofs.YtomlbbnoicpfpaaDoor.PFnExactFirstNeither
