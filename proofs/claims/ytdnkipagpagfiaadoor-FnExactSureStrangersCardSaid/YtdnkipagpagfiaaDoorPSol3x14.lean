-- Of this session's own program wip/gen/gen.py (it drives the kit's print): contracts of the functions that the law reaches.
import Derived.Test.YtdnkipagpagfiaaDoorPSol3x0
import Derived.Test.YtdnkipagpagfiaaDoorPSol3x1
import Derived.Test.YtdnkipagpagfiaaDoorPSol3x4
import Derived.Test.YtdnkipagpagfiaaDoorPSol3x9
namespace Go.Proofs.YtdnkipagpagfiaaDoor.PSol3
open Go.RowKit Go.Proofs.YtdnkipagpagfiaaDoorW.PrintWords Go.Proofs.YtdnkipagpagfiaaDoorW.PrintLast Go.Proofs.YtdnkipagpagfiaaDoorW.PrintMore Go.Proofs.YtdnkipagpagfiaaDoor.Base
attribute [local go_sem] max2_int min2_int max_two min_two max_three min_three max_four min_four   -- for this text's walks alone
set_option linter.unusedVariables false
set_option linter.unusedSimpArgs false

attribute [local go_sem high] eqA110
/-! ### spec_pzSure: function 119 -/
mutual
def spec_pzSure.l0 : Nat → Int → List (S34) → Bool → List (S110) → Int → Option ((List (S110)))
 | 0, _, _, _, _, _ => none
 | k + 1, x0, x1, x2, x7, x8 => if x8 < x0 then (spec_pzSure.l1 k x0 x1 x2 x7 x8 (wrap64 (x8 + 1))) else (some x7)
def spec_pzSure.l1 : Nat → Int → List (S34) → Bool → List (S110) → Int → Int → Option ((List (S110)))
 | 0, _, _, _, _, _, _ => none
 | k + 1, x0, x1, x2, x7, x8, x9 => if x9 < x0 then (spec_pzSure.l2 k x0 x1 x2 x7 x8 x9 true x1 (x1.length : Int) 0) else (spec_pzSure.l0 k x0 x1 x2 x7 (wrap64 (x8 + 1)))
def spec_pzSure.l2 : Nat → Int → List (S34) → Bool → List (S110) → Int → Int → Bool → List (S34) → Int → Int → Option ((List (S110)))
 | 0, _, _, _, _, _, _, _, _, _, _ => none
 | k + 1, x0, x1, x2, x7, x8, x9, x10, x25, x26, x27 => if x27 < x26 then (if 0 ≤ x27 then (if x27 < (x25.length : Int) then (if x10 = true then ((spec_paTable.f k ((rd_T34 x25 x27).f0) ((rd_T34 x25 x27).f1)).bind fun t525 => (if 0 ≤ x8 then (if x8 < (t525.length : Int) then (if 0 ≤ x9 then (if x9 < ((rd_L5 t525 x8).length : Int) then (spec_pzSure.l2 k x0 x1 x2 x7 x8 x9 ((rdOf false (rd_L5 t525 x8) x9) == x2) x25 x26 (wrap64 (x27 + 1))) else (none)) else (none)) else (none)) else (none))) else (spec_pzSure.l2 k x0 x1 x2 x7 x8 x9 false x25 x26 (wrap64 (x27 + 1)))) else (none)) else (none)) else (if x10 = true then (if x7.length < 8796093022208 then (spec_pzSure.l1 k x0 x1 x2 (x7 ++ [(⟨x8, x9⟩ : S110)]) x8 (wrap64 (x9 + 1))) else (none)) else (spec_pzSure.l1 k x0 x1 x2 x7 x8 (wrap64 (x9 + 1))))
end
def spec_pzSure.f (k : Nat) (a0 : Int) (l1 : List (S34)) (a2 : Bool) : Option ((List (S110))) := spec_pzSure.l0 k a0 l1 a2 ([] : List (S110)) 0
theorem spec_pzSure.mono_l : ∀ k, (∀ y0 y1 y2 y3 y4, LeO (spec_pzSure.l0 k y0 y1 y2 y3 y4) (spec_pzSure.l0 (k + 1) y0 y1 y2 y3 y4)) ∧ (∀ y0 y1 y2 y3 y4 y5, LeO (spec_pzSure.l1 k y0 y1 y2 y3 y4 y5) (spec_pzSure.l1 (k + 1) y0 y1 y2 y3 y4 y5)) ∧ (∀ y0 y1 y2 y3 y4 y5 y6 y7 y8 y9, LeO (spec_pzSure.l2 k y0 y1 y2 y3 y4 y5 y6 y7 y8 y9) (spec_pzSure.l2 (k + 1) y0 y1 y2 y3 y4 y5 y6 y7 y8 y9))
 | 0 => ⟨fun _ _ _ _ _ r h => by simp [spec_pzSure.l0] at h, fun _ _ _ _ _ _ r h => by simp [spec_pzSure.l1] at h, fun _ _ _ _ _ _ _ _ _ _ r h => by simp [spec_pzSure.l2] at h⟩
 | k + 1 => by
  obtain ⟨ih0, ih1, ih2⟩ := spec_pzSure.mono_l k
  refine ⟨?_, ?_, ?_⟩
  ·intro y0 y1 y2 y3 y4
   unfold spec_pzSure.l0
   repeat' first
   | (with_reducible exact ih0 _ _ _ _ _)
   | (with_reducible exact ih1 _ _ _ _ _ _)
   | (with_reducible exact ih2 _ _ _ _ _ _ _ _ _ _)
   | (with_reducible exact spec_paTable.mono _ _ _)
   | (with_reducible exact LeO.refl _)
   | (with_reducible exact LeO.none _)
   | (with_reducible refine LeO.ite ?_ ?_)
   | (with_reducible refine LeO.bind ?_ (fun _ => ?_))
   | exact ih0 _ _ _ _ _
   | exact ih1 _ _ _ _ _ _
   | exact ih2 _ _ _ _ _ _ _ _ _ _
   | exact spec_paTable.mono _ _ _
   | exact LeO.none _
   | refine LeO.ite ?_ ?_
   | refine LeO.bind ?_ (fun _ => ?_)
  ·intro y0 y1 y2 y3 y4 y5
   unfold spec_pzSure.l1
   repeat' first
   | (with_reducible exact ih0 _ _ _ _ _)
   | (with_reducible exact ih1 _ _ _ _ _ _)
   | (with_reducible exact ih2 _ _ _ _ _ _ _ _ _ _)
   | (with_reducible exact spec_paTable.mono _ _ _)
   | (with_reducible exact LeO.refl _)
   | (with_reducible exact LeO.none _)
   | (with_reducible refine LeO.ite ?_ ?_)
   | (with_reducible refine LeO.bind ?_ (fun _ => ?_))
   | exact ih0 _ _ _ _ _
   | exact ih1 _ _ _ _ _ _
   | exact ih2 _ _ _ _ _ _ _ _ _ _
   | exact spec_paTable.mono _ _ _
   | exact LeO.none _
   | refine LeO.ite ?_ ?_
   | refine LeO.bind ?_ (fun _ => ?_)
  ·intro y0 y1 y2 y3 y4 y5 y6 y7 y8 y9
   unfold spec_pzSure.l2
   repeat' first
   | (with_reducible exact ih0 _ _ _ _ _)
   | (with_reducible exact ih1 _ _ _ _ _ _)
   | (with_reducible exact ih2 _ _ _ _ _ _ _ _ _ _)
   | (with_reducible exact spec_paTable.mono _ _ _)
   | (with_reducible exact LeO.refl _)
   | (with_reducible exact LeO.none _)
   | (with_reducible refine LeO.ite ?_ ?_)
   | (with_reducible refine LeO.bind ?_ (fun _ => ?_))
   | exact ih0 _ _ _ _ _
   | exact ih1 _ _ _ _ _ _
   | exact ih2 _ _ _ _ _ _ _ _ _ _
   | exact spec_paTable.mono _ _ _
   | exact LeO.none _
   | refine LeO.ite ?_ ?_
   | refine LeO.bind ?_ (fun _ => ?_)
theorem spec_pzSure.mono : ∀ a0 a1 a2 k, LeO (spec_pzSure.f k a0 a1 a2) (spec_pzSure.f (k + 1) a0 a1 a2) := by
 intro a0 a1 a2 k
 obtain ⟨ih0, ih1, ih2⟩ := spec_pzSure.mono_l k
 unfold spec_pzSure.f
 repeat' first
   | (with_reducible exact ih0 _ _ _ _ _)
   | (with_reducible exact ih1 _ _ _ _ _ _)
   | (with_reducible exact ih2 _ _ _ _ _ _ _ _ _ _)
   | (with_reducible exact spec_paTable.mono _ _ _)
   | (with_reducible exact LeO.refl _)
   | (with_reducible exact LeO.none _)
   | (with_reducible refine LeO.ite ?_ ?_)
   | (with_reducible refine LeO.bind ?_ (fun _ => ?_))
   | exact ih0 _ _ _ _ _
   | exact ih1 _ _ _ _ _ _
   | exact ih2 _ _ _ _ _ _ _ _ _ _
   | exact spec_paTable.mono _ _ _
   | exact LeO.none _
   | refine LeO.ite ?_ ?_
   | refine LeO.bind ?_ (fun _ => ?_)
set_option maxHeartbeats 8000000 in
set_option maxRecDepth 100000 in
theorem spec_pzSure.calls (k : Nat) (a0 : Int) (A1 : Option Addr) (c1 : Nat) (l1 : List (S34)) (a2 : Bool) (r : List (S110)) (w : World) (hr1 : Kd.C k34 w A1 l1.length l1) (hc1 : l1.length ≤ c1) (h : spec_pzSure.f k a0 l1 a2 = some r) :
  Calls Tryd.prog 119 #[.int .i64 a0, .slice A1 l1.length c1, .bool a2] w fun e w' => ∃ v0_ : Value, e = .returned (v0_) ∧ Kd.R k110 110 w' w.heap.size (fun _ => True) v0_ r ∧ Below w.heap.size w w' := by
 have hu34 := Tryd.underlying34
 have hu110 := Tryd.underlying110
 have HR1 := Aside0.mk hr1
 have HC1 := Aside0.mk hc1
 clear hr1 hc1
 have HB := Aside0.mk (Below.refl w.heap.size w)
 have H : (spec_pzSure.l0 k a0 l1 a2 ([] : List (S110)) 0) = some r := h
 clear h
 have H' := Aside0.mk H
 clear H
 go_enter Tryd.func119, Tryd.ntmps119
 go_wp2
 go_loopg [7, 8] k (fun kq v7 v8 w' => ∃ (x7_1 : List (S110)) (x8_1 : Int), v8 = .int .i64 x8_1 ∧ Aside0 (spec_pzSure.l0 kq a0 l1 a2 x7_1 x8_1 = some r) ∧ Aside0 (kq ≤ k) ∧ Aside0 (Kd.R k110 110 w' w.heap.size (fun _ => True) v7 x7_1) ∧ Aside0 (Below w.heap.size w w'))
 case atStart => exact ⟨(([] : List (S110))), (0), (by first | rfl | (simp; done) | (simp [*]; done)), H', ⟨Nat.le_refl _⟩, ⟨by first | exact Kd.R_nil _ _ _ _ _ | exact Kd.N_nil _ _ _ _ _ | exact Kd.V_nil _ _ _ _ _ | exact Kd.Q_nil _ _ _ _ _ | exact Kd.S_nil _ _ _ _ _⟩, ⟨hB⟩⟩
 case round =>
  clear H'
  try clear c1
  try clear p2
  obtain ⟨x7_1, x8_1, rfl, HA, HK1, HO_7, HB⟩ := hrel
  cases gk with
  | zero => exact absurd HA.out (by simp [spec_pzSure.l0])
  | succ k1 =>
   have H := HA.out
   clear HA
   simp only [spec_pzSure.l0] at H
   by_cases c4 : x8_1 < a0
   ·rw [if_pos c4] at H
    have c4b0 : decide (x8_1 < a0) = true := decide_eq_true c4
    clear c4
    have H' := Aside0.mk H
    clear H
    go_wp2
    go_loopg [7, 9] k1 (fun kq v7 v9 w' => ∃ (x7_2 : List (S110)) (x9_2 : Int), v9 = .int .i64 x9_2 ∧ Aside0 (spec_pzSure.l1 kq a0 l1 a2 x7_2 x8_1 x9_2 = some r) ∧ Aside0 (kq ≤ k1) ∧ Aside0 (Kd.R k110 110 w' w.heap.size (fun _ => True) v7 x7_2) ∧ Aside0 (Below w.heap.size w w'))
    case atStart => exact ⟨(x7_1), (wrap64 (x8_1 + 1)), (by first | rfl | (simp; done) | (simp [*]; done)), H', ⟨Nat.le_refl _⟩, ⟨rU HO_7⟩, ⟨hB⟩⟩
    case round =>
     clear H'
     try clear c1
     try clear p2
     try clear c4
     try clear c4b0
     try clear p2
     obtain ⟨x7_2, x9_2, rfl, HA, HK2, HO_7, HB⟩ := hrel
     cases gk with
     | zero => exact absurd HA.out (by simp [spec_pzSure.l1])
     | succ k2 =>
      have H := HA.out
      clear HA
      simp only [spec_pzSure.l1] at H
      by_cases c5 : x9_2 < a0
      ·rw [if_pos c5] at H
       have c5b0 : decide (x9_2 < a0) = true := decide_eq_true c5
       clear c5
       have H' := Aside0.mk H
       clear H
       go_wp2
       go_loopg [10, 27] k2 (fun kq v10 v27 w' => ∃ (x10_3 : Bool) (x27_3 : Int), v10 = .bool x10_3 ∧ v27 = .int .i64 x27_3 ∧ Aside0 (spec_pzSure.l2 kq a0 l1 a2 x7_2 x8_1 x9_2 x10_3 l1 (l1.length : Int) x27_3 = some r) ∧ Aside0 (kq ≤ k2) ∧ Aside0 (Kd.R k110 110 w' w.heap.size (fun _ => True) u7 x7_2) ∧ Aside0 (Below w.heap.size w w'))
       case atStart => exact ⟨(true), (0), (by first | rfl | (simp; done) | (simp [*]; done)), (by first | rfl | (simp; done) | (simp [*]; done)), H', ⟨Nat.le_refl _⟩, ⟨rU HO_7⟩, ⟨hB⟩⟩
       case round =>
        clear H'
        try clear c1
        try clear p2
        try clear c4
        try clear c4b0
        try clear c5
        try clear c5b0
        try clear p2
        obtain ⟨x10_3, x27_3, rfl, rfl, HA, HK3, HO_7, HB⟩ := hrel
        cases gk with
        | zero => exact absurd HA.out (by simp [spec_pzSure.l2])
        | succ k3 =>
         have H := HA.out
         clear HA
         simp only [spec_pzSure.l2] at H
         by_cases c6 : x27_3 < (l1.length : Int)
         ·rw [if_pos c6] at H
          have c6b0 : decide (x27_3 < (l1.length : Int)) = true := decide_eq_true c6
          clear c6
          by_cases c7 : 0 ≤ x27_3
          ·rw [if_pos c7] at H
           have c7b0 : decide (0 ≤ x27_3) = true := decide_eq_true c7
           clear c7
           by_cases c8 : x27_3 < (l1.length : Int)
           ·rw [if_pos c8] at H
            have c8b0 : decide (x27_3 < (l1.length : Int)) = true := decide_eq_true c8
            clear c8
            by_cases c9 : x10_3 = true
            ·subst c9
             rw [if_pos rfl] at H
             replace H := Option.bind_eq_some_iff.mp H
             obtain ⟨t525, A100, H⟩ := H
             try dsimp only at H
             have A10 := Aside0.mk A100
             clear A100
             by_cases c11 : 0 ≤ x8_1
             ·rw [if_pos c11] at H
              have c11b0 : decide (0 ≤ x8_1) = true := decide_eq_true c11
              clear c11
              by_cases c12 : x8_1 < (t525.length : Int)
              ·rw [if_pos c12] at H
               have c12b0 : decide (x8_1 < (t525.length : Int)) = true := decide_eq_true c12
               clear c12
               by_cases c13 : 0 ≤ x9_2
               ·rw [if_pos c13] at H
                have c13b0 : decide (0 ≤ x9_2) = true := decide_eq_true c13
                clear c13
                by_cases c14 : x9_2 < ((rd_L5 t525 x8_1).length : Int)
                ·rw [if_pos c14] at H
                 have c14b0 : decide (x9_2 < ((rd_L5 t525 x8_1).length : Int)) = true := decide_eq_true c14
                 clear c14
                 have H' := Aside0.mk H
                 clear H
                 have p523 : 0 ≤ (x27_3 : Int) := of_decide_eq_true (by first | (with_reducible assumption) | assumption)
                 have q523 : x27_3 < (l1.length : Int) := of_decide_eq_true (by first | (with_reducible assumption) | assumption)
                 obtain ⟨ad523, A523_1, c523_1, e523, hx523_0, hx523_1, hl523_1, hi523_1⟩ := at_T34 HR1.out x27_3 p523 q523
                 cases e523
                 replace hx523_0 := (HB.out.cell (World.block_lt_of_cell? w _ hx523_0)).trans hx523_0
                 replace hx523_1 := (HB.out.cell (World.block_lt_of_cell? w _ hx523_1)).trans hx523_1
                 have HR523_1 := Aside0.mk hi523_1
                 have HC523_1 := Aside0.mk hl523_1
                 clear hi523_1 hl523_1
                 replace p523 := eq_true p523
                 replace q523 := eq_true q523
                 go_wp2_with (first | ((with_reducible refine gate_dst (N := 12) rfl ?_); refine bxE 12 #[.int .i64 0, .slice none 0 0] 34 rfl ?_; intro gb524 hg w15 hbox hb; have BK524 := Aside0.mk (hbox); have GW524 := gS HB hg; have GE524 := gS HB hg; replace HO_7 := Aside0.mk (Kd.R_below (rU HO_7) hb); replace HB := hS HB hb; clear hb hbox hg; have hcz16_0 := cz BK524 0; have hcz16_1 := cz BK524 1; have hfz16_0 := fz BK524 0; have hfz16_1 := fz BK524 1) | (go_at_call 70; (with_reducible refine (spec_paTable.calls k3 ((rd_T34 l1 x27_3).f0) _ _ ((rd_T34 l1 x27_3).f1) t525 _ ?side1 ?side2 A10.out).mono ?_); (case side1 => exact Kd.C_below HR523_1.out hB); (case side2 => exact HC523_1.out); rintro e w17 ⟨v526, rfl, ho0, hb⟩; have HO527 := Aside0.mk (Kd.S_lower ho0 (below_size hB)); replace HO_7 := Aside0.mk (Kd.R_below (by (with_reducible repeat (first | apply Kd.R_alloc | apply Kd.R_drewN | apply Kd.R_drew)); exact (Kd.R_mono (Kd.R_far (p := ⟨gb524, 1, none⟩) (Kd.R_far (p := ⟨gb524, 0, none⟩) (Kd.R_types HO_7.out BK524.out (by decide)) (fun _ hk => hk.2) (.int .i64 ((rd_T34 l1 x27_3).f0))) (fun _ hk => hk.2) (.slice A523_1 ((rd_T34 l1 x27_3).f1).length c523_1)) (fun _ h_ => h_.1))) hb); replace BK524 := Aside0.mk (blk_below (g := gb524) (o := .cells #[.int .i64 ((rd_T34 l1 x27_3).f0), .slice A523_1 ((rd_T34 l1 x27_3).f1).length c523_1] 34 (0, 0)) (by (with_reducible repeat (first | refine blk_drewN ?_ _ | refine blk_drew ?_ | refine blk_alloc ?_ _)); refine blk_put (cs := #[.int .i64 ((rd_T34 l1 x27_3).f0), .slice none 0 0]) ?_ 1 _ rfl; (with_reducible repeat (first | refine blk_drewN ?_ _ | refine blk_drew ?_ | refine blk_alloc ?_ _)); refine blk_put (cs := #[.int .i64 0, .slice none 0 0]) ?_ 0 _ rfl; (with_reducible repeat (first | refine blk_drewN ?_ _ | refine blk_drew ?_ | refine blk_alloc ?_ _)); exact BK524.out) hb); replace HB := hS HB hb; (try clear hb); (try clear hb2); (try clear hk); (try clear hi); (try clear ho0); obtain ⟨Ao18, co18, eo18⟩ := Kd.S_slice HO527.out; subst eo18; have p528 : 0 ≤ (x8_1 : Int) := of_decide_eq_true (by first | (with_reducible assumption) | assumption); have q528 : x8_1 < (t525.length : Int) := of_decide_eq_true (by first | (with_reducible assumption) | assumption); obtain ⟨ad528, A528_0, c528_0, e528, hx528_0, hl528_0, hi528_0⟩ := at_L5 (Kd.S_reads' HO527.out).2.2 x8_1 p528 q528; cases e528; obtain ⟨ce528, hce528, hMe528, hcc528⟩ := Kd.S_get HO527.out [] x8_1 p528 (by first | exact q528 | exact of_decide_eq_true (by first | (with_reducible assumption) | assumption) | (have e_ := (Kd.S_reads' HO527.out).1; omega)); obtain ⟨ve528_0, rfl, ge528_0⟩ := hMe528; have hv528_0 := hcc528 0 _ rfl; rw [Nat.add_zero, show ((Kd.slice 4 Kd.bool)).sz = 1 from rfl, Nat.mul_one] at hv528_0; replace hv528_0 := Option.some.inj (hv528_0.symm.trans hx528_0); rw [hv528_0] at ge528_0; have HL528_0 := Aside0.mk (show Kd.R Kd.bool 4 _ _ _ _ (rd_L5 t525 x8_1) from ge528_0); clear hv528_0 ge528_0; clear hcc528 hce528; have HR528_0 := Aside0.mk hi528_0; have HC528_0 := Aside0.mk hl528_0; clear hi528_0 hl528_0; replace p528 := eq_true p528; replace q528 := eq_true q528; have p529 : 0 ≤ (x9_2 : Int) := of_decide_eq_true (by first | (with_reducible assumption) | assumption); have q529 : x9_2 < ((rd_L5 t525 x8_1).length : Int) := of_decide_eq_true (by first | (with_reducible assumption) | assumption); obtain ⟨ad529, e529, hx529_0⟩ := Kd.at_bool (by repeat (first | (with_reducible exact HR528_0.out) | (with_reducible refine Kd.C_alloc ?_ _) | (with_reducible refine Kd.C_drewN ?_ _) | (with_reducible refine Kd.C_drew ?_) | exact HR528_0.out)) x9_2 p529 q529; cases e529; replace p529 := eq_true p529; replace q529 := eq_true q529))
                 go_roundg k3
                 case measure => have := HK1.out; have := HK2.out; have := HK3.out; omega
                 case rel => exact ⟨(((rdOf false (rd_L5 t525 x8_1) x9_2) == a2)), (wrap64 (x27_3 + 1)), (by first | rfl | (simp; done) | (simp [*]; done)), (by first | rfl | (simp; done) | (simp [*]; done)), H', ⟨by have := HK1.out; have := HK2.out; have := HK3.out; omega⟩, ⟨rU HO_7⟩, ⟨hB⟩⟩
                ·rw [if_neg c14] at H
                 exact absurd H (by simp)
               ·rw [if_neg c13] at H
                exact absurd H (by simp)
              ·rw [if_neg c12] at H
               exact absurd H (by simp)
             ·rw [if_neg c11] at H
              exact absurd H (by simp)
            ·replace c9 := Bool.eq_false_iff.mpr c9
             subst c9
             rw [if_neg (show ¬ (false = true) by decide)] at H
             have H' := Aside0.mk H
             clear H
             have p523 : 0 ≤ (x27_3 : Int) := of_decide_eq_true (by first | (with_reducible assumption) | assumption)
             have q523 : x27_3 < (l1.length : Int) := of_decide_eq_true (by first | (with_reducible assumption) | assumption)
             obtain ⟨ad523, A523_1, c523_1, e523, hx523_0, hx523_1, hl523_1, hi523_1⟩ := at_T34 HR1.out x27_3 p523 q523
             cases e523
             replace hx523_0 := (HB.out.cell (World.block_lt_of_cell? w _ hx523_0)).trans hx523_0
             replace hx523_1 := (HB.out.cell (World.block_lt_of_cell? w _ hx523_1)).trans hx523_1
             have HR523_1 := Aside0.mk hi523_1
             have HC523_1 := Aside0.mk hl523_1
             clear hi523_1 hl523_1
             replace p523 := eq_true p523
             replace q523 := eq_true q523
             go_wp2_with (first | ((with_reducible refine gate_dst (N := 12) rfl ?_); refine bxE 12 #[.int .i64 0, .slice none 0 0] 34 rfl ?_; intro gb524 hg w19 hbox hb; have BK524 := Aside0.mk (hbox); have GW524 := gS HB hg; have GE524 := gS HB hg; replace HO_7 := Aside0.mk (Kd.R_below (rU HO_7) hb); replace HB := hS HB hb; clear hb hbox hg; have hcz20_0 := cz BK524 0; have hcz20_1 := cz BK524 1; have hfz20_0 := fz BK524 0; have hfz20_1 := fz BK524 1))
             go_roundg k3
             case measure => have := HK1.out; have := HK2.out; have := HK3.out; omega
             case rel => exact ⟨(false), (wrap64 (x27_3 + 1)), (by first | rfl | (simp; done) | (simp [*]; done)), (by first | rfl | (simp; done) | (simp [*]; done)), H', ⟨by have := HK1.out; have := HK2.out; have := HK3.out; omega⟩, ⟨by (with_reducible repeat (first | apply Kd.R_alloc | apply Kd.R_drewN | apply Kd.R_drew)); exact Kd.R_mono (Kd.R_far (p := ⟨gb524, 1, none⟩) (Kd.R_far (p := ⟨gb524, 0, none⟩) (Kd.R_types HO_7.out BK524.out (by decide)) (fun _ hk => hk.2) (.int .i64 ((rd_T34 l1 x27_3).f0))) (fun _ hk => hk.2) (.slice A523_1 ((rd_T34 l1 x27_3).f1).length c523_1)) (fun _ hk => trivial)⟩, ⟨hB⟩⟩
           ·rw [if_neg c8] at H
            exact absurd H (by simp)
          ·rw [if_neg c7] at H
           exact absurd H (by simp)
         ·rw [if_neg c6] at H
          have c6b0 : decide (x27_3 < (l1.length : Int)) = false := decide_eq_false c6
          clear c6
          by_cases c21 : x10_3 = true
          ·subst c21
           rw [if_pos rfl] at H
           by_cases c22 : x7_2.length < 8796093022208
           ·rw [if_pos c22] at H
            have LMc22 := Aside0.mk c22
            clear c22
            obtain ⟨y530, hy530⟩ : ∃ y_ : List (S110), y_ = (x7_2 ++ [(⟨x8_1, x9_2⟩ : S110)]) := ⟨_, rfl⟩
            replace H : (spec_pzSure.l1 k3 a0 l1 a2 y530 x8_1 (wrap64 (x9_2 + 1))) = some r := by first | (rw [hy530]; with_reducible exact H) | (have H2_ := (Option.bind_some _ _).symm.trans H; rw [hy530]; with_reducible exact H2_) | (have H2_ := (Option.bind_some _ _).symm.trans H; with_reducible exact H2_) | with_reducible exact H | (rw [hy530]; exact H) | exact H
            have Ny530 := Aside0.mk hy530
            clear hy530
            have H' := Aside0.mk H
            clear H
            go_wp2_with (first | ((with_reducible refine gate_builtin (b := .append) (xs := #[.tmp 46, .tmp 50]) rfl ?_); at_builtin; refine Kd.R_append k110 (w0 := w) w.heap.size rfl (.tmp 46) (.tmp 50) 32 110 (.agg #[(.int .i64 0), (.int .i64 0)]) 16 rfl Tryd.underlying32 info110 rfl (by decide) (by omega) u7 x7_2 (⟨x8_1, x9_2⟩ : S110) [.int .i64 x8_1, .int .i64 x9_2] (fun _ => True) (fun _ => False) rfl rfl ?aP (fun _ hk => hk.elim) ?aF ?aO ?aB ?aS ?aL ?_; (case aP => exact k110_mkM _ _ _ (⟨x8_1, x9_2⟩ : S110)); (case aB => exact hB); (case aF => exact (fun _ _ => trivial)); (case aO => exact (rU HO_7)); (case aS => exact (below_size hB)); (case aL => have := LMc22.out; omega); intro v531 w23 ho hb hg hat; rw [← Ny530.out] at ho; have HO532 := Aside0.mk (ho); replace HB := Aside0.mk (hb); clear HO_7; clear ho hb hg hat))
            go_roundg k3
            case measure => have := HK1.out; have := HK2.out; have := HK3.out; omega
            case rel => exact ⟨(y530), (wrap64 (x9_2 + 1)), (by first | rfl | (simp; done) | (simp [*]; done)), H', ⟨by have := HK1.out; have := HK2.out; have := HK3.out; omega⟩, ⟨rU HO532⟩, ⟨hB⟩⟩
           ·rw [if_neg c22] at H
            exact absurd H (by simp)
          ·replace c21 := Bool.eq_false_iff.mpr c21
           subst c21
           rw [if_neg (show ¬ (false = true) by decide)] at H
           have H' := Aside0.mk H
           clear H
           go_wp2
           go_roundg k3
           case measure => have := HK1.out; have := HK2.out; have := HK3.out; omega
           case rel => exact ⟨(x7_2), (wrap64 (x9_2 + 1)), (by first | rfl | (simp; done) | (simp [*]; done)), H', ⟨by have := HK1.out; have := HK2.out; have := HK3.out; omega⟩, ⟨rU HO_7⟩, ⟨hB⟩⟩
      ·rw [if_neg c5] at H
       have c5b0 : decide (x9_2 < a0) = false := decide_eq_false c5
       clear c5
       have H' := Aside0.mk H
       clear H
       go_wp2
       go_roundg k2
       case measure => have := HK1.out; have := HK2.out; omega
       case rel => exact ⟨(x7_2), (wrap64 (x8_1 + 1)), (by first | rfl | (simp; done) | (simp [*]; done)), H', ⟨by have := HK1.out; have := HK2.out; omega⟩, ⟨rU HO_7⟩, ⟨hB⟩⟩
   ·rw [if_neg c4] at H
    have c4b0 : decide (x8_1 < a0) = false := decide_eq_false c4
    clear c4
    obtain rfl := Option.some.inj H
    go_wp2
    go_ret
    exact ⟨_, by first | rfl | (simp [errW_none, errW_some] <;> rfl) | (simp [*, errW_none, errW_some] <;> rfl), rU HO_7, hB⟩

/-! ### spec_pzSureOf: function 93 -/
def spec_pzSureOf.f (k : Nat) (a0_0 : Int) (l0_1 : List (S30)) (a1 : Bool) : Option ((List (S110)) × Bool) := (spec_pzGood.f k a0_0 l0_1).bind fun t534 => (if t534 = true then ((spec_pzAll.f k a0_0 l0_1).bind fun t535 => (if (t535.length : Int) = 0 then (some (([] : List (S110)), false)) else ((spec_pzSure.f k a0_0 t535 a1).bind fun t538 => (some (t538, true))))) else (some (([] : List (S110)), false)))
theorem spec_pzSureOf.mono : ∀ a0 a1 a2 k, LeO (spec_pzSureOf.f k a0 a1 a2) (spec_pzSureOf.f (k + 1) a0 a1 a2) := by
 intro a0 a1 a2 k
 unfold spec_pzSureOf.f
 repeat' first
   | (with_reducible exact spec_pzAll.mono _ _ _)
   | (with_reducible exact spec_pzGood.mono _ _ _)
   | (with_reducible exact spec_pzSure.mono _ _ _ _)
   | (with_reducible exact LeO.refl _)
   | (with_reducible exact LeO.none _)
   | (with_reducible refine LeO.ite ?_ ?_)
   | (with_reducible refine LeO.bind ?_ (fun _ => ?_))
   | exact spec_pzAll.mono _ _ _
   | exact spec_pzGood.mono _ _ _
   | exact spec_pzSure.mono _ _ _ _
   | exact LeO.none _
   | refine LeO.ite ?_ ?_
   | refine LeO.bind ?_ (fun _ => ?_)
set_option maxHeartbeats 8000000 in
set_option maxRecDepth 100000 in
theorem spec_pzSureOf.calls (k : Nat) (a0_0 : Int) (A0_1 : Option Addr) (c0_1 : Nat) (l0_1 : List (S30)) (a1 : Bool) (r1 : List (S110)) (r2 : Bool) (w : World) (hr0_1 : Kd.C k30 w A0_1 l0_1.length l0_1) (hc0_1 : l0_1.length ≤ c0_1) (h : spec_pzSureOf.f k a0_0 l0_1 a1 = some (r1, r2)) :
  Calls Tryd.prog 93 #[.agg #[.int .i64 a0_0, .slice A0_1 l0_1.length c0_1], .bool a1] w fun e w' => ∃ v0_ : Value, e = .returned (.tuple #[v0_, .bool r2]) ∧ Kd.R k110 110 w' w.heap.size (fun _ => True) v0_ r1 ∧ Below w.heap.size w w' := by
 have hu40 := Tryd.underlying40
 have HR0_1 := Aside0.mk hr0_1
 have HC0_1 := Aside0.mk hc0_1
 clear hr0_1 hc0_1
 have HB := Aside0.mk (Below.refl w.heap.size w)
 have H : ((spec_pzGood.f k a0_0 l0_1).bind fun t534 => (if t534 = true then ((spec_pzAll.f k a0_0 l0_1).bind fun t535 => (if (t535.length : Int) = 0 then (some (([] : List (S110)), false)) else ((spec_pzSure.f k a0_0 t535 a1).bind fun t538 => (some (t538, true))))) else (some (([] : List (S110)), false)))) = some (r1, r2) := h
 clear h
 replace H := Option.bind_eq_some_iff.mp H
 obtain ⟨t534, A30, H⟩ := H
 try dsimp only at H
 have A3 := Aside0.mk A30
 clear A30
 by_cases c4 : t534 = true
 ·subst c4
  rw [if_pos rfl] at H
  replace H := Option.bind_eq_some_iff.mp H
  obtain ⟨t535, A50, H⟩ := H
  try dsimp only at H
  have A5 := Aside0.mk A50
  clear A50
  by_cases c6 : (t535.length : Int) = 0
  ·rw [if_pos c6] at H
   have c6b0 : ((t535.length : Int) == 0) = true := beq_iff_eq.mpr c6
   have c6b1 : ((t535.length : Int) != 0) = false := bne_eq_false_iff_eq.mpr c6
   clear c6
   simp only [Option.some.injEq, Prod.mk.injEq] at H
   obtain ⟨rfl, rfl⟩ := H
   go_enter Tryd.func93, Tryd.ntmps93
   go_wp2_with (first | ((with_reducible refine gate_dst (N := 2) rfl ?_); refine bxE 2 #[.int .i64 a0_0, .slice A0_1 l0_1.length c0_1] 40 rfl ?_; intro gb533 hg w7 hbox hb; have BK533 := Aside0.mk (hbox); have GW533 := gS HB hg; have GE533 := gS HB hg; replace HB := hS HB hb; clear hb hbox hg; have hcz8_0 := cz BK533 0; have hcz8_1 := cz BK533 1; have hfz8_0 := fz BK533 0; have hfz8_1 := fz BK533 1) | ((with_reducible refine gate_callee (f := 83) rfl ?_); refine goC (N := some 8) Tryd.func83 #[.agg #[.int .i64 a0_0, .slice A0_1 l0_1.length c0_1]] rfl ?_; (with_reducible refine (spec_pzGood.calls k a0_0 _ _ l0_1 true _ ?side1 ?side2 A3.out).mono ?_); (case side1 => exact cS (Kd.C_below HR0_1.out HB.out)); (case side2 => exact HC0_1.out); rintro e w9 ⟨rfl, hb⟩; refine ⟨_, rfl, ?_⟩; replace BK533 := bS BK533 hb; replace HB := hS HB hb; (try clear hb); (try clear hb2); (try clear hk); (try clear hi); have hcz10_0 := cz BK533 0; have hcz10_1 := cz BK533 1; have hfz10_0 := fz BK533 0; have hfz10_1 := fz BK533 1) | ((with_reducible refine gate_callee (f := 84) rfl ?_); refine goC (N := some 14) Tryd.func84 #[.int .i64 a0_0, .slice A0_1 l0_1.length c0_1] rfl ?_; (with_reducible refine (spec_pzAll.calls k a0_0 _ _ l0_1 t535 _ ?side1 ?side2 A5.out).mono ?_); (case side1 => exact cS (Kd.C_below HR0_1.out HB.out)); (case side2 => exact HC0_1.out); rintro e w11 ⟨v536, rfl, ho0, hb⟩; refine ⟨_, rfl, ?_⟩; have HO537 := Aside0.mk (Kd.N_lower (Kd.N_mono (ok' := fun k_ => k_ ≠ gb533) ho0 (fun k_ hk_ => (Kd.freshB (g := gb533) (o := .cells #[.int .i64 a0_0, .slice A0_1 l0_1.length c0_1] 40 (0, 0)) bK k_ hk_))) (below_size hB)); replace BK533 := bS BK533 hb; replace HB := hS HB hb; (try clear hb); (try clear hb2); (try clear hk); (try clear hi); (try clear ho0); obtain ⟨Ao12, co12, eo12⟩ := Kd.N_slice HO537.out; subst eo12))
   go_ret2
   exact ⟨_, by first | rfl | (simp [errW_none, errW_some] <;> rfl) | (simp [*, errW_none, errW_some] <;> rfl), by first | exact Kd.R_nil _ _ _ _ _ | exact Kd.N_nil _ _ _ _ _ | exact Kd.V_nil _ _ _ _ _ | exact Kd.Q_nil _ _ _ _ _ | exact Kd.S_nil _ _ _ _ _, hB⟩
  ·rw [if_neg c6] at H
   have c6b0 : ((t535.length : Int) == 0) = false := beq_eq_false_iff_ne.mpr c6
   have c6b1 : ((t535.length : Int) != 0) = true := bne_iff_ne.mpr c6
   have c6b2 : ¬ (t535 = []) := fun h_ => c6 (by rw [h_]; rfl)
   replace H := Option.bind_eq_some_iff.mp H
   obtain ⟨t538, A130, H⟩ := H
   replace H : (some (t538, true)) = some (r1, r2) := H
   have A13 := Aside0.mk A130
   clear A130
   simp only [Option.some.injEq, Prod.mk.injEq] at H
   obtain ⟨rfl, rfl⟩ := H
   go_enter Tryd.func93, Tryd.ntmps93
   go_wp2_with (first | ((with_reducible refine gate_dst (N := 2) rfl ?_); refine bxE 2 #[.int .i64 a0_0, .slice A0_1 l0_1.length c0_1] 40 rfl ?_; intro gb533 hg w14 hbox hb; have BK533 := Aside0.mk (hbox); have GW533 := gS HB hg; have GE533 := gS HB hg; replace HB := hS HB hb; clear hb hbox hg; have hcz15_0 := cz BK533 0; have hcz15_1 := cz BK533 1; have hfz15_0 := fz BK533 0; have hfz15_1 := fz BK533 1) | ((with_reducible refine gate_callee (f := 83) rfl ?_); refine goC (N := some 8) Tryd.func83 #[.agg #[.int .i64 a0_0, .slice A0_1 l0_1.length c0_1]] rfl ?_; (with_reducible refine (spec_pzGood.calls k a0_0 _ _ l0_1 true _ ?side1 ?side2 A3.out).mono ?_); (case side1 => exact cS (Kd.C_below HR0_1.out HB.out)); (case side2 => exact HC0_1.out); rintro e w16 ⟨rfl, hb⟩; refine ⟨_, rfl, ?_⟩; replace BK533 := bS BK533 hb; replace HB := hS HB hb; (try clear hb); (try clear hb2); (try clear hk); (try clear hi); have hcz17_0 := cz BK533 0; have hcz17_1 := cz BK533 1; have hfz17_0 := fz BK533 0; have hfz17_1 := fz BK533 1) | ((with_reducible refine gate_callee (f := 84) rfl ?_); refine goC (N := some 14) Tryd.func84 #[.int .i64 a0_0, .slice A0_1 l0_1.length c0_1] rfl ?_; (with_reducible refine (spec_pzAll.calls k a0_0 _ _ l0_1 t535 _ ?side1 ?side2 A5.out).mono ?_); (case side1 => exact cS (Kd.C_below HR0_1.out HB.out)); (case side2 => exact HC0_1.out); rintro e w18 ⟨v536, rfl, ho0, hb⟩; refine ⟨_, rfl, ?_⟩; have HO537 := Aside0.mk (Kd.N_lower (Kd.N_mono (ok' := fun k_ => k_ ≠ gb533) ho0 (fun k_ hk_ => (Kd.freshB (g := gb533) (o := .cells #[.int .i64 a0_0, .slice A0_1 l0_1.length c0_1] 40 (0, 0)) bK k_ hk_))) (below_size hB)); replace BK533 := bS BK533 hb; replace HB := hS HB hb; (try clear hb); (try clear hb2); (try clear hk); (try clear hi); (try clear ho0); obtain ⟨Ao19, co19, eo19⟩ := Kd.N_slice HO537.out; subst eo19; have hcz20_0 := cz BK533 0; have hcz20_1 := cz BK533 1; have hfz20_0 := fz BK533 0; have hfz20_1 := fz BK533 1) | ((with_reducible refine gate_callee (f := 119) rfl ?_); refine goC (N := some 22) Tryd.func119 #[.int .i64 a0_0, .slice Ao19 t535.length co19, .bool a1] rfl ?_; (with_reducible refine (spec_pzSure.calls k a0_0 _ _ t535 a1 t538 _ ?side1 ?side2 A13.out).mono ?_); (case side1 => exact cS (Kd.N_reads' HO537.out).2.2); (case side2 => exact (Kd.N_reads' HO537.out).2.1); rintro e w21 ⟨v539, rfl, ho0, hb⟩; refine ⟨_, rfl, ?_⟩; have HO540 := Aside0.mk (Kd.R_lower ho0 (below_size hB)); replace HO537 := Aside0.mk (Kd.N_elder' (nU HO537) (Kd.R_base ho0) hb); replace BK533 := bS BK533 hb; replace HB := hS HB hb; (try clear hb); (try clear hb2); (try clear hk); (try clear hi); (try clear ho0)))
   go_ret2
   exact ⟨_, by first | rfl | (simp [errW_none, errW_some] <;> rfl) | (simp [*, errW_none, errW_some] <;> rfl), rU HO540, hB⟩
 ·replace c4 := Bool.eq_false_iff.mpr c4
  subst c4
  rw [if_neg (show ¬ (false = true) by decide)] at H
  simp only [Option.some.injEq, Prod.mk.injEq] at H
  obtain ⟨rfl, rfl⟩ := H
  go_enter Tryd.func93, Tryd.ntmps93
  go_wp2_with (first | ((with_reducible refine gate_dst (N := 2) rfl ?_); refine bxE 2 #[.int .i64 a0_0, .slice A0_1 l0_1.length c0_1] 40 rfl ?_; intro gb533 hg w22 hbox hb; have BK533 := Aside0.mk (hbox); have GW533 := gS HB hg; have GE533 := gS HB hg; replace HB := hS HB hb; clear hb hbox hg; have hcz23_0 := cz BK533 0; have hcz23_1 := cz BK533 1; have hfz23_0 := fz BK533 0; have hfz23_1 := fz BK533 1) | ((with_reducible refine gate_callee (f := 83) rfl ?_); refine goC (N := some 8) Tryd.func83 #[.agg #[.int .i64 a0_0, .slice A0_1 l0_1.length c0_1]] rfl ?_; (with_reducible refine (spec_pzGood.calls k a0_0 _ _ l0_1 false _ ?side1 ?side2 A3.out).mono ?_); (case side1 => exact cS (Kd.C_below HR0_1.out HB.out)); (case side2 => exact HC0_1.out); rintro e w24 ⟨rfl, hb⟩; refine ⟨_, rfl, ?_⟩; replace BK533 := bS BK533 hb; replace HB := hS HB hb; (try clear hb); (try clear hb2); (try clear hk); (try clear hi)))
  go_ret2
  exact ⟨_, by first | rfl | (simp [errW_none, errW_some] <;> rfl) | (simp [*, errW_none, errW_some] <;> rfl), by first | exact Kd.R_nil _ _ _ _ _ | exact Kd.N_nil _ _ _ _ _ | exact Kd.V_nil _ _ _ _ _ | exact Kd.Q_nil _ _ _ _ _ | exact Kd.S_nil _ _ _ _ _, hB⟩

/-! ### impl_Pair_134: function 134 (a text of this session's own) -/

def impl_Pair_134.idx (p : S110 → Bool) (l : List S110) : Int := match l.findIdx? p with | some k => (k : Int) | none => -1
theorem impl_Pair_134.calls (A0 : Option Addr) (c0 : Nat) (l0 : List S110) (p : S110 → Bool) (g : Nat) (lb : Array Value) (w : World) (eg : ∀ args w, (callFunc g args).run Tryd.prog w = .ok (.enter g args) w)
    (hr0 : Kd.C k110 w A0 l0.length l0)
    (hp : ∀ (W : World) (x : S110), x ∈ l0 → Below w.heap.size w W → Calls Tryd.prog g (#[.agg #[.int .i64 x.f0, .int .i64 x.f1]] ++ lb) W fun e w' => e = .returned (.bool (p x)) ∧ Below W.heap.size W w') :
    Calls Tryd.prog 134 #[.slice A0 l0.length c0, .func (.func g) #[] lb] w fun e w' => e = .returned (.int .i64 (impl_Pair_134.idx p l0)) ∧ Below w.heap.size w w' := by
  have hu := Tryd.underlying110
  have HR0 := Aside0.mk hr0
  have hlen : l0.length ≤ 9223372036854775807 := hr0.2.1
  clear hr0
  go_enter Tryd.func134, Tryd.ntmps134
  go_wp2
  go_loopg [8] l0.length (fun gg s8 wr => ∃ kk : Nat, kk ≤ l0.length ∧ l0.length - kk ≤ gg ∧ s8 = .int .i64 kk ∧ Aside0 (Below w.heap.size w wr) ∧ Aside0 ((l0.take kk).any p = false))
  case atStart => exact ⟨0, Nat.zero_le _, by omega, rfl, ⟨Below.refl _ w⟩, ⟨by simp⟩⟩
  case round =>
    obtain ⟨kk, hkk, hg, rfl, BW, AN⟩ := hrel
    by_cases hlt : kk < l0.length
    · have hltz : (kk : Int) < (l0.length : Int) := by omega
      obtain ⟨ad, e, hx0, hx1⟩ := at_T110 HR0.out (kk : Int) (by omega) hltz
      cases e
      simp only [Int.toNat_natCast] at hx0 hx1
      replace hx0 := (BW.out.cell (World.block_lt_of_cell? w _ hx0)).trans hx0
      replace hx1 := (BW.out.cell (World.block_lt_of_cell? w _ hx1)).trans hx1
      have hgetx : rd_T110 l0 kk = l0[kk] := by simp [rd_T110, List.getD, hlt]
      have hcall := hp wr (rd_T110 l0 kk) (by rw [hgetx]; exact List.getElem_mem hlt) BW.out
      clear hp
      have HX := Aside0.mk (show p l0[kk] = p (rd_T110 l0 kk) by rw [hgetx])
      have HG := Aside0.mk (show (l0.take (kk + 1)).any p = p (rd_T110 l0 kk) by
        rw [hgetx, List.take_succ_eq_append_getElem hlt, List.any_append, AN.out]; simp)
      clear hgetx
      cases hq : p (rd_T110 l0 kk) with
      | true =>
        rw [hq] at hcall HG HX
        go_wp2_with (go_at_fn g; refine hcall.mono ?_; rintro e w' ⟨rfl, hb'⟩; have HB' := Aside0.mk hb'; clear hb')
        go_ret
        have hidx : l0.findIdx? p = some kk := List.findIdx?_eq_some_iff_getElem.2 ⟨hlt, HX.out, fun j hj hpj => by
          have h1 := List.any_eq_false.1 AN.out l0[j] (List.mem_take_iff_getElem.2 ⟨j, by omega, rfl⟩)
          exact h1 hpj⟩
        exact ⟨by simp only [impl_Pair_134.idx, hidx]; rfl, below_step BW.out HB'.out⟩
      | false =>
        rw [hq] at hcall HG
        go_wp2_with (go_at_fn g; refine hcall.mono ?_; rintro e w' ⟨rfl, hb'⟩; have HB' := Aside0.mk hb'; clear hb')
        go_roundg (l0.length - (kk + 1))
        case measure => omega
        case rel => exact ⟨kk + 1, by omega, by omega, by go_num, ⟨below_step BW.out HB'.out⟩, HG⟩
    · have hltz : ¬ (kk : Int) < (l0.length : Int) := by omega
      go_wp2
      go_ret
      have := AN.out
      rw [List.take_of_length_le (by omega)] at this
      have hidx : l0.findIdx? p = none := List.findIdx?_eq_none_iff.2 (fun x hx => by simpa using List.any_eq_false.1 this x hx)
      exact ⟨by simp only [impl_Pair_134.idx, hidx]; rfl, BW.out⟩

/-! ### impl_Pair_120: function 120 (a text of this session's own) -/
/-- What lies behind a row's end in its own block may turn. -/
theorem impl_Pair_120.tail1 {w : World} {base g n c j : Nat} {ok : Nat → Prop} {xs : List S110} {u : Value} (HO : Kd.R k110 110 w base ok (.slice (some ⟨g, 0, none⟩) n c) xs) (hj : n * 2 ≤ j) : Kd.R k110 110 (w.setCell ⟨g, j, none⟩ u) base ok (.slice (some ⟨g, 0, none⟩) n c) xs := by
  obtain ⟨hok, inner, ⟨hlen, hcase⟩, hr⟩ := HO
  rcases hcase with ⟨hv, _⟩ | ⟨g', cap, cur, hv, hb, hh, hnc, hcm, hcs, htake⟩
  · cases hv
  · injection hv with ha hn hc
    injection ha with ha
    injection ha with hg
    subst hg; subst hc; subst hn
    refine ⟨hok, inner, ⟨hlen, .inr ⟨g, c, cur.setIfInBounds j u, rfl, hb, blk_set hh j u, hnc, hcm, by simp [hcs], ?_⟩⟩, hr.imp_ (fun x cs hM => by obtain rfl := k110_openM hM; exact k110_mkM _ _ _ x)⟩
    rw [← htake, Array.toList_setIfInBounds, List.take_set_of_le (show xs.length * k110.sz ≤ j from hj)]
theorem impl_Pair_120.tails {base g n c : Nat} {ok : Nat → Prop} {xs : List S110} : ∀ (us : List Value) (j : Nat) (w : World), Kd.R k110 110 w base ok (.slice (some ⟨g, 0, none⟩) n c) xs → n * 2 ≤ j → Kd.R k110 110 (w.setCells g j us) base ok (.slice (some ⟨g, 0, none⟩) n c) xs
  | [], _, _, h, _ => h
  | u :: us, j, w, h, hj => impl_Pair_120.tails us (j + 1) _ (impl_Pair_120.tail1 h hj) (by omega)
theorem impl_Pair_120.belows {base g : Nat} (hg : base ≤ g) : ∀ (us : List Value) (j : Nat) (w0 w : World), Below base w0 w → Below base w0 (w.setCells g j us)
  | [], _, _, _, h => h
  | u :: us, j, w0, w, h => impl_Pair_120.belows hg us (j + 1) w0 _ (h.setCell hg u)
/-- The row's block. -/
theorem impl_Pair_120.block {w : World} {base g n c : Nat} {ok : Nat → Prop} {xs : List S110} (HO : Kd.R k110 110 w base ok (.slice (some ⟨g, 0, none⟩) n c) xs) : ∃ cur, w.heap[g]? = some (.cells cur 110 (0, 0)) ∧ cur.size = c * 2 ∧ base ≤ g := by
  obtain ⟨hok, inner, ⟨hlen, hcase⟩, hr⟩ := HO
  rcases hcase with ⟨hv, _⟩ | ⟨g', cap, cur, hv, hb, hh, hnc, hcm, hcs, htake⟩
  · cases hv
  · injection hv with ha hn hc
    injection ha with ha
    injection ha with hg
    subst hg; subst hc; subst hn
    exact ⟨cur, hh, hcs, hb⟩
/-- The row's beginning. -/
theorem impl_Pair_120.cut {w : World} {base g n c m : Nat} {ok : Nat → Prop} {xs : List S110} (HO : Kd.R k110 110 w base ok (.slice (some ⟨g, 0, none⟩) n c) xs) (hm : m ≤ n) : Kd.R k110 110 w base ok (.slice (some ⟨g, 0, none⟩) m c) (xs.take m) := by
  have hn := (Kd.R_reads' HO).1
  subst hn
  exact Kd.R_take HO hm
/-- An element's cells. -/
theorem impl_Pair_120.cell {w : World} {base g n c i : Nat} {ok : Nat → Prop} {xs : List S110} {a : Addr} (HO : Kd.R k110 110 w base ok (.slice (some ⟨g, 0, none⟩) n c) xs) (hi : i < n) (ha : a = ⟨g, 0, none⟩) :
    ∃ u0 u1, w.cell? (a.add (i * 2)) = some u0 ∧ w.cell? ⟨(a.add (i * 2)).block, (a.add (i * 2)).off + 1, none⟩ = some u1 ∧ w.frozen? (a.add (i * 2)) = false ∧ w.frozen? ⟨(a.add (i * 2)).block, (a.add (i * 2)).off + 1, none⟩ = false ∧ a.add (i * 2) = ⟨g, i * 2, none⟩ := by
  obtain ⟨cs, h1, h2, h3, h4⟩ := Kd.R_elem HO z110 (i : Int) (by omega) (by omega)
  have e : a.add (i * 2) = ⟨g, i * 2, none⟩ := by rw [ha]; unfold Addr.add; split <;> simp_all
  obtain rfl := k110_openM h2
  rw [e]
  simp only [Int.toNat_natCast] at h3 h4
  exact ⟨_, _, h3 0 _ rfl, h3 1 _ rfl, h4 0, h4 1, rfl⟩
/-- An element is written whole. -/
theorem impl_Pair_120.put {w : World} {base g n c j : Nat} {ok : Nat → Prop} {xs : List S110} (HO : Kd.R k110 110 w base ok (.slice (some ⟨g, 0, none⟩) n c) xs) (hj : j < n) (x : S110) : Kd.R k110 110 ((w.setCell ⟨g, j * 2, none⟩ (.int .i64 x.f0)).setCell ⟨g, j * 2 + 1, none⟩ (.int .i64 x.f1)) base ok (.slice (some ⟨g, 0, none⟩) n c) (xs.set j x) := by
  obtain ⟨cs, h1, h2, h3, h4⟩ := Kd.R_elem HO z110 (j : Int) (by omega) (by omega)
  have h := (Kd.R_seg (okp := fun _ => False) HO (j : Int) (by omega) (by omega) (c := cs) (seg := [.int .i64 x.f0, .int .i64 x.f1]) (j := 0) h1 h3 (by exact Nat.le_refl 2) (x' := x) (by
    rw [List.take_zero, List.nil_append, List.drop_of_length_le (by rw [h1]; exact Nat.le_refl 2), List.append_nil]
    exact k110_mkM _ _ _ x) (fun _ h => h.elim)).1
  simp only [Int.toNat_natCast, Nat.add_zero] at h
  exact h
theorem impl_Pair_120.clear {w : World} {g i n c' : Nat} {cur : Array Value} (hh : w.heap[g]? = some (.cells cur 110 (0, 0))) (hi : i < n) (hs : n * 2 ≤ cur.size) :
    (Builtin.clear_ #[32] 0 #[.slice (some ⟨g, i * 2, none⟩) (n - i) c']).run Tryd.prog w = .ok (.tuple #[]) (w.setCells g (i * 2) (List.replicate ((n - i) * 2) (.int .i64 0))) := by
  have hst := run_storeCells_cells (P := Tryd.prog) g (i * 2) (List.replicate ((n - i) * 2) (.int .i64 0)) 0 w (by
    intro j hj
    simp only [List.length_replicate] at hj
    have : i * 2 + 0 + j < cur.size := by omega
    simp only [Nat.add_zero] at this
    simp [World.cell?, hh, this]) (by
    intro j hj
    simp [World.frozen?, hh]) (by
    intro v hv
    rw [List.eq_of_mem_replicate hv]; rfl)
  simp only [Nat.add_zero] at hst
  have hz : ∀ w, (zeroValue 110).run Tryd.prog w = .ok (.agg #[.int .i64 0, .int .i64 0]) w := by
    intro w
    first | (simp [zeroValue]; done) | go_simp
  have hzc : ∀ m, (Builtin.zeroCells (Value.agg #[Value.int IntKind.i64 0, Value.int IntKind.i64 0]).cells m).toList = List.replicate (m * 2) (.int .i64 0) := by
    intro m
    have : (Value.agg #[Value.int IntKind.i64 0, Value.int IntKind.i64 0]).cells = #[Value.int IntKind.i64 0, Value.int IntKind.i64 0] := rfl
    rw [this]
    apply List.ext_getElem
    · simp [Builtin.zeroCells]
    · intro i h1 h2
      have h3 : i % 2 = 0 ∨ i % 2 = 1 := by omega
      rcases h3 with h3 | h3 <;> simp [Builtin.zeroCells, h3]
  obtain ⟨m, hm⟩ : ∃ m, n - i = m + 1 := ⟨n - i - 1, by omega⟩
  rw [hm] at hst ⊢
  simp [Builtin.clear_, run_underlying Tryd.underlying32, hz, hzc, hst]
set_option maxHeartbeats 4000000 in
set_option maxRecDepth 100000 in
theorem impl_Pair_120.calls (base : Nat) (ok : Nat → Prop) (v : Value) (xs : List S110) (p : S110 → Bool) (f : Nat) (lb : Array Value) (w : World) (eg : ∀ args w, (callFunc f args).run Tryd.prog w = .ok (.enter f args) w)
    (HO : Kd.R k110 110 w base ok v xs) (hbase : base ≤ w.heap.size)
    (hp : ∀ (W : World) (x : S110), x ∈ xs → w.heap.size ≤ W.heap.size → (∀ k, k < w.heap.size → some k ≠ v.ownBlock → W.heap[k]? = w.heap[k]?) → Calls Tryd.prog f (#[.agg #[.int .i64 x.f0, .int .i64 x.f1]] ++ lb) W fun e w' => e = .returned (.bool (p x)) ∧ Below W.heap.size W w') :
    Calls Tryd.prog 120 #[v, .func (.func f) #[] lb] w fun e w' => ∃ v0_ : Value, e = .returned (v0_) ∧ Kd.R k110 110 w' base ok v0_ (xs.filter fun x => !p x) ∧ Below base w w' := by
  have hu := Tryd.underlying110
  obtain ⟨A0, c0, rfl⟩ := Kd.R_slice HO
  have HC := Aside0.mk (impl_Pair_134.calls A0 c0 xs p f lb w eg (Kd.R_reads' HO).2.2 (fun W x hx hb => hp W x hx hb.size (fun k hk _ => hb.block k hk)))
  have hlen : xs.length ≤ 9223372036854775807 := (Kd.R_reads' HO).2.2.2.1
  cases hidx : xs.findIdx? p with
  | none =>
    have HC2 := HC.out
    simp only [impl_Pair_134.idx, hidx] at HC2
    have HN := Aside0.mk (show xs.filter (fun x => !p x) = xs from List.filter_eq_self.2 (fun x hx => by simpa using List.findIdx?_eq_none_iff.1 hidx x hx))
    have HO_ := Aside0.mk HO
    have HC3 := Aside0.mk HC2
    clear HO hp HC HC2 hidx
    go_enter Tryd.func120, Tryd.ntmps120
    go_wp2_with (go_at_call 134; refine HC3.out.mono ?_; rintro e w1 ⟨rfl, hb⟩; have HB := Aside0.mk hb; clear hb HC3)
    go_ret
    exact ⟨_, rfl, by rw [HN.out]; exact Kd.R_below HO_.out HB.out, HB.out.mono hbase⟩
  | some kk =>
    have HC2 := HC.out
    simp only [impl_Pair_134.idx, hidx] at HC2
    obtain ⟨hkk, hpk, hbef⟩ := List.findIdx?_eq_some_iff_getElem.1 hidx
    obtain ⟨g, c, hA, hgb, hgl, hcl⟩ := Kd.R_form HO (by omega)
    injection hA with hA1 hA2 hA3
    subst hA1 hA3
    have hf0 : (xs.take kk).filter (fun x => !p x) = xs.take kk := List.filter_eq_self.2 (fun x hx => by
      obtain ⟨j, hj, rfl⟩ := List.mem_take_iff_getElem.1 hx
      simpa using hbef j (by omega))
    have hf1 : (xs.take (kk + 1)).filter (fun x => !p x) = xs.take kk := by
      rw [List.take_succ_eq_append_getElem hkk, List.filter_append, hf0]
      simp [hpk]
    have d1 : ((kk : Int) == -1) = false := beq_eq_false_iff_ne.mpr (by omega)
    obtain ⟨gA, hgA⟩ : ∃ a : Addr, a = ⟨g, 0, none⟩ := ⟨_, rfl⟩
    have HGA := Aside0.mk hgA
    have HF1 := Aside0.mk hf1
    have HO_ := Aside0.mk HO
    have HP := Aside0.mk hp
    rw [← hgA] at HC2
    have HC3 := Aside0.mk HC2
    rw [← hgA]
    clear HO hp HC HC2 hidx hpk hbef hf0 hf1 hcl hgA
    go_enter Tryd.func120, Tryd.ntmps120
    go_wp2_with (go_at_call 134; refine HC3.out.mono ?_; rintro e w1 ⟨rfl, hb⟩; have HB := Aside0.mk hb; clear hb HC3)
    go_loopg [5, 6] xs.length (fun gg s5 s6 wr => ∃ (i j : Nat) (ys : List S110), i < j ∧ j ≤ xs.length ∧ xs.length - j ≤ gg ∧ s5 = .int .i64 (i : Int) ∧ s6 = .int .i64 (j : Int) ∧ Aside0 (Kd.R k110 110 wr base ok (.slice (some ⟨g, 0, none⟩) xs.length c0) ys) ∧ Aside0 (ys.take i = (xs.take j).filter fun x => !p x) ∧ Aside0 (ys.drop j = xs.drop j) ∧ Aside0 (Below base w wr) ∧ Aside0 (w.heap.size ≤ wr.heap.size ∧ ∀ k, k < w.heap.size → k ≠ g → wr.heap[k]? = w.heap[k]?))
    case atStart => exact ⟨kk, kk + 1, xs, by omega, by omega, by omega, rfl, by go_num, ⟨Kd.R_below HO_.out HB.out⟩, ⟨HF1.out.symm⟩, ⟨rfl⟩, ⟨HB.out.mono hbase⟩, ⟨HB.out.size, fun k hk _ => HB.out.block k hk⟩⟩
    case round =>
      obtain ⟨i, j, ys, hij, hj, hg, rfl, rfl, HY, HT, HD, HW, HK⟩ := hrel
      have hyl : ys.length = xs.length := (Kd.R_reads' HY.out).1.symm
      by_cases hlt : j < xs.length
      · have hltz : (j : Int) < (xs.length : Int) := by omega
        obtain ⟨ad, e, hx0, hx1⟩ := at_T110 (Kd.R_reads' HY.out).2.2 (j : Int) (by omega) (by omega)
        rw [← HGA.out] at e
        cases e
        have hget : rd_T110 ys j = xs[j] := by
          have h1 : ys[j]? = xs[j]? := by
            have := congrArg (fun l => l[0]?) HD.out
            simpa [List.getElem?_drop] using this
          simp [rd_T110, List.getD, h1, hlt]
        rw [hget] at hx0 hx1
        simp only [Int.toNat_natCast] at hx0 hx1
        obtain ⟨x, hx⟩ : ∃ x, x = xs[j] := ⟨_, rfl⟩
        rw [← hx] at hx0 hx1
        have HM := Aside0.mk (show x ∈ xs by rw [hx]; exact List.getElem_mem hlt)
        have HTK := Aside0.mk (show (xs.take (j + 1)).filter (fun x => !p x) = (xs.take j).filter (fun x => !p x) ++ if p x = true then [] else [x] by
          rw [List.take_succ_eq_append_getElem hlt, List.filter_append, ← hx]
          cases hq : p x <;> simp [hq])
        clear hx hget
        cases hq : p x with
        | true =>
          go_wp2_with (first
            | ((with_reducible refine gate_dst (N := 7) rfl ?_); refine bxE 7 #[.int .i64 0, .int .i64 0] 110 rfl ?_; intro gv hg w2 hbox hb; have BKv := Aside0.mk hbox; have GEv := Aside0.mk (Nat.le_of_eq hg.symm); have HB2 := Aside0.mk hb; have hcz0 := cz BKv 0; have hcz1 := cz BKv 1; have hfz0 := fz BKv 0; have hfz1 := fz BKv 1; clear hg hbox hb)
            | (go_at_fn f; refine (HP.out _ x HM.out ?h1 ?h2).mono ?_; (case h1 => exact Nat.le_trans HK.out.1 (below_size (below_set (below_set HB2.out GEv.out) GEv.out))); (case h2 => exact fun k hk hne => ((below_set (below_set HB2.out GEv.out) GEv.out).block k (Nat.lt_of_lt_of_le hk HK.out.1)).trans (HK.out.2 k hk (fun e => hne (by rw [e]; rfl)))); rintro e w3 ⟨rfl, hb⟩; rw [hq]; have HB3 := Aside0.mk (below_step (below_set (below_set HB2.out GEv.out) GEv.out) hb); clear hb hcz0 hcz1 hfz0 hfz1))
          go_roundg (xs.length - (j + 1))
          case measure => omega
          case rel => exact ⟨i, j + 1, ys, by omega, by omega, by omega, rfl, by go_num, ⟨Kd.R_below HY.out HB3.out⟩, ⟨by rw [HTK.out, hq, HT.out]; simp⟩, ⟨by rw [← List.drop_drop, ← List.drop_drop, HD.out]⟩, ⟨HW.out.trans (HB3.out.mono (Nat.le_trans hbase HK.out.1))⟩, ⟨Nat.le_trans HK.out.1 HB3.out.size, fun k hk hne => (HB3.out.block k (Nat.lt_of_lt_of_le hk HK.out.1)).trans (HK.out.2 k hk hne)⟩⟩
        | false =>
          go_wp2_with (first
            | ((with_reducible refine gate_dst (N := 7) rfl ?_); refine bxE 7 #[.int .i64 0, .int .i64 0] 110 rfl ?_; intro gv hg w2 hbox hb; have BKv := Aside0.mk hbox; have GEv := Aside0.mk (Nat.le_of_eq hg.symm); have HB2 := Aside0.mk hb; have hcz0 := cz BKv 0; have hcz1 := cz BKv 1; have hfz0 := fz BKv 0; have hfz1 := fz BKv 1; clear hg hbox hb)
            | (go_at_fn f; refine (HP.out _ x HM.out ?h1 ?h2).mono ?_; (case h1 => exact Nat.le_trans HK.out.1 (below_size (below_set (below_set HB2.out GEv.out) GEv.out))); (case h2 => exact fun k hk hne => ((below_set (below_set HB2.out GEv.out) GEv.out).block k (Nat.lt_of_lt_of_le hk HK.out.1)).trans (HK.out.2 k hk (fun e => hne (by rw [e]; rfl)))); rintro e w3 ⟨rfl, hb⟩; rw [hq]; have HB3 := Aside0.mk (below_step (below_set (below_set HB2.out GEv.out) GEv.out) hb); have BK3 := Aside0.mk (blk_below (blk_set (blk_set BKv.out 0 (.int .i64 x.f0)) 1 (.int .i64 x.f1)) hb); clear hb hcz0 hcz1 hfz0 hfz1; have hcy0 : w3.cell? ⟨gv, 0, none⟩ = some (.int .i64 x.f0) := (blk_cell BK3.out 0).trans rfl; have hcy1 : w3.cell? ⟨gv, 1, none⟩ = some (.int .i64 x.f1) := (blk_cell BK3.out 1).trans rfl; obtain ⟨u0, u1, hs0, hs1, hf0, hf1, he⟩ := impl_Pair_120.cell (Kd.R_below HY.out HB3.out) (show i < xs.length by omega) HGA.out; have HE := Aside0.mk he; have hne1 : gA.add (i * 2) ≠ ⟨(gA.add (i * 2)).block, (gA.add (i * 2)).off + 1, none⟩ := (by intro h_; have h2_ := congrArg Addr.off h_; simp only at h2_; omega); have hne2 := Ne.symm hne1; clear he))
          go_roundg (xs.length - (j + 1))
          case measure => omega
          case rel => exact ⟨i + 1, j + 1, ys.set i x, by omega, by omega, by omega, by go_num, by go_num, ⟨by rw [HE.out]; exact impl_Pair_120.put (Kd.R_below HY.out HB3.out) (by omega) x⟩, ⟨by rw [HTK.out, hq, ← HT.out, List.take_succ_eq_append_getElem (by rw [List.length_set]; omega), List.take_set_of_le (Nat.le_refl i)]; simp⟩, ⟨by rw [List.drop_set_of_lt (by omega), ← List.drop_drop, ← List.drop_drop, HD.out]⟩, ⟨by rw [HE.out]; exact ((HW.out.trans (HB3.out.mono (Nat.le_trans hbase HK.out.1))).setCell hgb _).setCell hgb _⟩, ⟨by simpa using Nat.le_trans HK.out.1 HB3.out.size, fun k hk hne => by rw [HE.out, Below.heap_setCell _ _ _ _ hne, Below.heap_setCell _ _ _ _ hne]; exact (HB3.out.block k (Nat.lt_of_lt_of_le hk HK.out.1)).trans (HK.out.2 k hk hne)⟩⟩
      · have hltz : ¬ (j : Int) < (xs.length : Int) := by omega
        obtain ⟨u0, u1, hs0, hs1, hf0, hf1, he⟩ := impl_Pair_120.cell HY.out (show i < xs.length by omega) HGA.out
        obtain ⟨cur, hcur, hsz, hgb2⟩ := impl_Pair_120.block HY.out
        have hncap := (Kd.R_reads' HY.out).2.1
        have hclr := impl_Pair_120.clear (c' := c0 - i) hcur (show i < xs.length by omega) (by rw [hsz]; omega)
        rw [← he] at hclr
        have HE := Aside0.mk he
        clear he hs0 hs1 hf0 hf1
        go_wp2
        go_ret
        refine ⟨_, rfl, ?_, impl_Pair_120.belows hgb _ _ _ _ HW.out⟩
        have h1 := impl_Pair_120.tails (List.replicate ((xs.length - i) * 2) (.int .i64 0)) (i * 2) wr (impl_Pair_120.cut HY.out (show i ≤ xs.length by omega)) (Nat.le_refl _)
        rw [HT.out, List.take_of_length_le (show xs.length ≤ j by omega)] at h1
        show Kd.R k110 110 _ base ok (.slice (some gA) i c0) _
        rw [HGA.out]
        exact h1

/-! ### impl_Party_135: function 135 (a text of this session's own) -/
theorem impl_Party_135.calls (A0 : Option Addr) (c0 : Nat) (l0 : List S34) (p : S34 → Bool) (g : Nat) (lb : Array Value) (w : World) (eg : ∀ args w, (callFunc g args).run Tryd.prog w = .ok (.enter g args) w)
    (hr0 : Kd.C k34 w A0 l0.length l0)
    (hp : ∀ (W : World) (x : S34) (A' : Option Addr) (c' : Nat), x ∈ l0 → x.f1.length ≤ c' → Kd.C k110 W A' x.f1.length x.f1 → Below w.heap.size w W → Calls Tryd.prog g (#[.agg #[.int .i64 x.f0, .slice A' x.f1.length c']] ++ lb) W fun e w' => e = .returned (.bool (p x)) ∧ Below W.heap.size W w') :
    Calls Tryd.prog 135 #[.slice A0 l0.length c0, .func (.func g) #[] lb] w fun e w' => (∃ n, e = .returned (.int .i64 n) ∧ decide (0 ≤ n) = l0.any p) ∧ Below w.heap.size w w' := by
  have hu := Tryd.underlying34
  have HR0 := Aside0.mk hr0
  have hlen : l0.length ≤ 9223372036854775807 := hr0.2.1
  clear hr0
  go_enter Tryd.func135, Tryd.ntmps135
  go_wp2
  go_loopg [8] l0.length (fun gg s8 wr => ∃ kk : Nat, kk ≤ l0.length ∧ l0.length - kk ≤ gg ∧ s8 = .int .i64 kk ∧ Aside0 (Below w.heap.size w wr) ∧ Aside0 ((l0.take kk).any p = false))
  case atStart => exact ⟨0, Nat.zero_le _, by omega, rfl, ⟨Below.refl _ w⟩, ⟨by simp⟩⟩
  case round =>
    obtain ⟨kk, hkk, hg, rfl, BW, AN⟩ := hrel
    by_cases hlt : kk < l0.length
    · have hltz : (kk : Int) < (l0.length : Int) := by omega
      obtain ⟨ad, A1, c1, e, hx0, hx1, hc1, hC1⟩ := at_T34 HR0.out (kk : Int) (by omega) hltz
      cases e
      simp only [Int.toNat_natCast] at hx0 hx1
      replace hx0 := (BW.out.cell (World.block_lt_of_cell? w _ hx0)).trans hx0
      replace hx1 := (BW.out.cell (World.block_lt_of_cell? w _ hx1)).trans hx1
      have hgetx : rd_T34 l0 kk = l0[kk] := by simp [rd_T34, List.getD, hlt]
      have hcall := hp wr (rd_T34 l0 kk) A1 c1 (by rw [hgetx]; exact List.getElem_mem hlt) hc1 (Kd.C_below hC1 BW.out) BW.out
      clear hp hc1 hC1
      have hany : (l0.take (kk + 1)).any p = true → l0.any p = true := fun h => by
        rw [List.any_eq_true] at h ⊢
        obtain ⟨x, hx, hpx⟩ := h
        exact ⟨x, List.mem_of_mem_take hx, hpx⟩
      have HG := Aside0.mk (show (l0.take (kk + 1)).any p = p (rd_T34 l0 kk) by
        rw [hgetx, List.take_succ_eq_append_getElem hlt, List.any_append, AN.out]; simp)
      have HA := Aside0.mk hany
      clear hany hgetx AN
      cases hq : p (rd_T34 l0 kk) with
      | true =>
        rw [hq] at hcall HG
        go_wp2_with (go_at_fn g; refine hcall.mono ?_; rintro e w' ⟨rfl, hb'⟩; have HB' := Aside0.mk hb'; clear hb')
        go_ret
        exact ⟨⟨_, rfl, by rw [HA.out HG.out]; simp⟩, below_step BW.out HB'.out⟩
      | false =>
        rw [hq] at hcall HG
        go_wp2_with (go_at_fn g; refine hcall.mono ?_; rintro e w' ⟨rfl, hb'⟩; have HB' := Aside0.mk hb'; clear hb')
        go_roundg (l0.length - (kk + 1))
        case measure => omega
        case rel => exact ⟨kk + 1, by omega, by omega, by go_num, ⟨below_step BW.out HB'.out⟩, HG⟩
    · have hltz : ¬ (kk : Int) < (l0.length : Int) := by omega
      go_wp2
      go_ret
      have := AN.out
      rw [List.take_of_length_le (by omega)] at this
      exact ⟨⟨_, rfl, by rw [this]; decide⟩, BW.out⟩

/-! ### impl_Party_122: function 122 (a text of this session's own) -/
theorem impl_Party_122.calls (A0 : Option Addr) (c0 : Nat) (l0 : List S34) (p : S34 → Bool) (g : Nat) (lb : Array Value) (w : World) (eg : ∀ args w, (callFunc g args).run Tryd.prog w = .ok (.enter g args) w)
    (hr0 : Kd.C k34 w A0 l0.length l0)
    (hp : ∀ (W : World) (x : S34) (A' : Option Addr) (c' : Nat), x ∈ l0 → x.f1.length ≤ c' → Kd.C k110 W A' x.f1.length x.f1 → Below w.heap.size w W → Calls Tryd.prog g (#[.agg #[.int .i64 x.f0, .slice A' x.f1.length c']] ++ lb) W fun e w' => e = .returned (.bool (p x)) ∧ Below W.heap.size W w') :
    Calls Tryd.prog 122 #[.slice A0 l0.length c0, .func (.func g) #[] lb] w fun e w' => e = .returned (.bool (l0.any p)) ∧ Below w.heap.size w w' := by
  have HC := Aside0.mk (impl_Party_135.calls A0 c0 l0 p g lb w eg hr0 hp)
  clear hr0 hp eg
  go_enter Tryd.func122, Tryd.ntmps122
  go_wp2_with (go_at_call 135; refine HC.out.mono ?_; rintro e w' ⟨⟨n, rfl, hn⟩, hb⟩; have HN := Aside0.mk hn; have HB := Aside0.mk hb; clear hn hb HC)
  go_ret
  exact ⟨by rw [← HN.out]; rfl, HB.out⟩

/-! ### impl_Pair_136: function 136 -/
def impl_Pair_136.l0 : Nat → List (S110) → Int → Int → Int → Int → Option (Int)
 | 0, _, _, _, _, _ => none
 | k + 1, x0, x7, x8, x547000, x547001 => if x8 < x7 then (if 0 ≤ x8 then (if x8 < (x0.length : Int) then (if (x547000 == ((rd_T110 x0 x8).f0) && (x547001 == ((rd_T110 x0 x8).f1))) = true then (some x8) else (impl_Pair_136.l0 k x0 x7 (wrap64 (x8 + 1)) x547000 x547001)) else (none)) else (none)) else (some (-1))
def impl_Pair_136.f (k : Nat) (l0 : List (S110)) (a1_0 : Int) (a1_1 : Int) : Option (Int) := impl_Pair_136.l0 k l0 (l0.length : Int) 0 a1_0 a1_1
theorem impl_Pair_136.mono_l : ∀ k, (∀ y0 y1 y2 y3 y4, LeO (impl_Pair_136.l0 k y0 y1 y2 y3 y4) (impl_Pair_136.l0 (k + 1) y0 y1 y2 y3 y4))
 | 0 => fun _ _ _ _ _ r h => by simp [impl_Pair_136.l0] at h
 | k + 1 => by
  have ih0 := impl_Pair_136.mono_l k
  ·intro y0 y1 y2 y3 y4
   unfold impl_Pair_136.l0
   repeat' first
   | (with_reducible exact ih0 _ _ _ _ _)
   | (with_reducible exact LeO.refl _)
   | (with_reducible exact LeO.none _)
   | (with_reducible refine LeO.ite ?_ ?_)
   | (with_reducible refine LeO.bind ?_ (fun _ => ?_))
   | exact ih0 _ _ _ _ _
   | exact LeO.none _
   | refine LeO.ite ?_ ?_
   | refine LeO.bind ?_ (fun _ => ?_)
theorem impl_Pair_136.mono : ∀ a0 a1 a2 k, LeO (impl_Pair_136.f k a0 a1 a2) (impl_Pair_136.f (k + 1) a0 a1 a2) := by
 intro a0 a1 a2 k
 have ih0 := impl_Pair_136.mono_l k
 unfold impl_Pair_136.f
 repeat' first
   | (with_reducible exact ih0 _ _ _ _ _)
   | (with_reducible exact LeO.refl _)
   | (with_reducible exact LeO.none _)
   | (with_reducible refine LeO.ite ?_ ?_)
   | (with_reducible refine LeO.bind ?_ (fun _ => ?_))
   | exact ih0 _ _ _ _ _
   | exact LeO.none _
   | refine LeO.ite ?_ ?_
   | refine LeO.bind ?_ (fun _ => ?_)
set_option maxHeartbeats 8000000 in
set_option maxRecDepth 100000 in
theorem impl_Pair_136.calls (k : Nat) (A0 : Option Addr) (c0 : Nat) (l0 : List (S110)) (a1_0 : Int) (a1_1 : Int) (r : Int) (w : World) (hr0 : Kd.C k110 w A0 l0.length l0) (hc0 : l0.length ≤ c0) (h : impl_Pair_136.f k l0 a1_0 a1_1 = some r) :
  Calls Tryd.prog 136 #[.slice A0 l0.length c0, .agg #[.int .i64 a1_0, .int .i64 a1_1]] w fun e w' => e = .returned (.int .i64 r) ∧ Below w.heap.size w w' := by
 have hu110 := Tryd.underlying110
 have HR0 := Aside0.mk hr0
 have HC0 := Aside0.mk hc0
 clear hr0 hc0
 have HB := Aside0.mk (Below.refl w.heap.size w)
 have H : (impl_Pair_136.l0 k l0 (l0.length : Int) 0 a1_0 a1_1) = some r := h
 clear h
 have H' := Aside0.mk H
 clear H
 go_enter Tryd.func136, Tryd.ntmps136
 go_wp2_with (first | ((with_reducible refine gate_dst (N := 3) rfl ?_); refine bxE 3 #[.int .i64 a1_0, .int .i64 a1_1] 110 rfl ?_; intro gb546 hg w3 hbox hb; have BK546 := Aside0.mk (hbox); have GW546 := gS HB hg; have GE546 := gS HB hg; replace HB := hS HB hb; clear hb hbox hg))
 repeat (go_quiet (first | ((with_reducible refine gate_dst (N := 3) rfl ?_); refine bxE 3 #[.int .i64 a1_0, .int .i64 a1_1] 110 rfl ?_; intro gb546 hg w3 hbox hb; have BK546 := Aside0.mk (hbox); have GW546 := gS HB hg; have GE546 := gS HB hg; replace HB := hS HB hb; clear hb hbox hg)); try go_wp2_with (first | ((with_reducible refine gate_dst (N := 3) rfl ?_); refine bxE 3 #[.int .i64 a1_0, .int .i64 a1_1] 110 rfl ?_; intro gb546 hg w3 hbox hb; have BK546 := Aside0.mk (hbox); have GW546 := gS HB hg; have GE546 := gS HB hg; replace HB := hS HB hb; clear hb hbox hg)))
 go_loopg [8] k (fun kq v8 w' => ∃ (x8_1 : Int), v8 = .int .i64 x8_1 ∧ Aside0 (impl_Pair_136.l0 kq l0 (l0.length : Int) x8_1 a1_0 a1_1 = some r) ∧ Aside0 (kq ≤ k) ∧ Aside0 (w'.heap[gb546]? = some (.cells #[.int .i64 a1_0, .int .i64 a1_1] 110 (0, 0))) ∧ Aside0 (Below w.heap.size w w'))
 case atStart => exact ⟨(0), (by first | rfl | (simp; done) | (simp [*]; done)), H', ⟨Nat.le_refl _⟩, ⟨bK⟩, ⟨hB⟩⟩
 case round =>
  clear H'
  try clear c1
  try clear p2
  obtain ⟨x8_1, rfl, HA, HK1, BK546, HB⟩ := hrel
  cases gk with
  | zero => exact absurd HA.out (by simp [impl_Pair_136.l0])
  | succ k1 =>
   have H := HA.out
   clear HA
   simp only [impl_Pair_136.l0] at H
   by_cases c4 : x8_1 < (l0.length : Int)
   ·rw [if_pos c4] at H
    have c4b0 : decide (x8_1 < (l0.length : Int)) = true := decide_eq_true c4
    clear c4
    by_cases c5 : 0 ≤ x8_1
    ·rw [if_pos c5] at H
     have c5b0 : decide (0 ≤ x8_1) = true := decide_eq_true c5
     clear c5
     by_cases c6 : x8_1 < (l0.length : Int)
     ·rw [if_pos c6] at H
      have c6b0 : decide (x8_1 < (l0.length : Int)) = true := decide_eq_true c6
      clear c6
      by_cases c7 : (a1_0 == ((rd_T110 l0 x8_1).f0) && (a1_1 == ((rd_T110 l0 x8_1).f1))) = true
      ·rw [if_pos c7] at H
       have c7b0 : (a1_0 == ((rd_T110 l0 x8_1).f0) && (a1_1 == ((rd_T110 l0 x8_1).f1))) = true := c7
       (try (have c7b1 : decide (a1_0 = ((rd_T110 l0 x8_1).f0) && (a1_1 == ((rd_T110 l0 x8_1).f1))) = true := by simpa using c7))
       (try (have c7b2 : (a1_0 == ((rd_T110 l0 x8_1).f0) && (a1_1 == ((rd_T110 l0 x8_1).f1))) = true := by simpa using c7))
       clear c7
       obtain rfl := Option.some.inj H
       have hcz8_0 := cz BK546 0
       have hcz8_1 := cz BK546 1
       have hfz8_0 := fz BK546 0
       have hfz8_1 := fz BK546 1
       have p547 : 0 ≤ (x8_1 : Int) := of_decide_eq_true (by first | (with_reducible assumption) | assumption)
       have q547 : x8_1 < (l0.length : Int) := of_decide_eq_true (by first | (with_reducible assumption) | assumption)
       obtain ⟨ad547, e547, hx547_0, hx547_1⟩ := at_T110 HR0.out x8_1 p547 q547
       cases e547
       replace hx547_0 := (HB.out.cell (World.block_lt_of_cell? w _ hx547_0)).trans hx547_0
       replace hx547_1 := (HB.out.cell (World.block_lt_of_cell? w _ hx547_1)).trans hx547_1
       replace p547 := eq_true p547
       replace q547 := eq_true q547
       go_wp2
       repeat (go_quiet (fail); try go_wp2)
       go_ret
       exact ⟨by first | rfl | (simp [errW_none, errW_some] <;> rfl) | (simp [*, errW_none, errW_some] <;> rfl), hB⟩
      ·rw [if_neg c7] at H
       have c7b0 : (a1_0 == ((rd_T110 l0 x8_1).f0) && (a1_1 == ((rd_T110 l0 x8_1).f1))) = false := by simpa using c7
       (try (have c7b1 : decide (a1_0 = ((rd_T110 l0 x8_1).f0) && (a1_1 == ((rd_T110 l0 x8_1).f1))) = false := by simpa using c7))
       (try (have c7b2 : (a1_0 == ((rd_T110 l0 x8_1).f0) && (a1_1 == ((rd_T110 l0 x8_1).f1))) = false := by simpa using c7))
       (try (have c7b3 : ¬ (a1_0 = ((rd_T110 l0 x8_1).f0) && (a1_1 == ((rd_T110 l0 x8_1).f1))) := by simpa using c7))
       clear c7
       have H' := Aside0.mk H
       clear H
       have hcz9_0 := cz BK546 0
       have hcz9_1 := cz BK546 1
       have hfz9_0 := fz BK546 0
       have hfz9_1 := fz BK546 1
       have p547 : 0 ≤ (x8_1 : Int) := of_decide_eq_true (by first | (with_reducible assumption) | assumption)
       have q547 : x8_1 < (l0.length : Int) := of_decide_eq_true (by first | (with_reducible assumption) | assumption)
       obtain ⟨ad547, e547, hx547_0, hx547_1⟩ := at_T110 HR0.out x8_1 p547 q547
       cases e547
       replace hx547_0 := (HB.out.cell (World.block_lt_of_cell? w _ hx547_0)).trans hx547_0
       replace hx547_1 := (HB.out.cell (World.block_lt_of_cell? w _ hx547_1)).trans hx547_1
       replace p547 := eq_true p547
       replace q547 := eq_true q547
       go_wp2
       repeat (go_quiet (fail); try go_wp2)
       go_roundg k1
       case measure => have := HK1.out; omega
       case rel => exact ⟨(wrap64 (x8_1 + 1)), (by first | rfl | (simp; done) | (simp [*]; done)), H', ⟨by have := HK1.out; omega⟩, ⟨bK⟩, ⟨hB⟩⟩
     ·rw [if_neg c6] at H
      exact absurd H (by simp)
    ·rw [if_neg c5] at H
     exact absurd H (by simp)
   ·rw [if_neg c4] at H
    have c4b0 : decide (x8_1 < (l0.length : Int)) = false := decide_eq_false c4
    clear c4
    obtain rfl := Option.some.inj H
    go_wp2
    repeat (go_quiet (fail); try go_wp2)
    go_ret
    exact ⟨by first | rfl | (simp [errW_none, errW_some] <;> rfl) | (simp [*, errW_none, errW_some] <;> rfl), hB⟩

/-! ### impl_Pair_124: function 124 -/
def impl_Pair_124.f (k : Nat) (l0 : List (S110)) (a1_0 : Int) (a1_1 : Int) : Option (Bool) := (impl_Pair_136.f k l0 a1_0 a1_1).bind fun t549 => (some (decide (t549 ≥ 0)))
theorem impl_Pair_124.mono : ∀ a0 a1 a2 k, LeO (impl_Pair_124.f k a0 a1 a2) (impl_Pair_124.f (k + 1) a0 a1 a2) := by
 intro a0 a1 a2 k
 unfold impl_Pair_124.f
 repeat' first
   | (with_reducible exact impl_Pair_136.mono _ _ _ _)
   | (with_reducible exact LeO.refl _)
   | (with_reducible exact LeO.none _)
   | (with_reducible refine LeO.ite ?_ ?_)
   | (with_reducible refine LeO.bind ?_ (fun _ => ?_))
   | exact impl_Pair_136.mono _ _ _ _
   | exact LeO.none _
   | refine LeO.ite ?_ ?_
   | refine LeO.bind ?_ (fun _ => ?_)
set_option maxHeartbeats 8000000 in
set_option maxRecDepth 100000 in
theorem impl_Pair_124.calls (k : Nat) (A0 : Option Addr) (c0 : Nat) (l0 : List (S110)) (a1_0 : Int) (a1_1 : Int) (r : Bool) (w : World) (hr0 : Kd.C k110 w A0 l0.length l0) (hc0 : l0.length ≤ c0) (h : impl_Pair_124.f k l0 a1_0 a1_1 = some r) :
  Calls Tryd.prog 124 #[.slice A0 l0.length c0, .agg #[.int .i64 a1_0, .int .i64 a1_1]] w fun e w' => e = .returned (.bool r) ∧ Below w.heap.size w w' := by
 have hu110 := Tryd.underlying110
 have HR0 := Aside0.mk hr0
 have HC0 := Aside0.mk hc0
 clear hr0 hc0
 have HB := Aside0.mk (Below.refl w.heap.size w)
 have H : ((impl_Pair_136.f k l0 a1_0 a1_1).bind fun t549 => (some (decide (t549 ≥ 0)))) = some r := h
 clear h
 replace H := Option.bind_eq_some_iff.mp H
 obtain ⟨t549, A30, H⟩ := H
 replace H : (some (decide (t549 ≥ 0))) = some r := H
 have A3 := Aside0.mk A30
 clear A30
 obtain rfl := Option.some.inj H
 go_enter Tryd.func124, Tryd.ntmps124
 go_wp2_with (first | ((with_reducible refine gate_dst (N := 3) rfl ?_); refine bxE 3 #[.int .i64 a1_0, .int .i64 a1_1] 110 rfl ?_; intro gb548 hg w4 hbox hb; have BK548 := Aside0.mk (hbox); have GW548 := gS HB hg; have GE548 := gS HB hg; replace HB := hS HB hb; clear hb hbox hg; have hcz5_0 := cz BK548 0; have hcz5_1 := cz BK548 1; have hfz5_0 := fz BK548 0; have hfz5_1 := fz BK548 1) | ((with_reducible refine gate_callee (f := 136) rfl ?_); refine goC (N := some 7) Tryd.func136 #[.slice A0 l0.length c0, .agg #[.int .i64 a1_0, .int .i64 a1_1]] rfl ?_; (with_reducible refine (impl_Pair_136.calls k _ _ l0 a1_0 a1_1 t549 _ ?side1 ?side2 A3.out).mono ?_); (case side1 => exact cS (Kd.C_below HR0.out HB.out)); (case side2 => exact HC0.out); rintro e w6 ⟨rfl, hb⟩; refine ⟨_, rfl, ?_⟩; replace BK548 := bS BK548 hb; replace HB := hS HB hb; (try clear hb); (try clear hb2); (try clear hk); (try clear hi)))
 go_ret
 exact ⟨by first | rfl | (simp [errW_none, errW_some] <;> rfl) | (simp [*, errW_none, errW_some] <;> rfl), hB⟩

/-! ### impl_sure_1_1: function 123 (a text of this session's own) -/
def impl_sure_1_1.T1 : Bool × List (List Nat × List Nat) := (true, [([], []), ([0], [0]), ([], []), ([1, 2], [1, 2]), ([], []), ([3, 4], [3, 4]), ([5, 3, 0, 1, 2, 3, 4, 5], [5])])
def impl_sure_1_1.B1 : List Nat := [0, 1, 0, 7, 0, 31, 63]
theorem impl_sure_1_1.tab1 : rtab .any (opsOf Tryd.f123 1) = impl_sure_1_1.T1 := by kernel_rfl
theorem impl_sure_1_1.bits1 : waitsOk impl_sure_1_1.T1.2 impl_sure_1_1.B1 = true := by kernel_rfl
set_option maxHeartbeats 4000000 in
set_option maxRecDepth 100000 in
theorem impl_sure_1_1.calls (k : Nat) (x : S110) (fr : Bool) (gx gf : Nat) (n : Int) (A : Option Addr) (c : Nat) (l : List S110) (r : Bool) (W : World) (hx0 : W.cell? ⟨gx, 0, none⟩ = some (.int .i64 x.f0)) (hx1 : W.cell? ⟨gx, 1, none⟩ = some (.int .i64 x.f1)) (hf : W.cell? ⟨gf, 0, none⟩ = some (.bool fr))
    (hr : Kd.C k110 W A l.length l) (hc : l.length ≤ c) (h : impl_Pair_124.f k l x.f0 x.f1 = some r) :
    Calls Tryd.prog 123 #[.agg #[.int .i64 n, .slice A l.length c], .pointer (some ⟨gx, 0, none⟩), .pointer (some ⟨gf, 0, none⟩)] W fun e w' => e = .returned (.bool (r != fr)) ∧ Below W.heap.size W w' := by
  have hu := Tryd.underlying34
  have hu2 := Tryd.underlying110
  have HX := Aside0.mk (And.intro hx0 (And.intro hx1 hf))
  have HR := Aside0.mk hr
  have HC := Aside0.mk hc
  have HH := Aside0.mk h
  clear hx0 hx1 hf hr hc h
  go_enter Tryd.func123, Tryd.ntmps123
  go_wp2_with ((with_reducible refine gate_dst (N := 3) rfl ?_); refine bxE 3 #[.int .i64 n, .slice A l.length c] 34 rfl ?_; intro gp hg w2 hbox hb; have BKp := Aside0.mk hbox; have HB := Aside0.mk hb; clear hg hbox hb)
  have SW := Aside0.mk (fun (W' : World) (hb : Below w2.heap.size w2 W') => (⟨pw_cell_below hb ((blk_cell BKp.out 1).trans rfl), pw_cell_below hb (pw_cell_below HB.out HX.out.1), pw_cell_below hb (pw_cell_below HB.out HX.out.2.1), pw_cell_below hb (pw_cell_below HB.out HX.out.2.2)⟩ : (fun w' : World => w'.cell? ⟨gp, 1, none⟩ = some (.slice A l.length c) ∧ w'.cell? ⟨gx, 0, none⟩ = some (.int .i64 x.f0) ∧ w'.cell? ⟨gx, 1, none⟩ = some (.int .i64 x.f1) ∧ w'.cell? ⟨gf, 0, none⟩ = some (.bool fr)) W'))
  refine start_ (n := 7) (S := fun w' => w'.cell? ⟨gp, 1, none⟩ = some (.slice A l.length c) ∧ w'.cell? ⟨gx, 0, none⟩ = some (.int .i64 x.f0) ∧ w'.cell? ⟨gx, 1, none⟩ = some (.int .i64 x.f1) ∧ w'.cell? ⟨gf, 0, none⟩ = some (.bool fr)) (ds := []) (bz 7 0) (by kernel_rfl) rfl rfl (SW.out _ (below_drew (Below.refl _ _))) (fun hHeld => ?_)
  refine with_tabW impl_sure_1_1.tab1 impl_sure_1_1.bits1 (fun HT_ HW_ => ?_)
  have HBd := Aside0.mk (below_drew (Below.refl w2.heap.size w2))
  generalize w2.drew = w3 at HBd hHeld ⊢
  refine run_ [(0, 0, 1, some 5), (1, 1, 3, some 6), (1, 2, 7, some 7), (1, 4, 23, some 9)] ?_
  repeat (first | (apply tag0; refine run_p (v := ?_) (a' := ?_) rfl rfl (any_of HT_.out (by kernel_rfl)) (fun _ _ _ h => h) (by rfl) ?_ ?_ ?_; rotate_left 2; (intro w'; go_simp; with_reducible rfl); (first | (simp only [Act.put, List.setIfInBounds_toArray, List.set_cons_zero, List.set_cons_succ, i64_w, i32_w]; rfl) | rfl)) | (apply tag1; refine run_t (v := ?_) (a' := ?_) rfl rfl (take_ofW HT_.out HW_.out (by kernel_rfl)) (fun _ _ _ h => h) (by rfl) ?_ hHeld ?_ ?_; rotate_left 2; (rintro w' ⟨s0, s1, s2, s3⟩; go_simp; with_reducible rfl); (first | (simp only [Act.put, List.setIfInBounds_toArray, List.set_cons_zero, List.set_cons_succ, i64_w, i32_w]; rfl) | rfl)))
  refine run_nil ?_
  refine one_ (i := 3) (N := some 8) (bz 7 31) rfl rfl (one_of HT_.out (by kernel_rfl)) (by decide) (fun K hK => ?_)
  refine goes_ Tryd.func124 (by kernel_rfl) rfl #[.slice A l.length c, .agg #[.int .i64 x.f0, .int .i64 x.f1]] (by rfl) rfl rfl mapT ?_
  refine (impl_Pair_124.calls k A c l x.f0 x.f1 r _ (Kd.C_below (Kd.C_below HR.out HB.out) HBd.out) HC.out HH.out).mono ?_
  rintro e w4 ⟨rfl, hb⟩
  refine ⟨_, rfl, ?_⟩
  have HB4 := Aside0.mk (below_step HBd.out hb)
  clear hb
  refine hK.out _ _ (SW.out _ HB4.out) (fun hHeld4 => ?_)
  clear hK K
  refine norm_ (a' := ?_) ?_ ?_
  rotate_left
  · show Act.put _ (some 8) _ = _
    simp only [Act.put, List.setIfInBounds_toArray, List.set_cons_zero, List.set_cons_succ, i64_w, i32_w]
    rfl
  refine run_ [(0, 5, 63, some 10), (0, 6, 127, some 4)] ?_
  repeat (apply tag0; refine run_p (v := ?_) (a' := ?_) rfl rfl (any_of HT_.out (by kernel_rfl)) (fun _ _ _ h => h) (by rfl) ?_ ?_ ?_; rotate_left 2; (intro w'; go_simp; with_reducible rfl); (first | (simp only [Act.put, List.setIfInBounds_toArray, List.set_cons_zero, List.set_cons_succ, i64_w, i32_w]; rfl) | rfl))
  refine run_nil ?_
  refine done_ (done_of HT_.out (by kernel_rfl)) ?_
  go_wp2
  go_ret
  exact ⟨rfl, below_step HB.out HB4.out⟩

end Go.Proofs.YtdnkipagpagfiaaDoor.PSol3
