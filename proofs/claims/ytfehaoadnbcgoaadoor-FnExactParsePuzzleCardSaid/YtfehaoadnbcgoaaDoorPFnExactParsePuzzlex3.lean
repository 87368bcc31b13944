-- Of this session's own program wip/gen/gen.py (it drives the kit's print): contracts of the functions that the law reaches.
import Derived.Test.YtfehaoadnbcgoaaDoorPFnExactParsePuzzlex0
import Derived.Test.YtfehaoadnbcgoaaDoorPFnExactParsePuzzlex2
namespace Go.Proofs.YtfehaoadnbcgoaaDoor.PFnExactParsePuzzle
open Go.RowKit Go.Proofs.YtfehaoadnbcgoaaDoorW.PrintWords Go.Proofs.YtfehaoadnbcgoaaDoorW.PrintLast Go.Proofs.YtfehaoadnbcgoaaDoorW.PrintMore Go.Proofs.YtfehaoadnbcgoaaDoor.Base
attribute [local go_sem] max2_int min2_int max_two min_two max_three min_three max_four min_four   -- for this text's walks alone
set_option linter.unusedVariables false
set_option linter.unusedSimpArgs false

/-! ### spec_pzText: function 86 -/
def spec_pzText.l0 : Nat → ByteArray → List (S89) → Int → Int → Option (ByteArray)
 | 0, _, _, _, _ => none
 | k + 1, x3, x11, x12, x13 => if x13 < x12 then (if 0 ≤ x13 then (if x13 < (x11.length : Int) then (if x13 > 0 then (if x3.size + 1 ≤ 9223372036854775807 then ((spec_l1Num.f k ((rd_T89 x11 x13).f0)).bind fun t133 => (if t133.size + 1 ≤ 9223372036854775807 then ((spec_l1Num.f k ((rd_T89 x11 x13).f1)).bind fun t134 => (if (t133 ++ (⟨#[46]⟩ : ByteArray)).size + t134.size ≤ 9223372036854775807 then (if ((t133 ++ (⟨#[46]⟩ : ByteArray)) ++ t134).size + 1 ≤ 9223372036854775807 then ((spec_l1Num.f k ((rd_T89 x11 x13).f2)).bind fun t135 => (if (((t133 ++ (⟨#[46]⟩ : ByteArray)) ++ t134) ++ (⟨#[46]⟩ : ByteArray)).size + t135.size ≤ 9223372036854775807 then (if (x3 ++ (⟨#[44]⟩ : ByteArray)).size + ((((t133 ++ (⟨#[46]⟩ : ByteArray)) ++ t134) ++ (⟨#[46]⟩ : ByteArray)) ++ t135).size ≤ 9223372036854775807 then (spec_pzText.l0 k ((x3 ++ (⟨#[44]⟩ : ByteArray)) ++ ((((t133 ++ (⟨#[46]⟩ : ByteArray)) ++ t134) ++ (⟨#[46]⟩ : ByteArray)) ++ t135)) x11 x12 (wrap64 (x13 + 1))) else (none)) else (none))) else (none)) else (none))) else (none))) else (none)) else ((spec_l1Num.f k ((rd_T89 x11 x13).f0)).bind fun t136 => (if t136.size + 1 ≤ 9223372036854775807 then ((spec_l1Num.f k ((rd_T89 x11 x13).f1)).bind fun t137 => (if (t136 ++ (⟨#[46]⟩ : ByteArray)).size + t137.size ≤ 9223372036854775807 then (if ((t136 ++ (⟨#[46]⟩ : ByteArray)) ++ t137).size + 1 ≤ 9223372036854775807 then ((spec_l1Num.f k ((rd_T89 x11 x13).f2)).bind fun t138 => (if (((t136 ++ (⟨#[46]⟩ : ByteArray)) ++ t137) ++ (⟨#[46]⟩ : ByteArray)).size + t138.size ≤ 9223372036854775807 then (if x3.size + ((((t136 ++ (⟨#[46]⟩ : ByteArray)) ++ t137) ++ (⟨#[46]⟩ : ByteArray)) ++ t138).size ≤ 9223372036854775807 then (spec_pzText.l0 k (x3 ++ ((((t136 ++ (⟨#[46]⟩ : ByteArray)) ++ t137) ++ (⟨#[46]⟩ : ByteArray)) ++ t138)) x11 x12 (wrap64 (x13 + 1))) else (none)) else (none))) else (none)) else (none))) else (none)))) else (none)) else (none)) else (some x3)
def spec_pzText.f (k : Nat) (a0_0 : Int) (l0_1 : List (S89)) : Option (ByteArray) := (spec_l1Num.f k a0_0).bind fun t130 => (if t130.size + 1 ≤ 9223372036854775807 then (spec_pzText.l0 k (t130 ++ (⟨#[58]⟩ : ByteArray)) l0_1 (l0_1.length : Int) 0) else (none))
theorem spec_pzText.mono_l : ∀ k, (∀ y0 y1 y2 y3, LeO (spec_pzText.l0 k y0 y1 y2 y3) (spec_pzText.l0 (k + 1) y0 y1 y2 y3))
 | 0 => fun _ _ _ _ r h => by simp [spec_pzText.l0] at h
 | k + 1 => by
  have ih0 := spec_pzText.mono_l k
  ·intro y0 y1 y2 y3
   unfold spec_pzText.l0
   repeat' first
   | (with_reducible exact ih0 _ _ _ _)
   | (with_reducible exact spec_l1Num.mono _ _)
   | (with_reducible exact LeO.refl _)
   | (with_reducible exact LeO.none _)
   | (with_reducible refine LeO.ite ?_ ?_)
   | (with_reducible refine LeO.bind ?_ (fun _ => ?_))
   | exact ih0 _ _ _ _
   | exact spec_l1Num.mono _ _
   | exact LeO.none _
   | refine LeO.ite ?_ ?_
   | refine LeO.bind ?_ (fun _ => ?_)
theorem spec_pzText.mono : ∀ a0 a1 k, LeO (spec_pzText.f k a0 a1) (spec_pzText.f (k + 1) a0 a1) := by
 intro a0 a1 k
 have ih0 := spec_pzText.mono_l k
 unfold spec_pzText.f
 repeat' first
   | (with_reducible exact ih0 _ _ _ _)
   | (with_reducible exact spec_l1Num.mono _ _)
   | (with_reducible exact LeO.refl _)
   | (with_reducible exact LeO.none _)
   | (with_reducible refine LeO.ite ?_ ?_)
   | (with_reducible refine LeO.bind ?_ (fun _ => ?_))
   | exact ih0 _ _ _ _
   | exact spec_l1Num.mono _ _
   | exact LeO.none _
   | refine LeO.ite ?_ ?_
   | refine LeO.bind ?_ (fun _ => ?_)
def spec_pzText.T7 : Bool × List (List Nat × List Nat) := (true, [([], []), ([], []), ([1], [1]), ([2], [2]), ([3], [3]), ([], []), ([5], [5]), ([6, 3], [6]), ([4, 7], [4, 7]), ([8], [8]), ([], []), ([10], [10]), ([11, 7], [11]), ([9, 12], [9, 12]), ([0, 13], [0, 13]), ([14, 12, 0, 1, 2, 3, 4, 5, 6, 7, 8, 9, 10, 11, 12, 13, 14], [0, 14])])
def spec_pzText.B7 : List Nat := [0, 0, 2, 6, 14, 0, 32, 110, 254, 510, 0, 1024, 3310, 8190, 16383, 32767]
theorem spec_pzText.tab7 : rtab .any (opsOf Tryd.f86 7) = spec_pzText.T7 := by kernel_rfl
theorem spec_pzText.bits7 : waitsOk spec_pzText.T7.2 spec_pzText.B7 = true := by kernel_rfl
set_option maxHeartbeats 8000000 in
set_option maxRecDepth 100000 in
theorem spec_pzText.calls (k : Nat) (a0_0 : Int) (A0_1 : Option Addr) (c0_1 : Nat) (l0_1 : List (S89)) (r : ByteArray) (w : World) (hr0_1 : Kd.C k89 w A0_1 l0_1.length l0_1) (hc0_1 : l0_1.length ≤ c0_1) (h : spec_pzText.f k a0_0 l0_1 = some r) :
  Calls Tryd.prog 86 #[.agg #[.int .i64 a0_0, .slice A0_1 l0_1.length c0_1]] w fun e w' => e = .returned (.string r) ∧ Below w.heap.size w w' := by
 have hu53 := Tryd.underlying53
 have hu89 := Tryd.underlying89
 have HR0_1 := Aside0.mk hr0_1
 have HC0_1 := Aside0.mk hc0_1
 clear hr0_1 hc0_1
 have HB := Aside0.mk (Below.refl w.heap.size w)
 have H : ((spec_l1Num.f k a0_0).bind fun t130 => (if t130.size + 1 ≤ 9223372036854775807 then (spec_pzText.l0 k (t130 ++ (⟨#[58]⟩ : ByteArray)) l0_1 (l0_1.length : Int) 0) else (none))) = some r := h
 clear h
 replace H := Option.bind_eq_some_iff.mp H
 obtain ⟨t130, A20, H⟩ := H
 try dsimp only at H
 have A2 := Aside0.mk A20
 clear A20
 by_cases c3 : t130.size + 1 ≤ 9223372036854775807
 ·rw [if_pos c3] at H
  have c3b0 := eq_true c3
  have c3b1 : decide (t130.size + 1 ≤ 9223372036854775807) = true := decide_eq_true c3
  try have c3b2 : (9223372036854775807 < t130.size + 1) = False := eq_false (Nat.not_lt.2 c3)
  have H' := Aside0.mk H
  clear H
  go_enter Tryd.func86, Tryd.ntmps86
  go_wp2_with (first | ((with_reducible refine gate_dst (N := 1) rfl ?_); refine bxE 1 #[.int .i64 a0_0, .slice A0_1 l0_1.length c0_1] 53 rfl ?_; intro gb129 hg w4 hbox hb; have BK129 := Aside0.mk (hbox); have GW129 := gS HB hg; have GE129 := gS HB hg; replace HB := hS HB hb; clear hb hbox hg; have hcz5_0 := cz BK129 0; have hcz5_1 := cz BK129 1; have hfz5_0 := fz BK129 0; have hfz5_1 := fz BK129 1) | ((with_reducible refine gate_callee (f := 109) rfl ?_); refine goC (N := some 8) Tryd.func109 #[.int .i64 a0_0] rfl ?_; (with_reducible refine (spec_l1Num.calls k a0_0 t130 _ A2.out).mono ?_); rintro e w6 ⟨rfl, hb⟩; refine ⟨_, rfl, ?_⟩; replace BK129 := bS BK129 hb; replace HB := hS HB hb; (try clear hb); (try clear hb2); (try clear hk); (try clear hi); have hcz7_0 := cz BK129 0; have hcz7_1 := cz BK129 1; have hfz7_0 := fz BK129 0; have hfz7_1 := fz BK129 1))
  go_loopg [3, 13] k (fun kq v3 v13 w' => ∃ (x3_1 : ByteArray) (x13_1 : Int), v3 = .string x3_1 ∧ v13 = .int .i64 x13_1 ∧ Aside0 (spec_pzText.l0 kq x3_1 l0_1 (l0_1.length : Int) x13_1 = some r) ∧ Aside0 (kq ≤ k) ∧ Aside0 (w'.heap[gb129]? = some (.cells #[.int .i64 a0_0, (.slice A0_1 l0_1.length c0_1)] 53 (0, 0))) ∧ Aside0 (Below w.heap.size w w'))
  case atStart => exact ⟨(t130 ++ (⟨#[58]⟩ : ByteArray)), (0), (by first | rfl | (simp; done) | (simp [*]; done)), (by first | rfl | (simp; done) | (simp [*]; done)), H', ⟨Nat.le_refl _⟩, ⟨bK⟩, ⟨hB⟩⟩
  case round =>
   clear H'
   try clear c1
   try clear p2
   try clear c3
   try clear c3b0
   try clear c3b1
   try clear c3b2
   try clear hcz5_0
   try clear hcz5_1
   try clear hcz7_0
   try clear hcz7_1
   try clear hfz5_0
   try clear hfz5_1
   try clear hfz7_0
   try clear hfz7_1
   obtain ⟨x3_1, x13_1, rfl, rfl, HA, HK1, BK129, HB⟩ := hrel
   cases gk with
   | zero => exact absurd HA.out (by simp [spec_pzText.l0])
   | succ k1 =>
    have H := HA.out
    clear HA
    simp only [spec_pzText.l0] at H
    by_cases c8 : x13_1 < (l0_1.length : Int)
    ·rw [if_pos c8] at H
     have c8b0 : decide (x13_1 < (l0_1.length : Int)) = true := decide_eq_true c8
     clear c8
     by_cases c9 : 0 ≤ x13_1
     ·rw [if_pos c9] at H
      have c9b0 : decide (0 ≤ x13_1) = true := decide_eq_true c9
      clear c9
      by_cases c10 : x13_1 < (l0_1.length : Int)
      ·rw [if_pos c10] at H
       have c10b0 : decide (x13_1 < (l0_1.length : Int)) = true := decide_eq_true c10
       clear c10
       by_cases c11 : x13_1 > 0
       ·rw [if_pos c11] at H
        have c11b0 : decide (0 < x13_1) = true := decide_eq_true c11
        clear c11
        by_cases c12 : x3_1.size + 1 ≤ 9223372036854775807
        ·rw [if_pos c12] at H
         have c12b0 := eq_true c12
         have c12b1 : decide (x3_1.size + 1 ≤ 9223372036854775807) = true := decide_eq_true c12
         try have c12b2 : (9223372036854775807 < x3_1.size + 1) = False := eq_false (Nat.not_lt.2 c12)
         replace H := Option.bind_eq_some_iff.mp H
         obtain ⟨t133, A130, H⟩ := H
         try dsimp only at H
         have A13 := Aside0.mk A130
         clear A130
         by_cases c14 : t133.size + 1 ≤ 9223372036854775807
         ·rw [if_pos c14] at H
          have c14b0 := eq_true c14
          have c14b1 : decide (t133.size + 1 ≤ 9223372036854775807) = true := decide_eq_true c14
          try have c14b2 : (9223372036854775807 < t133.size + 1) = False := eq_false (Nat.not_lt.2 c14)
          replace H := Option.bind_eq_some_iff.mp H
          obtain ⟨t134, A150, H⟩ := H
          try dsimp only at H
          have A15 := Aside0.mk A150
          clear A150
          by_cases c16 : (t133 ++ (⟨#[46]⟩ : ByteArray)).size + t134.size ≤ 9223372036854775807
          ·rw [if_pos c16] at H
           have c16b0 := eq_true c16
           have c16b1 : decide ((t133 ++ (⟨#[46]⟩ : ByteArray)).size + t134.size ≤ 9223372036854775807) = true := decide_eq_true c16
           try have c16b2 : (9223372036854775807 < (t133 ++ (⟨#[46]⟩ : ByteArray)).size + t134.size) = False := eq_false (Nat.not_lt.2 c16)
           have c16m : ¬ (9223372036854775807 < (t133 ++ (⟨#[46]⟩ : ByteArray)).size + t134.size) := Nat.not_lt.2 c16
           simp only [ByteArray.size_append, bsz1] at c16m
           replace c16m := eq_false c16m
           by_cases c17 : ((t133 ++ (⟨#[46]⟩ : ByteArray)) ++ t134).size + 1 ≤ 9223372036854775807
           ·rw [if_pos c17] at H
            have c17b0 := eq_true c17
            have c17b1 : decide (((t133 ++ (⟨#[46]⟩ : ByteArray)) ++ t134).size + 1 ≤ 9223372036854775807) = true := decide_eq_true c17
            try have c17b2 : (9223372036854775807 < ((t133 ++ (⟨#[46]⟩ : ByteArray)) ++ t134).size + 1) = False := eq_false (Nat.not_lt.2 c17)
            have c17m : ¬ (9223372036854775807 < ((t133 ++ (⟨#[46]⟩ : ByteArray)) ++ t134).size + 1) := Nat.not_lt.2 c17
            simp only [ByteArray.size_append, bsz1] at c17m
            replace c17m := eq_false c17m
            replace H := Option.bind_eq_some_iff.mp H
            obtain ⟨t135, A180, H⟩ := H
            try dsimp only at H
            have A18 := Aside0.mk A180
            clear A180
            by_cases c19 : (((t133 ++ (⟨#[46]⟩ : ByteArray)) ++ t134) ++ (⟨#[46]⟩ : ByteArray)).size + t135.size ≤ 9223372036854775807
            ·rw [if_pos c19] at H
             have c19b0 := eq_true c19
             have c19b1 : decide ((((t133 ++ (⟨#[46]⟩ : ByteArray)) ++ t134) ++ (⟨#[46]⟩ : ByteArray)).size + t135.size ≤ 9223372036854775807) = true := decide_eq_true c19
             try have c19b2 : (9223372036854775807 < (((t133 ++ (⟨#[46]⟩ : ByteArray)) ++ t134) ++ (⟨#[46]⟩ : ByteArray)).size + t135.size) = False := eq_false (Nat.not_lt.2 c19)
             have c19m : ¬ (9223372036854775807 < (((t133 ++ (⟨#[46]⟩ : ByteArray)) ++ t134) ++ (⟨#[46]⟩ : ByteArray)).size + t135.size) := Nat.not_lt.2 c19
             simp only [ByteArray.size_append, bsz1] at c19m
             replace c19m := eq_false c19m
             by_cases c20 : (x3_1 ++ (⟨#[44]⟩ : ByteArray)).size + ((((t133 ++ (⟨#[46]⟩ : ByteArray)) ++ t134) ++ (⟨#[46]⟩ : ByteArray)) ++ t135).size ≤ 9223372036854775807
             ·rw [if_pos c20] at H
              have c20b0 := eq_true c20
              have c20b1 : decide ((x3_1 ++ (⟨#[44]⟩ : ByteArray)).size + ((((t133 ++ (⟨#[46]⟩ : ByteArray)) ++ t134) ++ (⟨#[46]⟩ : ByteArray)) ++ t135).size ≤ 9223372036854775807) = true := decide_eq_true c20
              try have c20b2 : (9223372036854775807 < (x3_1 ++ (⟨#[44]⟩ : ByteArray)).size + ((((t133 ++ (⟨#[46]⟩ : ByteArray)) ++ t134) ++ (⟨#[46]⟩ : ByteArray)) ++ t135).size) = False := eq_false (Nat.not_lt.2 c20)
              have c20m : ¬ (9223372036854775807 < (x3_1 ++ (⟨#[44]⟩ : ByteArray)).size + ((((t133 ++ (⟨#[46]⟩ : ByteArray)) ++ t134) ++ (⟨#[46]⟩ : ByteArray)) ++ t135).size) := Nat.not_lt.2 c20
              simp only [ByteArray.size_append, bsz1] at c20m
              replace c20m := eq_false c20m
              have H' := Aside0.mk H
              clear H
              have p131 : 0 ≤ (x13_1 : Int) := of_decide_eq_true (by first | (with_reducible assumption) | assumption)
              have q131 : x13_1 < (l0_1.length : Int) := of_decide_eq_true (by first | (with_reducible assumption) | assumption)
              obtain ⟨ad131, e131, hx131_0, hx131_1, hx131_2⟩ := at_T89 HR0_1.out x13_1 p131 q131
              cases e131
              replace hx131_0 := (HB.out.cell (World.block_lt_of_cell? w _ hx131_0)).trans hx131_0
              replace hx131_1 := (HB.out.cell (World.block_lt_of_cell? w _ hx131_1)).trans hx131_1
              replace hx131_2 := (HB.out.cell (World.block_lt_of_cell? w _ hx131_2)).trans hx131_2
              replace p131 := eq_true p131
              replace q131 := eq_true q131
              try go_wp2_with (first | ((with_reducible refine gate_dst (N := 5) rfl ?_); refine bxE 5 #[.int .i64 0, .int .i64 0, .int .i64 0] 89 rfl ?_; intro gb132 hg w21 hbox hb; have BK132 := Aside0.mk (hbox); have GW132 := gS HB hg; have GE132 := gS HB hg; have NB129_132 := nL BK129 hg; have NB132_129 := nG BK129 hg; replace BK129 := bS BK129 hb; replace HB := hS HB hb; clear hb hbox hg; have hnb22 := NB132_129.out; have hnc22 := NB129_132.out; have hcz23_0 := cz BK132 0; have hcz23_1 := cz BK132 1; have hcz23_2 := cz BK132 2; have hfz23_0 := fz BK132 0; have hfz23_1 := fz BK132 1; have hfz23_2 := fz BK132 2))
              have n0_ : Aside0 ((((w21.setCell ⟨gb132, 0, none⟩ (.int .i64 ((rd_T89 l0_1 x13_1).f0))).setCell ⟨gb132, 1, none⟩ (.int .i64 ((rd_T89 l0_1 x13_1).f1))).setCell ⟨gb132, 2, none⟩ (.int .i64 ((rd_T89 l0_1 x13_1).f2))).heap[gb129]? = some (.cells #[.int .i64 a0_0, .slice (some ad131) l0_1.length c0_1] 53 (0, 0))) := ⟨by (with_reducible repeat (first | refine blk_drewN ?_ _ | refine blk_drew ?_ | refine blk_alloc ?_ _)); refine blk_far ?_ NB129_132.out _; (with_reducible repeat (first | refine blk_drewN ?_ _ | refine blk_drew ?_ | refine blk_alloc ?_ _)); refine blk_far ?_ NB129_132.out _; (with_reducible repeat (first | refine blk_drewN ?_ _ | refine blk_drew ?_ | refine blk_alloc ?_ _)); refine blk_far ?_ NB129_132.out _; (with_reducible repeat (first | refine blk_drewN ?_ _ | refine blk_drew ?_ | refine blk_alloc ?_ _)); exact BK129.out⟩
              have n1_ : Aside0 ((((w21.setCell ⟨gb132, 0, none⟩ (.int .i64 ((rd_T89 l0_1 x13_1).f0))).setCell ⟨gb132, 1, none⟩ (.int .i64 ((rd_T89 l0_1 x13_1).f1))).setCell ⟨gb132, 2, none⟩ (.int .i64 ((rd_T89 l0_1 x13_1).f2))).heap[gb132]? = some (.cells #[.int .i64 ((rd_T89 l0_1 x13_1).f0), .int .i64 ((rd_T89 l0_1 x13_1).f1), .int .i64 ((rd_T89 l0_1 x13_1).f2)] 89 (0, 0))) := ⟨by (with_reducible repeat (first | refine blk_drewN ?_ _ | refine blk_drew ?_ | refine blk_alloc ?_ _)); refine blk_put (cs := #[.int .i64 ((rd_T89 l0_1 x13_1).f0), .int .i64 ((rd_T89 l0_1 x13_1).f1), .int .i64 0]) ?_ 2 _ rfl; (with_reducible repeat (first | refine blk_drewN ?_ _ | refine blk_drew ?_ | refine blk_alloc ?_ _)); refine blk_put (cs := #[.int .i64 ((rd_T89 l0_1 x13_1).f0), .int .i64 0, .int .i64 0]) ?_ 1 _ rfl; (with_reducible repeat (first | refine blk_drewN ?_ _ | refine blk_drew ?_ | refine blk_alloc ?_ _)); refine blk_put (cs := #[.int .i64 0, .int .i64 0, .int .i64 0]) ?_ 0 _ rfl; (with_reducible repeat (first | refine blk_drewN ?_ _ | refine blk_drew ?_ | refine blk_alloc ?_ _)); exact BK132.out⟩
              have n2_ : Aside0 (Below w.heap.size w (((w21.setCell ⟨gb132, 0, none⟩ (.int .i64 ((rd_T89 l0_1 x13_1).f0))).setCell ⟨gb132, 1, none⟩ (.int .i64 ((rd_T89 l0_1 x13_1).f1))).setCell ⟨gb132, 2, none⟩ (.int .i64 ((rd_T89 l0_1 x13_1).f2)))) := ⟨hB⟩
              (try clear BK129)
              (try clear BK132)
              (try clear HB)
              generalize (((w21.setCell ⟨gb132, 0, none⟩ (.int .i64 ((rd_T89 l0_1 x13_1).f0))).setCell ⟨gb132, 1, none⟩ (.int .i64 ((rd_T89 l0_1 x13_1).f1))).setCell ⟨gb132, 2, none⟩ (.int .i64 ((rd_T89 l0_1 x13_1).f2))) = w24 at n0_ n1_ n2_ ⊢
              have BK129 := n0_
              have BK132 := n1_
              have HB := n2_
              clear n0_ n1_ n2_
              replace BK129 := Aside0.mk (blk_drew BK129.out)
              replace BK132 := Aside0.mk (blk_drew BK132.out)
              replace HB := Aside0.mk (below_drew1 HB.out)
              refine start_ (n := 16) (S := fun w' => w'.cell? ⟨gb132, 0, none⟩ = some (.int .i64 ((rd_T89 l0_1 x13_1).f0)) ∧ w'.cell? ⟨gb132, 1, none⟩ = some (.int .i64 ((rd_T89 l0_1 x13_1).f1)) ∧ w'.cell? ⟨gb132, 2, none⟩ = some (.int .i64 ((rd_T89 l0_1 x13_1).f2))) (ds := []) (bz 16 0) (by kernel_rfl) rfl rfl ⟨(blk_cell BK132.out 0).trans rfl, (blk_cell BK132.out 1).trans rfl, (blk_cell BK132.out 2).trans rfl⟩ (fun hHeld => ?_); refine with_tabW spec_pzText.tab7 spec_pzText.bits7 (fun HT_ HW_ => ?_)
              generalize w24.drew = w25 at BK129 BK132 HB hHeld ⊢
              refine run_ [(0, 0, 1, some 22), (0, 1, 3, some 23), (0, 5, 35, some 27), (0, 10, 1059, some 32), (1, 2, 1063, some 24), (1, 6, 1127, some 28), (1, 11, 3175, some 33)] ?_
              repeat (first | (apply tag0; refine run_p (v := ?_) (a' := ?_) rfl rfl (any_of HT_.out (by kernel_rfl)) (fun _ _ _ h => h) (by rfl) ?_ ?_ ?_; rotate_left 2; (intro w'; go_simp; with_reducible rfl); (first | (simp only [Act.put, List.setIfInBounds_toArray, List.set_cons_zero, List.set_cons_succ, i64_w, i32_w]; rfl) | rfl)) | (apply tag1; refine run_t (v := ?_) (a' := ?_) rfl rfl (take_ofW HT_.out HW_.out (by kernel_rfl)) (fun _ _ _ h => h) (by rfl) ?_ hHeld ?_ ?_; rotate_left 2; (rintro w' ⟨s0, s1, s2⟩; go_simp; with_reducible rfl); (first | (simp only [Act.put, List.setIfInBounds_toArray, List.set_cons_zero, List.set_cons_succ, i64_w, i32_w]; rfl) | rfl)))
              refine run_nil ?_
              refine one_ (i := 3) (N := some 25) (bz 16 3183) rfl rfl (one_of HT_.out (by kernel_rfl)) (by decide) (fun K hK => ?_)
              refine goes_ Tryd.func109 (by kernel_rfl) rfl #[.int .i64 ((rd_T89 l0_1 x13_1).f0)] (by rfl) rfl rfl mapT ?_
              with_reducible refine (spec_l1Num.calls k1 ((rd_T89 l0_1 x13_1).f0) t133 _ A13.out).mono ?_
              rintro e w26 ⟨rfl, hb⟩
              refine ⟨_, rfl, ?_⟩
              replace BK129 := bS BK129 hb
              replace BK132 := bS BK132 hb
              replace HB := hS HB hb
              (try clear hb)
              (try clear hb2)
              (try clear hk)
              (try clear hi)
              refine hK.out _ _ ⟨(blk_cell BK132.out 0).trans rfl, (blk_cell BK132.out 1).trans rfl, (blk_cell BK132.out 2).trans rfl⟩ (fun hHeld => ?_)
              clear hK K
              refine norm_ (a' := ?_) ?_ ?_
              rotate_left
              ·show Act.put _ (some 25) _ = _
               simp only [Act.put, List.setIfInBounds_toArray, List.set_cons_zero, List.set_cons_succ, i64_w, i32_w]
               rfl
              refine run_ [(0, 4, 3199, some 26)] ?_
              repeat ((apply tag0; refine run_p (v := ?_) (a' := ?_) rfl rfl (any_of HT_.out (by kernel_rfl)) (fun _ _ _ h => h) (by rfl) ?_ ?_ ?_; rotate_left 2; (intro w'; go_simp; with_reducible rfl); (first | (simp only [Act.put, List.setIfInBounds_toArray, List.set_cons_zero, List.set_cons_succ, i64_w, i32_w]; rfl) | rfl)))
              refine run_nil ?_
              refine one_ (i := 7) (N := some 29) (bz 16 3327) rfl rfl (one_of HT_.out (by kernel_rfl)) (by decide) (fun K hK => ?_)
              refine goes_ Tryd.func109 (by kernel_rfl) rfl #[.int .i64 ((rd_T89 l0_1 x13_1).f1)] (by rfl) rfl rfl mapT ?_
              with_reducible refine (spec_l1Num.calls k1 ((rd_T89 l0_1 x13_1).f1) t134 _ A15.out).mono ?_
              rintro e w27 ⟨rfl, hb⟩
              refine ⟨_, rfl, ?_⟩
              replace BK129 := bS BK129 hb
              replace BK132 := bS BK132 hb
              replace HB := hS HB hb
              (try clear hb)
              (try clear hb2)
              (try clear hk)
              (try clear hi)
              refine hK.out _ _ ⟨(blk_cell BK132.out 0).trans rfl, (blk_cell BK132.out 1).trans rfl, (blk_cell BK132.out 2).trans rfl⟩ (fun hHeld => ?_)
              clear hK K
              refine norm_ (a' := ?_) ?_ ?_
              rotate_left
              ·show Act.put _ (some 29) _ = _
               simp only [Act.put, List.setIfInBounds_toArray, List.set_cons_zero, List.set_cons_succ, i64_w, i32_w]
               rfl
              refine run_ [(0, 8, 3583, some 30), (0, 9, 4095, some 31)] ?_
              repeat ((apply tag0; refine run_p (v := ?_) (a' := ?_) rfl rfl (any_of HT_.out (by kernel_rfl)) (fun _ _ _ h => h) (by rfl) ?_ ?_ ?_; rotate_left 2; (intro w'; go_simp; with_reducible rfl); (first | (simp only [Act.put, List.setIfInBounds_toArray, List.set_cons_zero, List.set_cons_succ, i64_w, i32_w]; rfl) | rfl)))
              refine run_nil ?_
              refine one_ (i := 12) (N := some 34) (bz 16 8191) rfl rfl (one_of HT_.out (by kernel_rfl)) (by decide) (fun K hK => ?_)
              refine goes_ Tryd.func109 (by kernel_rfl) rfl #[.int .i64 ((rd_T89 l0_1 x13_1).f2)] (by rfl) rfl rfl mapT ?_
              with_reducible refine (spec_l1Num.calls k1 ((rd_T89 l0_1 x13_1).f2) t135 _ A18.out).mono ?_
              rintro e w28 ⟨rfl, hb⟩
              refine ⟨_, rfl, ?_⟩
              replace BK129 := bS BK129 hb
              replace BK132 := bS BK132 hb
              replace HB := hS HB hb
              (try clear hb)
              (try clear hb2)
              (try clear hk)
              (try clear hi)
              refine hK.out _ _ ⟨(blk_cell BK132.out 0).trans rfl, (blk_cell BK132.out 1).trans rfl, (blk_cell BK132.out 2).trans rfl⟩ (fun hHeld => ?_)
              clear hK K
              refine norm_ (a' := ?_) ?_ ?_
              rotate_left
              ·show Act.put _ (some 34) _ = _
               simp only [Act.put, List.setIfInBounds_toArray, List.set_cons_zero, List.set_cons_succ, i64_w, i32_w]
               rfl
              refine run_ [(0, 13, 16383, some 35), (0, 14, 32767, some 36), (0, 15, 65535, some 3)] ?_
              repeat ((apply tag0; refine run_p (v := ?_) (a' := ?_) rfl rfl (any_of HT_.out (by kernel_rfl)) (fun _ _ _ h => h) (by rfl) ?_ ?_ ?_; rotate_left 2; (intro w'; go_simp; with_reducible rfl); (first | (simp only [Act.put, List.setIfInBounds_toArray, List.set_cons_zero, List.set_cons_succ, i64_w, i32_w]; rfl) | rfl)))
              refine run_nil ?_
              refine done_ (done_of HT_.out (by kernel_rfl)) ?_
              try go_wp2
              go_roundg k1
              case measure => have := HK1.out; omega
              case rel => exact ⟨((x3_1 ++ (⟨#[44]⟩ : ByteArray)) ++ ((((t133 ++ (⟨#[46]⟩ : ByteArray)) ++ t134) ++ (⟨#[46]⟩ : ByteArray)) ++ t135)), (wrap64 (x13_1 + 1)), (by first | rfl | (simp; done) | (simp [*]; done)), (by first | rfl | (simp; done) | (simp [*]; done)), H', ⟨by have := HK1.out; omega⟩, ⟨bK⟩, ⟨hB⟩⟩
             ·rw [if_neg c20] at H
              exact absurd H (by simp)
            ·rw [if_neg c19] at H
             exact absurd H (by simp)
           ·rw [if_neg c17] at H
            exact absurd H (by simp)
          ·rw [if_neg c16] at H
           exact absurd H (by simp)
         ·rw [if_neg c14] at H
          exact absurd H (by simp)
        ·rw [if_neg c12] at H
         exact absurd H (by simp)
       ·rw [if_neg c11] at H
        have c11b0 : decide (0 < x13_1) = false := decide_eq_false c11
        clear c11
        replace H := Option.bind_eq_some_iff.mp H
        obtain ⟨t136, A290, H⟩ := H
        try dsimp only at H
        have A29 := Aside0.mk A290
        clear A290
        by_cases c30 : t136.size + 1 ≤ 9223372036854775807
        ·rw [if_pos c30] at H
         have c30b0 := eq_true c30
         have c30b1 : decide (t136.size + 1 ≤ 9223372036854775807) = true := decide_eq_true c30
         try have c30b2 : (9223372036854775807 < t136.size + 1) = False := eq_false (Nat.not_lt.2 c30)
         replace H := Option.bind_eq_some_iff.mp H
         obtain ⟨t137, A310, H⟩ := H
         try dsimp only at H
         have A31 := Aside0.mk A310
         clear A310
         by_cases c32 : (t136 ++ (⟨#[46]⟩ : ByteArray)).size + t137.size ≤ 9223372036854775807
         ·rw [if_pos c32] at H
          have c32b0 := eq_true c32
          have c32b1 : decide ((t136 ++ (⟨#[46]⟩ : ByteArray)).size + t137.size ≤ 9223372036854775807) = true := decide_eq_true c32
          try have c32b2 : (9223372036854775807 < (t136 ++ (⟨#[46]⟩ : ByteArray)).size + t137.size) = False := eq_false (Nat.not_lt.2 c32)
          have c32m : ¬ (9223372036854775807 < (t136 ++ (⟨#[46]⟩ : ByteArray)).size + t137.size) := Nat.not_lt.2 c32
          simp only [ByteArray.size_append, bsz1] at c32m
          replace c32m := eq_false c32m
          by_cases c33 : ((t136 ++ (⟨#[46]⟩ : ByteArray)) ++ t137).size + 1 ≤ 9223372036854775807
          ·rw [if_pos c33] at H
           have c33b0 := eq_true c33
           have c33b1 : decide (((t136 ++ (⟨#[46]⟩ : ByteArray)) ++ t137).size + 1 ≤ 9223372036854775807) = true := decide_eq_true c33
           try have c33b2 : (9223372036854775807 < ((t136 ++ (⟨#[46]⟩ : ByteArray)) ++ t137).size + 1) = False := eq_false (Nat.not_lt.2 c33)
           have c33m : ¬ (9223372036854775807 < ((t136 ++ (⟨#[46]⟩ : ByteArray)) ++ t137).size + 1) := Nat.not_lt.2 c33
           simp only [ByteArray.size_append, bsz1] at c33m
           replace c33m := eq_false c33m
           replace H := Option.bind_eq_some_iff.mp H
           obtain ⟨t138, A340, H⟩ := H
           try dsimp only at H
           have A34 := Aside0.mk A340
           clear A340
           by_cases c35 : (((t136 ++ (⟨#[46]⟩ : ByteArray)) ++ t137) ++ (⟨#[46]⟩ : ByteArray)).size + t138.size ≤ 9223372036854775807
           ·rw [if_pos c35] at H
            have c35b0 := eq_true c35
            have c35b1 : decide ((((t136 ++ (⟨#[46]⟩ : ByteArray)) ++ t137) ++ (⟨#[46]⟩ : ByteArray)).size + t138.size ≤ 9223372036854775807) = true := decide_eq_true c35
            try have c35b2 : (9223372036854775807 < (((t136 ++ (⟨#[46]⟩ : ByteArray)) ++ t137) ++ (⟨#[46]⟩ : ByteArray)).size + t138.size) = False := eq_false (Nat.not_lt.2 c35)
            have c35m : ¬ (9223372036854775807 < (((t136 ++ (⟨#[46]⟩ : ByteArray)) ++ t137) ++ (⟨#[46]⟩ : ByteArray)).size + t138.size) := Nat.not_lt.2 c35
            simp only [ByteArray.size_append, bsz1] at c35m
            replace c35m := eq_false c35m
            by_cases c36 : x3_1.size + ((((t136 ++ (⟨#[46]⟩ : ByteArray)) ++ t137) ++ (⟨#[46]⟩ : ByteArray)) ++ t138).size ≤ 9223372036854775807
            ·rw [if_pos c36] at H
             have c36b0 := eq_true c36
             have c36b1 : decide (x3_1.size + ((((t136 ++ (⟨#[46]⟩ : ByteArray)) ++ t137) ++ (⟨#[46]⟩ : ByteArray)) ++ t138).size ≤ 9223372036854775807) = true := decide_eq_true c36
             try have c36b2 : (9223372036854775807 < x3_1.size + ((((t136 ++ (⟨#[46]⟩ : ByteArray)) ++ t137) ++ (⟨#[46]⟩ : ByteArray)) ++ t138).size) = False := eq_false (Nat.not_lt.2 c36)
             have c36m : ¬ (9223372036854775807 < x3_1.size + ((((t136 ++ (⟨#[46]⟩ : ByteArray)) ++ t137) ++ (⟨#[46]⟩ : ByteArray)) ++ t138).size) := Nat.not_lt.2 c36
             simp only [ByteArray.size_append, bsz1] at c36m
             replace c36m := eq_false c36m
             have H' := Aside0.mk H
             clear H
             have p131 : 0 ≤ (x13_1 : Int) := of_decide_eq_true (by first | (with_reducible assumption) | assumption)
             have q131 : x13_1 < (l0_1.length : Int) := of_decide_eq_true (by first | (with_reducible assumption) | assumption)
             obtain ⟨ad131, e131, hx131_0, hx131_1, hx131_2⟩ := at_T89 HR0_1.out x13_1 p131 q131
             cases e131
             replace hx131_0 := (HB.out.cell (World.block_lt_of_cell? w _ hx131_0)).trans hx131_0
             replace hx131_1 := (HB.out.cell (World.block_lt_of_cell? w _ hx131_1)).trans hx131_1
             replace hx131_2 := (HB.out.cell (World.block_lt_of_cell? w _ hx131_2)).trans hx131_2
             replace p131 := eq_true p131
             replace q131 := eq_true q131
             try go_wp2_with (first | ((with_reducible refine gate_dst (N := 5) rfl ?_); refine bxE 5 #[.int .i64 0, .int .i64 0, .int .i64 0] 89 rfl ?_; intro gb132 hg w37 hbox hb; have BK132 := Aside0.mk (hbox); have GW132 := gS HB hg; have GE132 := gS HB hg; have NB129_132 := nL BK129 hg; have NB132_129 := nG BK129 hg; replace BK129 := bS BK129 hb; replace HB := hS HB hb; clear hb hbox hg; have hnb38 := NB132_129.out; have hnc38 := NB129_132.out; have hcz39_0 := cz BK132 0; have hcz39_1 := cz BK132 1; have hcz39_2 := cz BK132 2; have hfz39_0 := fz BK132 0; have hfz39_1 := fz BK132 1; have hfz39_2 := fz BK132 2))
             have n0_ : Aside0 ((((w37.setCell ⟨gb132, 0, none⟩ (.int .i64 ((rd_T89 l0_1 x13_1).f0))).setCell ⟨gb132, 1, none⟩ (.int .i64 ((rd_T89 l0_1 x13_1).f1))).setCell ⟨gb132, 2, none⟩ (.int .i64 ((rd_T89 l0_1 x13_1).f2))).heap[gb129]? = some (.cells #[.int .i64 a0_0, .slice (some ad131) l0_1.length c0_1] 53 (0, 0))) := ⟨by (with_reducible repeat (first | refine blk_drewN ?_ _ | refine blk_drew ?_ | refine blk_alloc ?_ _)); refine blk_far ?_ NB129_132.out _; (with_reducible repeat (first | refine blk_drewN ?_ _ | refine blk_drew ?_ | refine blk_alloc ?_ _)); refine blk_far ?_ NB129_132.out _; (with_reducible repeat (first | refine blk_drewN ?_ _ | refine blk_drew ?_ | refine blk_alloc ?_ _)); refine blk_far ?_ NB129_132.out _; (with_reducible repeat (first | refine blk_drewN ?_ _ | refine blk_drew ?_ | refine blk_alloc ?_ _)); exact BK129.out⟩
             have n1_ : Aside0 ((((w37.setCell ⟨gb132, 0, none⟩ (.int .i64 ((rd_T89 l0_1 x13_1).f0))).setCell ⟨gb132, 1, none⟩ (.int .i64 ((rd_T89 l0_1 x13_1).f1))).setCell ⟨gb132, 2, none⟩ (.int .i64 ((rd_T89 l0_1 x13_1).f2))).heap[gb132]? = some (.cells #[.int .i64 ((rd_T89 l0_1 x13_1).f0), .int .i64 ((rd_T89 l0_1 x13_1).f1), .int .i64 ((rd_T89 l0_1 x13_1).f2)] 89 (0, 0))) := ⟨by (with_reducible repeat (first | refine blk_drewN ?_ _ | refine blk_drew ?_ | refine blk_alloc ?_ _)); refine blk_put (cs := #[.int .i64 ((rd_T89 l0_1 x13_1).f0), .int .i64 ((rd_T89 l0_1 x13_1).f1), .int .i64 0]) ?_ 2 _ rfl; (with_reducible repeat (first | refine blk_drewN ?_ _ | refine blk_drew ?_ | refine blk_alloc ?_ _)); refine blk_put (cs := #[.int .i64 ((rd_T89 l0_1 x13_1).f0), .int .i64 0, .int .i64 0]) ?_ 1 _ rfl; (with_reducible repeat (first | refine blk_drewN ?_ _ | refine blk_drew ?_ | refine blk_alloc ?_ _)); refine blk_put (cs := #[.int .i64 0, .int .i64 0, .int .i64 0]) ?_ 0 _ rfl; (with_reducible repeat (first | refine blk_drewN ?_ _ | refine blk_drew ?_ | refine blk_alloc ?_ _)); exact BK132.out⟩
             have n2_ : Aside0 (Below w.heap.size w (((w37.setCell ⟨gb132, 0, none⟩ (.int .i64 ((rd_T89 l0_1 x13_1).f0))).setCell ⟨gb132, 1, none⟩ (.int .i64 ((rd_T89 l0_1 x13_1).f1))).setCell ⟨gb132, 2, none⟩ (.int .i64 ((rd_T89 l0_1 x13_1).f2)))) := ⟨hB⟩
             (try clear BK129)
             (try clear BK132)
             (try clear HB)
             generalize (((w37.setCell ⟨gb132, 0, none⟩ (.int .i64 ((rd_T89 l0_1 x13_1).f0))).setCell ⟨gb132, 1, none⟩ (.int .i64 ((rd_T89 l0_1 x13_1).f1))).setCell ⟨gb132, 2, none⟩ (.int .i64 ((rd_T89 l0_1 x13_1).f2))) = w40 at n0_ n1_ n2_ ⊢
             have BK129 := n0_
             have BK132 := n1_
             have HB := n2_
             clear n0_ n1_ n2_
             replace BK129 := Aside0.mk (blk_drew BK129.out)
             replace BK132 := Aside0.mk (blk_drew BK132.out)
             replace HB := Aside0.mk (below_drew1 HB.out)
             refine start_ (n := 16) (S := fun w' => w'.cell? ⟨gb132, 0, none⟩ = some (.int .i64 ((rd_T89 l0_1 x13_1).f0)) ∧ w'.cell? ⟨gb132, 1, none⟩ = some (.int .i64 ((rd_T89 l0_1 x13_1).f1)) ∧ w'.cell? ⟨gb132, 2, none⟩ = some (.int .i64 ((rd_T89 l0_1 x13_1).f2))) (ds := []) (bz 16 0) (by kernel_rfl) rfl rfl ⟨(blk_cell BK132.out 0).trans rfl, (blk_cell BK132.out 1).trans rfl, (blk_cell BK132.out 2).trans rfl⟩ (fun hHeld => ?_); refine with_tabW spec_pzText.tab7 spec_pzText.bits7 (fun HT_ HW_ => ?_)
             generalize w40.drew = w41 at BK129 BK132 HB hHeld ⊢
             refine run_ [(0, 0, 1, some 22), (0, 1, 3, some 23), (0, 5, 35, some 27), (0, 10, 1059, some 32), (1, 2, 1063, some 24), (1, 6, 1127, some 28), (1, 11, 3175, some 33)] ?_
             repeat (first | (apply tag0; refine run_p (v := ?_) (a' := ?_) rfl rfl (any_of HT_.out (by kernel_rfl)) (fun _ _ _ h => h) (by rfl) ?_ ?_ ?_; rotate_left 2; (intro w'; go_simp; with_reducible rfl); (first | (simp only [Act.put, List.setIfInBounds_toArray, List.set_cons_zero, List.set_cons_succ, i64_w, i32_w]; rfl) | rfl)) | (apply tag1; refine run_t (v := ?_) (a' := ?_) rfl rfl (take_ofW HT_.out HW_.out (by kernel_rfl)) (fun _ _ _ h => h) (by rfl) ?_ hHeld ?_ ?_; rotate_left 2; (rintro w' ⟨s0, s1, s2⟩; go_simp; with_reducible rfl); (first | (simp only [Act.put, List.setIfInBounds_toArray, List.set_cons_zero, List.set_cons_succ, i64_w, i32_w]; rfl) | rfl)))
             refine run_nil ?_
             refine one_ (i := 3) (N := some 25) (bz 16 3183) rfl rfl (one_of HT_.out (by kernel_rfl)) (by decide) (fun K hK => ?_)
             refine goes_ Tryd.func109 (by kernel_rfl) rfl #[.int .i64 ((rd_T89 l0_1 x13_1).f0)] (by rfl) rfl rfl mapT ?_
             with_reducible refine (spec_l1Num.calls k1 ((rd_T89 l0_1 x13_1).f0) t136 _ A29.out).mono ?_
             rintro e w42 ⟨rfl, hb⟩
             refine ⟨_, rfl, ?_⟩
             replace BK129 := bS BK129 hb
             replace BK132 := bS BK132 hb
             replace HB := hS HB hb
             (try clear hb)
             (try clear hb2)
             (try clear hk)
             (try clear hi)
             refine hK.out _ _ ⟨(blk_cell BK132.out 0).trans rfl, (blk_cell BK132.out 1).trans rfl, (blk_cell BK132.out 2).trans rfl⟩ (fun hHeld => ?_)
             clear hK K
             refine norm_ (a' := ?_) ?_ ?_
             rotate_left
             ·show Act.put _ (some 25) _ = _
              simp only [Act.put, List.setIfInBounds_toArray, List.set_cons_zero, List.set_cons_succ, i64_w, i32_w]
              rfl
             refine run_ [(0, 4, 3199, some 26)] ?_
             repeat ((apply tag0; refine run_p (v := ?_) (a' := ?_) rfl rfl (any_of HT_.out (by kernel_rfl)) (fun _ _ _ h => h) (by rfl) ?_ ?_ ?_; rotate_left 2; (intro w'; go_simp; with_reducible rfl); (first | (simp only [Act.put, List.setIfInBounds_toArray, List.set_cons_zero, List.set_cons_succ, i64_w, i32_w]; rfl) | rfl)))
             refine run_nil ?_
             refine one_ (i := 7) (N := some 29) (bz 16 3327) rfl rfl (one_of HT_.out (by kernel_rfl)) (by decide) (fun K hK => ?_)
             refine goes_ Tryd.func109 (by kernel_rfl) rfl #[.int .i64 ((rd_T89 l0_1 x13_1).f1)] (by rfl) rfl rfl mapT ?_
             with_reducible refine (spec_l1Num.calls k1 ((rd_T89 l0_1 x13_1).f1) t137 _ A31.out).mono ?_
             rintro e w43 ⟨rfl, hb⟩
             refine ⟨_, rfl, ?_⟩
             replace BK129 := bS BK129 hb
             replace BK132 := bS BK132 hb
             replace HB := hS HB hb
             (try clear hb)
             (try clear hb2)
             (try clear hk)
             (try clear hi)
             refine hK.out _ _ ⟨(blk_cell BK132.out 0).trans rfl, (blk_cell BK132.out 1).trans rfl, (blk_cell BK132.out 2).trans rfl⟩ (fun hHeld => ?_)
             clear hK K
             refine norm_ (a' := ?_) ?_ ?_
             rotate_left
             ·show Act.put _ (some 29) _ = _
              simp only [Act.put, List.setIfInBounds_toArray, List.set_cons_zero, List.set_cons_succ, i64_w, i32_w]
              rfl
             refine run_ [(0, 8, 3583, some 30), (0, 9, 4095, some 31)] ?_
             repeat ((apply tag0; refine run_p (v := ?_) (a' := ?_) rfl rfl (any_of HT_.out (by kernel_rfl)) (fun _ _ _ h => h) (by rfl) ?_ ?_ ?_; rotate_left 2; (intro w'; go_simp; with_reducible rfl); (first | (simp only [Act.put, List.setIfInBounds_toArray, List.set_cons_zero, List.set_cons_succ, i64_w, i32_w]; rfl) | rfl)))
             refine run_nil ?_
             refine one_ (i := 12) (N := some 34) (bz 16 8191) rfl rfl (one_of HT_.out (by kernel_rfl)) (by decide) (fun K hK => ?_)
             refine goes_ Tryd.func109 (by kernel_rfl) rfl #[.int .i64 ((rd_T89 l0_1 x13_1).f2)] (by rfl) rfl rfl mapT ?_
             with_reducible refine (spec_l1Num.calls k1 ((rd_T89 l0_1 x13_1).f2) t138 _ A34.out).mono ?_
             rintro e w44 ⟨rfl, hb⟩
             refine ⟨_, rfl, ?_⟩
             replace BK129 := bS BK129 hb
             replace BK132 := bS BK132 hb
             replace HB := hS HB hb
             (try clear hb)
             (try clear hb2)
             (try clear hk)
             (try clear hi)
             refine hK.out _ _ ⟨(blk_cell BK132.out 0).trans rfl, (blk_cell BK132.out 1).trans rfl, (blk_cell BK132.out 2).trans rfl⟩ (fun hHeld => ?_)
             clear hK K
             refine norm_ (a' := ?_) ?_ ?_
             rotate_left
             ·show Act.put _ (some 34) _ = _
              simp only [Act.put, List.setIfInBounds_toArray, List.set_cons_zero, List.set_cons_succ, i64_w, i32_w]
              rfl
             refine run_ [(0, 13, 16383, some 35), (0, 14, 32767, some 36), (0, 15, 65535, some 3)] ?_
             repeat ((apply tag0; refine run_p (v := ?_) (a' := ?_) rfl rfl (any_of HT_.out (by kernel_rfl)) (fun _ _ _ h => h) (by rfl) ?_ ?_ ?_; rotate_left 2; (intro w'; go_simp; with_reducible rfl); (first | (simp only [Act.put, List.setIfInBounds_toArray, List.set_cons_zero, List.set_cons_succ, i64_w, i32_w]; rfl) | rfl)))
             refine run_nil ?_
             refine done_ (done_of HT_.out (by kernel_rfl)) ?_
             try go_wp2
             go_roundg k1
             case measure => have := HK1.out; omega
             case rel => exact ⟨(x3_1 ++ ((((t136 ++ (⟨#[46]⟩ : ByteArray)) ++ t137) ++ (⟨#[46]⟩ : ByteArray)) ++ t138)), (wrap64 (x13_1 + 1)), (by first | rfl | (simp; done) | (simp [*]; done)), (by first | rfl | (simp; done) | (simp [*]; done)), H', ⟨by have := HK1.out; omega⟩, ⟨bK⟩, ⟨hB⟩⟩
            ·rw [if_neg c36] at H
             exact absurd H (by simp)
           ·rw [if_neg c35] at H
            exact absurd H (by simp)
          ·rw [if_neg c33] at H
           exact absurd H (by simp)
         ·rw [if_neg c32] at H
          exact absurd H (by simp)
        ·rw [if_neg c30] at H
         exact absurd H (by simp)
      ·rw [if_neg c10] at H
       exact absurd H (by simp)
     ·rw [if_neg c9] at H
      exact absurd H (by simp)
    ·rw [if_neg c8] at H
     have c8b0 : decide (x13_1 < (l0_1.length : Int)) = false := decide_eq_false c8
     clear c8
     obtain rfl := Option.some.inj H
     go_wp2
     go_ret
     exact ⟨by first | rfl | (simp [errW_none, errW_some] <;> rfl) | (simp [*, errW_none, errW_some] <;> rfl), hB⟩
 ·rw [if_neg c3] at H
  exact absurd H (by simp)

end Go.Proofs.YtfehaoadnbcgoaaDoor.PFnExactParsePuzzle
