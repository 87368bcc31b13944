-- Of this session's own program wip/gen/gen.py (it drives the kit's print): contracts of the functions that the law reaches.
import Derived.LoopIn
import Derived.LoopNIn
import Derived.OwnWalkIn
import Derived.RangeFuncBox
import Derived.RangeFuncCalls
import Derived.RangeFuncLeaves
import Derived.RangeFuncWrites
import Derived.Shelf.RegionOpen
import Derived.TacticsInMore
import Derived.Test.YtfehaoadnbcgoaaDoorPFnExactFirstDeskx0
import Derived.Test.YtfehaoadnbcgoaaDoorPFnExactFirstDeskx1
import Derived.Test.YtfehaoadnbcgoaaDoorPFnExactFirstDeskx2
namespace Go.Proofs.YtfehaoadnbcgoaaDoor.PFnExactFirstDesk
open Go.RowKit Go.Proofs.YtfehaoadnbcgoaaDoorW.PrintWords Go.Proofs.YtfehaoadnbcgoaaDoorW.PrintLast Go.Proofs.YtfehaoadnbcgoaaDoorW.PrintMore Go.Proofs.YtfehaoadnbcgoaaDoor.Base
attribute [local go_sem] max2_int min2_int max_two min_two max_three min_three max_four min_four   -- for this text's walks alone
set_option linter.unusedVariables false
set_option linter.unusedSimpArgs false

/-! ### impl_partyText: function 79 -/
def impl_partyText.l0 : Nat → List ByteArray → List (S73) → Int → Int → Int → List (S73) → Option (ByteArray)
 | 0, _, _, _, _, _, _ => none
 | k + 1, x3, x8, x9, x10, x128000, x128001 => if x10 < x9 then (if 0 ≤ x10 then (if x10 < (x8.length : Int) then ((strconv_Itoa.f ((rd_T73 x8 x10).f0)).bind fun t133 => (if t133.size + 1 ≤ 9223372036854775807 then ((strconv_Itoa.f ((rd_T73 x8 x10).f1)).bind fun t134 => (if (t133 ++ (⟨#[45]⟩ : ByteArray)).size + t134.size ≤ 9223372036854775807 then (if x3.length < 8796093022208 then (impl_partyText.l0 k (x3 ++ [(t133 ++ (⟨#[45]⟩ : ByteArray)) ++ t134]) x8 x9 (wrap64 (x10 + 1)) x128000 x128001) else (none)) else (none))) else (none))) else (none)) else (none)) else ((strconv_Itoa.f x128000).bind fun t138 => (if t138.size + 1 ≤ 9223372036854775807 then ((strings_Join.f x3 (⟨#[44]⟩ : ByteArray)).bind fun t139 => (if (t138 ++ (⟨#[58]⟩ : ByteArray)).size + t139.size ≤ 9223372036854775807 then (some ((t138 ++ (⟨#[58]⟩ : ByteArray)) ++ t139)) else (none))) else (none)))
def impl_partyText.f (k : Nat) (a0_0 : Int) (l0_1 : List (S73)) : Option (ByteArray) := impl_partyText.l0 k (([] : List ByteArray)) l0_1 (l0_1.length : Int) 0 a0_0 l0_1
theorem impl_partyText.mono_l : ∀ k, (∀ y0 y1 y2 y3 y4 y5, LeO (impl_partyText.l0 k y0 y1 y2 y3 y4 y5) (impl_partyText.l0 (k + 1) y0 y1 y2 y3 y4 y5))
 | 0 => fun _ _ _ _ _ _ r h => by simp [impl_partyText.l0] at h
 | k + 1 => by
  have ih0 := impl_partyText.mono_l k
  ·intro y0 y1 y2 y3 y4 y5
   unfold impl_partyText.l0
   repeat' first
   | (with_reducible exact ih0 _ _ _ _ _ _)
   | (with_reducible exact LeO.refl _)
   | (with_reducible exact LeO.none _)
   | (with_reducible refine LeO.ite ?_ ?_)
   | (with_reducible refine LeO.bind ?_ (fun _ => ?_))
   | exact ih0 _ _ _ _ _ _
   | exact LeO.none _
   | refine LeO.ite ?_ ?_
   | refine LeO.bind ?_ (fun _ => ?_)
theorem impl_partyText.mono : ∀ a0 a1 k, LeO (impl_partyText.f k a0 a1) (impl_partyText.f (k + 1) a0 a1) := by
 intro a0 a1 k
 have ih0 := impl_partyText.mono_l k
 unfold impl_partyText.f
 repeat' first
   | (with_reducible exact ih0 _ _ _ _ _ _)
   | (with_reducible exact LeO.refl _)
   | (with_reducible exact LeO.none _)
   | (with_reducible refine LeO.ite ?_ ?_)
   | (with_reducible refine LeO.bind ?_ (fun _ => ?_))
   | exact ih0 _ _ _ _ _ _
   | exact LeO.none _
   | refine LeO.ite ?_ ?_
   | refine LeO.bind ?_ (fun _ => ?_)
def impl_partyText.T5 : Bool × List (List Nat × List Nat) := (true, [([], []), ([], []), ([1], [1]), ([2], [2]), ([3], [3]), ([], []), ([5], [5]), ([6, 3], [6]), ([4, 7], [4, 7]), ([8], [8]), ([0, 9, 7], [0, 9]), ([10, 10, 0, 1, 2, 3, 4, 5, 6, 7, 8, 9, 10], [0, 10])])
def impl_partyText.B5 : List Nat := [0, 0, 2, 6, 14, 0, 32, 110, 254, 510, 1023, 2047]
theorem impl_partyText.tab5 : rtab .any (opsOf Tryd.f79 5) = impl_partyText.T5 := by kernel_rfl
theorem impl_partyText.bits5 : waitsOk impl_partyText.T5.2 impl_partyText.B5 = true := by kernel_rfl
set_option maxHeartbeats 8000000 in
set_option maxRecDepth 100000 in
theorem impl_partyText.calls (k : Nat) (a0_0 : Int) (A0_1 : Option Addr) (c0_1 : Nat) (l0_1 : List (S73)) (r : ByteArray) (w : World) (hr0_1 : Kd.C k73 w A0_1 l0_1.length l0_1) (hc0_1 : l0_1.length ≤ c0_1) (h : impl_partyText.f k a0_0 l0_1 = some r) :
  Calls Tryd.prog 79 #[.agg #[.int .i64 a0_0, .slice A0_1 l0_1.length c0_1]] w fun e w' => e = .returned (.string r) ∧ Below w.heap.size w w' := by
 have hu28 := Tryd.underlying28
 have hu73 := Tryd.underlying73
 have HR0_1 := Aside0.mk hr0_1
 have HC0_1 := Aside0.mk hc0_1
 clear hr0_1 hc0_1
 have HB := Aside0.mk (Below.refl w.heap.size w)
 have H : (impl_partyText.l0 k (([] : List ByteArray)) l0_1 (l0_1.length : Int) 0 a0_0 l0_1) = some r := h
 clear h
 obtain ⟨y128, hy128⟩ : ∃ y_ : List ByteArray, y_ = (([] : List ByteArray)) := ⟨_, rfl⟩
 replace H : (impl_partyText.l0 k y128 l0_1 (l0_1.length : Int) 0 a0_0 l0_1) = some r := by first | (rw [hy128]; with_reducible exact H) | (have H2_ := (Option.bind_some _ _).symm.trans H; rw [hy128]; with_reducible exact H2_) | (have H2_ := (Option.bind_some _ _).symm.trans H; with_reducible exact H2_) | with_reducible exact H | (rw [hy128]; exact H) | exact H
 have Ny128 := Aside0.mk hy128
 clear hy128
 have H' := Aside0.mk H
 clear H
 go_enter Tryd.func79, Tryd.ntmps79
 go_wp2_with (first | ((with_reducible refine gate_dst (N := 1) rfl ?_); refine bxE 1 #[.int .i64 a0_0, .slice A0_1 l0_1.length c0_1] 28 rfl ?_; intro gb127 hg w2 hbox hb; have BK127 := Aside0.mk (hbox); have GW127 := gS HB hg; have GE127 := gS HB hg; replace HB := hS HB hb; clear hb hbox hg) | ((with_reducible refine gate_dst (N := 6) rfl ?_); refine Kd.R_lit Kd.string _ 9 ?hg (N := 6) ?hd (xs := ([] : List ByteArray)) (inner := []) (ok := fun _ => True) (okp := fun _ => True) ?hr ?hp (fun _ hk => hk) trivial (Below.refl _ _) (Nat.le_refl _) (by simp) ?_; (case hd => rfl); (case hg => rfl); (case hr => first | (go_simp; done) | (go_simp; rfl)); (case hp => exact (Reps.none _ _)); intro v129 w3 ho4 hb hg_ hnew_; clear hg_ hnew_; (first | rw [← Ny128.out] at ho4 | (simp only [Int.reduceToNat] at ho4; rw [← Ny128.out] at ho4)); have HO130 := Aside0.mk (Kd.R_lower ho4 (below_size hB)); replace BK127 := bS BK127 hb; replace HB := hS HB hb; clear hb ho4; have hcz5_0 := cz BK127 0; have hcz5_1 := cz BK127 1; have hfz5_0 := fz BK127 0; have hfz5_1 := fz BK127 1))
 go_loopg [3, 10] k (fun kq v3 v10 w' => ∃ (x3_1 : List ByteArray) (x10_1 : Int), v10 = .int .i64 x10_1 ∧ Aside0 (impl_partyText.l0 kq x3_1 l0_1 (l0_1.length : Int) x10_1 a0_0 l0_1 = some r) ∧ Aside0 (kq ≤ k) ∧ Aside0 (Kd.R Kd.string 9 w' w.heap.size (fun _ => True) v3 x3_1) ∧ Aside0 (w'.heap[gb127]? = some (.cells #[.int .i64 a0_0, (.slice A0_1 l0_1.length c0_1)] 28 (0, 0))) ∧ Aside0 (Below w.heap.size w w'))
 case atStart => exact ⟨(y128), (0), (by first | rfl | (simp; done) | (simp [*]; done)), H', ⟨Nat.le_refl _⟩, ⟨rU HO130⟩, ⟨bK⟩, ⟨hB⟩⟩
 case round =>
  clear H'
  try clear p2
  try clear hcz5_0
  try clear hcz5_1
  try clear hfz5_0
  try clear hfz5_1
  obtain ⟨x3_1, x10_1, rfl, HA, HK1, HO_3, BK127, HB⟩ := hrel
  cases gk with
  | zero => exact absurd HA.out (by simp [impl_partyText.l0])
  | succ k1 =>
   have H := HA.out
   clear HA
   simp only [impl_partyText.l0] at H
   by_cases c6 : x10_1 < (l0_1.length : Int)
   ·rw [if_pos c6] at H
    have c6b0 : decide (x10_1 < (l0_1.length : Int)) = true := decide_eq_true c6
    clear c6
    by_cases c7 : 0 ≤ x10_1
    ·rw [if_pos c7] at H
     have c7b0 : decide (0 ≤ x10_1) = true := decide_eq_true c7
     clear c7
     by_cases c8 : x10_1 < (l0_1.length : Int)
     ·rw [if_pos c8] at H
      have c8b0 : decide (x10_1 < (l0_1.length : Int)) = true := decide_eq_true c8
      clear c8
      replace H := Option.bind_eq_some_iff.mp H
      obtain ⟨t133, A90, H⟩ := H
      try dsimp only at H
      have A9 := Aside0.mk A90
      clear A90
      by_cases c10 : t133.size + 1 ≤ 9223372036854775807
      ·rw [if_pos c10] at H
       have c10b0 := eq_true c10
       have c10b1 : decide (t133.size + 1 ≤ 9223372036854775807) = true := decide_eq_true c10
       try have c10b2 : (9223372036854775807 < t133.size + 1) = False := eq_false (Nat.not_lt.2 c10)
       replace H := Option.bind_eq_some_iff.mp H
       obtain ⟨t134, A110, H⟩ := H
       try dsimp only at H
       have A11 := Aside0.mk A110
       clear A110
       by_cases c12 : (t133 ++ (⟨#[45]⟩ : ByteArray)).size + t134.size ≤ 9223372036854775807
       ·rw [if_pos c12] at H
        have c12b0 := eq_true c12
        have c12b1 : decide ((t133 ++ (⟨#[45]⟩ : ByteArray)).size + t134.size ≤ 9223372036854775807) = true := decide_eq_true c12
        try have c12b2 : (9223372036854775807 < (t133 ++ (⟨#[45]⟩ : ByteArray)).size + t134.size) = False := eq_false (Nat.not_lt.2 c12)
        have c12m : ¬ (9223372036854775807 < (t133 ++ (⟨#[45]⟩ : ByteArray)).size + t134.size) := Nat.not_lt.2 c12
        simp only [ByteArray.size_append, bsz1] at c12m
        replace c12m := eq_false c12m
        by_cases c13 : x3_1.length < 8796093022208
        ·rw [if_pos c13] at H
         have LMc13 := Aside0.mk c13
         clear c13
         obtain ⟨y135, hy135⟩ : ∃ y_ : List ByteArray, y_ = (x3_1 ++ [(t133 ++ (⟨#[45]⟩ : ByteArray)) ++ t134]) := ⟨_, rfl⟩
         replace H : (impl_partyText.l0 k1 y135 l0_1 (l0_1.length : Int) (wrap64 (x10_1 + 1)) a0_0 l0_1) = some r := by first | (rw [hy135]; with_reducible exact H) | (have H2_ := (Option.bind_some _ _).symm.trans H; rw [hy135]; with_reducible exact H2_) | (have H2_ := (Option.bind_some _ _).symm.trans H; with_reducible exact H2_) | with_reducible exact H | (rw [hy135]; exact H) | exact H
         have Ny135 := Aside0.mk hy135
         clear hy135
         have H' := Aside0.mk H
         clear H
         have p131 : 0 ≤ (x10_1 : Int) := of_decide_eq_true (by first | (with_reducible assumption) | assumption)
         have q131 : x10_1 < (l0_1.length : Int) := of_decide_eq_true (by first | (with_reducible assumption) | assumption)
         obtain ⟨ad131, e131, hx131_0, hx131_1⟩ := at_T73 HR0_1.out x10_1 p131 q131
         cases e131
         replace hx131_0 := (HB.out.cell (World.block_lt_of_cell? w _ hx131_0)).trans hx131_0
         replace hx131_1 := (HB.out.cell (World.block_lt_of_cell? w _ hx131_1)).trans hx131_1
         replace p131 := eq_true p131
         replace q131 := eq_true q131
         try go_wp2_with (first | ((with_reducible refine gate_dst (N := 5) rfl ?_); refine bxE 5 #[.int .i64 0, .int .i64 0] 73 rfl ?_; intro gb132 hg w14 hbox hb; have BK132 := Aside0.mk (hbox); have GW132 := gS HB hg; have GE132 := gS HB hg; have NB127_132 := nL BK127 hg; have NB132_127 := nG BK127 hg; replace HO_3 := Aside0.mk (Kd.R_below (rU HO_3) hb); replace BK127 := bS BK127 hb; replace HB := hS HB hb; clear hb hbox hg; have hnb15 := NB132_127.out; have hnc15 := NB127_132.out; have hcz16_0 := cz BK132 0; have hcz16_1 := cz BK132 1; have hfz16_0 := fz BK132 0; have hfz16_1 := fz BK132 1))
         have n0_ : Aside0 (Kd.R Kd.string 9 ((w14.setCell ⟨gb132, 0, none⟩ (.int .i64 ((rd_T73 l0_1 x10_1).f0))).setCell ⟨gb132, 1, none⟩ (.int .i64 ((rd_T73 l0_1 x10_1).f1))) w.heap.size (fun _ => True) u3 x3_1) := ⟨by (with_reducible repeat (first | apply Kd.R_alloc | apply Kd.R_drewN | apply Kd.R_drew)); exact Kd.R_mono (Kd.R_far (p := ⟨gb132, 1, none⟩) (Kd.R_far (p := ⟨gb132, 0, none⟩) (Kd.R_types HO_3.out BK132.out (by decide)) (fun _ hk => hk.2) (.int .i64 ((rd_T73 l0_1 x10_1).f0))) (fun _ hk => hk.2) (.int .i64 ((rd_T73 l0_1 x10_1).f1))) (fun _ hk => trivial)⟩
         have n1_ : Aside0 (((w14.setCell ⟨gb132, 0, none⟩ (.int .i64 ((rd_T73 l0_1 x10_1).f0))).setCell ⟨gb132, 1, none⟩ (.int .i64 ((rd_T73 l0_1 x10_1).f1))).heap[gb127]? = some (.cells #[.int .i64 a0_0, .slice (some ad131) l0_1.length c0_1] 28 (0, 0))) := ⟨by (with_reducible repeat (first | refine blk_drewN ?_ _ | refine blk_drew ?_ | refine blk_alloc ?_ _)); refine blk_far ?_ NB127_132.out _; (with_reducible repeat (first | refine blk_drewN ?_ _ | refine blk_drew ?_ | refine blk_alloc ?_ _)); refine blk_far ?_ NB127_132.out _; (with_reducible repeat (first | refine blk_drewN ?_ _ | refine blk_drew ?_ | refine blk_alloc ?_ _)); exact BK127.out⟩
         have n2_ : Aside0 (((w14.setCell ⟨gb132, 0, none⟩ (.int .i64 ((rd_T73 l0_1 x10_1).f0))).setCell ⟨gb132, 1, none⟩ (.int .i64 ((rd_T73 l0_1 x10_1).f1))).heap[gb132]? = some (.cells #[.int .i64 ((rd_T73 l0_1 x10_1).f0), .int .i64 ((rd_T73 l0_1 x10_1).f1)] 73 (0, 0))) := ⟨by (with_reducible repeat (first | refine blk_drewN ?_ _ | refine blk_drew ?_ | refine blk_alloc ?_ _)); refine blk_put (cs := #[.int .i64 ((rd_T73 l0_1 x10_1).f0), .int .i64 0]) ?_ 1 _ rfl; (with_reducible repeat (first | refine blk_drewN ?_ _ | refine blk_drew ?_ | refine blk_alloc ?_ _)); refine blk_put (cs := #[.int .i64 0, .int .i64 0]) ?_ 0 _ rfl; (with_reducible repeat (first | refine blk_drewN ?_ _ | refine blk_drew ?_ | refine blk_alloc ?_ _)); exact BK132.out⟩
         have n3_ : Aside0 (Below w.heap.size w ((w14.setCell ⟨gb132, 0, none⟩ (.int .i64 ((rd_T73 l0_1 x10_1).f0))).setCell ⟨gb132, 1, none⟩ (.int .i64 ((rd_T73 l0_1 x10_1).f1)))) := ⟨hB⟩
         (try clear HO_3)
         (try clear BK127)
         (try clear BK132)
         (try clear HB)
         generalize ((w14.setCell ⟨gb132, 0, none⟩ (.int .i64 ((rd_T73 l0_1 x10_1).f0))).setCell ⟨gb132, 1, none⟩ (.int .i64 ((rd_T73 l0_1 x10_1).f1))) = w17 at n0_ n1_ n2_ n3_ ⊢
         have HO_3 := n0_
         have BK127 := n1_
         have BK132 := n2_
         have HB := n3_
         clear n0_ n1_ n2_ n3_
         replace HO_3 := Aside0.mk (Kd.R_drew HO_3.out)
         replace BK127 := Aside0.mk (blk_drew BK127.out)
         replace BK132 := Aside0.mk (blk_drew BK132.out)
         replace HB := Aside0.mk (below_drew1 HB.out)
         refine start_ (n := 12) (S := fun w' => w'.cell? ⟨gb132, 0, none⟩ = some (.int .i64 ((rd_T73 l0_1 x10_1).f0)) ∧ w'.cell? ⟨gb132, 1, none⟩ = some (.int .i64 ((rd_T73 l0_1 x10_1).f1))) (ds := []) (bz 12 0) (by kernel_rfl) rfl rfl ⟨(blk_cell BK132.out 0).trans rfl, (blk_cell BK132.out 1).trans rfl⟩ (fun hHeld => ?_); refine with_tabW impl_partyText.tab5 impl_partyText.bits5 (fun HT_ HW_ => ?_)
         generalize w17.drew = w18 at HO_3 BK127 BK132 HB hHeld ⊢
         refine run_ [(0, 0, 1, some 14), (0, 1, 3, some 15), (0, 5, 35, some 19), (1, 2, 39, some 16), (1, 6, 103, some 20)] ?_
         repeat (first | (apply tag0; refine run_p (v := ?_) (a' := ?_) rfl rfl (any_of HT_.out (by kernel_rfl)) (fun _ _ _ h => h) (by rfl) ?_ ?_ ?_; rotate_left 2; (intro w'; go_simp; with_reducible rfl); (first | (simp only [Act.put, List.setIfInBounds_toArray, List.set_cons_zero, List.set_cons_succ, i64_w, i32_w]; rfl) | rfl)) | (apply tag1; refine run_t (v := ?_) (a' := ?_) rfl rfl (take_ofW HT_.out HW_.out (by kernel_rfl)) (fun _ _ _ h => h) (by rfl) ?_ hHeld ?_ ?_; rotate_left 2; (rintro w' ⟨s0, s1⟩; go_simp; with_reducible rfl); (first | (simp only [Act.put, List.setIfInBounds_toArray, List.set_cons_zero, List.set_cons_succ, i64_w, i32_w]; rfl) | rfl)))
         refine run_nil ?_
         refine one_ (i := 3) (N := some 17) (bz 12 111) rfl rfl (one_of HT_.out (by kernel_rfl)) (by decide) (fun K hK => ?_)
         refine goes_ Tryd.func96 (by kernel_rfl) rfl #[.int .i64 ((rd_T73 l0_1 x10_1).f0)] (by rfl) rfl rfl mapT ?_
         with_reducible refine (strconv_Itoa.calls ((rd_T73 l0_1 x10_1).f0) t133 _ A9.out).mono ?_
         rintro e w19 ⟨rfl, hb⟩
         refine ⟨_, rfl, ?_⟩
         replace HO_3 := Aside0.mk (Kd.R_below (rU HO_3) hb)
         replace BK127 := bS BK127 hb
         replace BK132 := bS BK132 hb
         replace HB := hS HB hb
         (try clear hb)
         (try clear hb2)
         (try clear hk)
         (try clear hi)
         refine hK.out _ _ ⟨(blk_cell BK132.out 0).trans rfl, (blk_cell BK132.out 1).trans rfl⟩ (fun hHeld => ?_)
         clear hK K
         refine norm_ (a' := ?_) ?_ ?_
         rotate_left
         ·show Act.put _ (some 17) _ = _
          simp only [Act.put, List.setIfInBounds_toArray, List.set_cons_zero, List.set_cons_succ, i64_w, i32_w]
          rfl
         refine run_ [(0, 4, 127, some 18)] ?_
         repeat ((apply tag0; refine run_p (v := ?_) (a' := ?_) rfl rfl (any_of HT_.out (by kernel_rfl)) (fun _ _ _ h => h) (by rfl) ?_ ?_ ?_; rotate_left 2; (intro w'; go_simp; with_reducible rfl); (first | (simp only [Act.put, List.setIfInBounds_toArray, List.set_cons_zero, List.set_cons_succ, i64_w, i32_w]; rfl) | rfl)))
         refine run_nil ?_
         refine one_ (i := 7) (N := some 21) (bz 12 255) rfl rfl (one_of HT_.out (by kernel_rfl)) (by decide) (fun K hK => ?_)
         refine goes_ Tryd.func96 (by kernel_rfl) rfl #[.int .i64 ((rd_T73 l0_1 x10_1).f1)] (by rfl) rfl rfl mapT ?_
         with_reducible refine (strconv_Itoa.calls ((rd_T73 l0_1 x10_1).f1) t134 _ A11.out).mono ?_
         rintro e w20 ⟨rfl, hb⟩
         refine ⟨_, rfl, ?_⟩
         replace HO_3 := Aside0.mk (Kd.R_below (rU HO_3) hb)
         replace BK127 := bS BK127 hb
         replace BK132 := bS BK132 hb
         replace HB := hS HB hb
         (try clear hb)
         (try clear hb2)
         (try clear hk)
         (try clear hi)
         refine hK.out _ _ ⟨(blk_cell BK132.out 0).trans rfl, (blk_cell BK132.out 1).trans rfl⟩ (fun hHeld => ?_)
         clear hK K
         refine norm_ (a' := ?_) ?_ ?_
         rotate_left
         ·show Act.put _ (some 21) _ = _
          simp only [Act.put, List.setIfInBounds_toArray, List.set_cons_zero, List.set_cons_succ, i64_w, i32_w]
          rfl
         refine run_ [(0, 8, 511, some 22)] ?_
         repeat ((apply tag0; refine run_p (v := ?_) (a' := ?_) rfl rfl (any_of HT_.out (by kernel_rfl)) (fun _ _ _ h => h) (by rfl) ?_ ?_ ?_; rotate_left 2; (intro w'; go_simp; with_reducible rfl); (first | (simp only [Act.put, List.setIfInBounds_toArray, List.set_cons_zero, List.set_cons_succ, i64_w, i32_w]; rfl) | rfl)))
         refine run_nil ?_
         refine one_ (i := 9) (N := some 23) (bz 12 1023) rfl rfl (one_of HT_.out (by kernel_rfl)) (by decide) (fun K hK => ?_)
         refine value_ (w1 := ?_) (v := ?_) (by rfl) rfl ?_ ?_
         rotate_left 2
         ·go_simp
          constructor
          ·rfl
          ·rfl
         refine hK.out _ _ ⟨(blk_cell (blk_alloc BK132.out _) 0).trans rfl, (blk_cell (blk_alloc BK132.out _) 1).trans rfl⟩ (fun hHeld => ?_)
         clear hK K
         refine norm_ (a' := ?_) ?_ ?_
         rotate_left
         ·show Act.put _ (some 23) _ = _
          simp only [Act.put, List.setIfInBounds_toArray, List.set_cons_zero, List.set_cons_succ, i64_w, i32_w]
          rfl
         refine one_ (i := 10) (N := some 24) (bz 12 2047) rfl rfl (one_of HT_.out (by kernel_rfl)) (by decide) (fun K hK => ?_)
         refine Kd.R_append_step Kd.string (w0 := w) w.heap.size (by rfl) (.tmp 14) (.tmp 23) 111 9 (.string ⟨#[]⟩) 16 rfl Tryd.underlying111 info9 rfl (by decide) (by omega) u3 x3_1 ((t133 ++ (⟨#[45]⟩ : ByteArray)) ++ t134) [.string ((t133 ++ (⟨#[45]⟩ : ByteArray)) ++ t134)] (fun _ => True) (fun _ => False) rfl rfl ?aP (fun _ hk => hk.elim) ?aF ?aO ?aB ?aS ?aL ?_
         (case aP => exact rfl)
         (case aB => exact hB)
         (case aF => exact (fun _ _ => trivial))
         (case aO => exact (rU HO_3))
         (case aS => exact (below_size hB))
         (case aL => have := LMc13.out; omega)
         intro v136 w21 ho hb hg hat
         rw [← Ny135.out] at ho
         have n0_ := Aside0.mk (blk_grown (g := gb127) (o := .cells #[.int .i64 a0_0, .slice (some ad131) l0_1.length c0_1] 28 (0, 0)) bK hg (Kd.R_ne HO_3.out BK127.out (by decide)))
         have n1_ := Aside0.mk (blk_grown (g := gb132) (o := .cells #[.int .i64 ((rd_T73 l0_1 x10_1).f0), .int .i64 ((rd_T73 l0_1 x10_1).f1)] 73 (0, 0)) bK hg (Kd.R_ne HO_3.out BK132.out (by decide)))
         have n2_ := Aside0.mk (hb)
         have n3_ := Aside0.mk (ho)
         clear BK127
         clear BK132
         clear HB
         clear HO_3
         have BK127 := n0_
         have BK132 := n1_
         have HB := n2_
         have HO137 := n3_
         clear n0_ n1_ n2_ n3_
         clear ho hb hg hat
         refine hK.out _ _ ⟨(blk_cell BK132.out 0).trans rfl, (blk_cell BK132.out 1).trans rfl⟩ (fun hHeld => ?_)
         clear hK K
         refine norm_ (a' := ?_) ?_ ?_
         rotate_left
         ·show Act.put _ (some 24) _ = _
          simp only [Act.put, List.setIfInBounds_toArray, List.set_cons_zero, List.set_cons_succ, i64_w, i32_w]
          rfl
         refine run_ [(0, 11, 4095, some 3)] ?_
         repeat ((apply tag0; refine run_p (v := ?_) (a' := ?_) rfl rfl (any_of HT_.out (by kernel_rfl)) (fun _ _ _ h => h) (by rfl) ?_ ?_ ?_; rotate_left 2; (intro w'; go_simp; with_reducible rfl); (first | (simp only [Act.put, List.setIfInBounds_toArray, List.set_cons_zero, List.set_cons_succ, i64_w, i32_w]; rfl) | rfl)))
         refine run_nil ?_
         refine done_ (done_of HT_.out (by kernel_rfl)) ?_
         try go_wp2
         go_roundg k1
         case measure => have := HK1.out; omega
         case rel => exact ⟨(y135), (wrap64 (x10_1 + 1)), (by first | rfl | (simp; done) | (simp [*]; done)), H', ⟨by have := HK1.out; omega⟩, ⟨rU HO137⟩, ⟨bK⟩, ⟨hB⟩⟩
        ·rw [if_neg c13] at H
         exact absurd H (by simp)
       ·rw [if_neg c12] at H
        exact absurd H (by simp)
      ·rw [if_neg c10] at H
       exact absurd H (by simp)
     ·rw [if_neg c8] at H
      exact absurd H (by simp)
    ·rw [if_neg c7] at H
     exact absurd H (by simp)
   ·rw [if_neg c6] at H
    have c6b0 : decide (x10_1 < (l0_1.length : Int)) = false := decide_eq_false c6
    clear c6
    replace H := Option.bind_eq_some_iff.mp H
    obtain ⟨t138, A220, H⟩ := H
    try dsimp only at H
    have A22 := Aside0.mk A220
    clear A220
    by_cases c23 : t138.size + 1 ≤ 9223372036854775807
    ·rw [if_pos c23] at H
     have c23b0 := eq_true c23
     have c23b1 : decide (t138.size + 1 ≤ 9223372036854775807) = true := decide_eq_true c23
     try have c23b2 : (9223372036854775807 < t138.size + 1) = False := eq_false (Nat.not_lt.2 c23)
     replace H := Option.bind_eq_some_iff.mp H
     obtain ⟨t139, A240, H⟩ := H
     try dsimp only at H
     have A24 := Aside0.mk A240
     clear A240
     by_cases c25 : (t138 ++ (⟨#[58]⟩ : ByteArray)).size + t139.size ≤ 9223372036854775807
     ·rw [if_pos c25] at H
      have c25b0 := eq_true c25
      have c25b1 : decide ((t138 ++ (⟨#[58]⟩ : ByteArray)).size + t139.size ≤ 9223372036854775807) = true := decide_eq_true c25
      try have c25b2 : (9223372036854775807 < (t138 ++ (⟨#[58]⟩ : ByteArray)).size + t139.size) = False := eq_false (Nat.not_lt.2 c25)
      have c25m : ¬ (9223372036854775807 < (t138 ++ (⟨#[58]⟩ : ByteArray)).size + t139.size) := Nat.not_lt.2 c25
      simp only [ByteArray.size_append, bsz1] at c25m
      replace c25m := eq_false c25m
      obtain rfl := Option.some.inj H
      have hcz26_0 := cz BK127 0
      have hcz26_1 := cz BK127 1
      have hfz26_0 := fz BK127 0
      have hfz26_1 := fz BK127 1
      go_wp2_with (first | ((with_reducible refine gate_callee (f := 96) rfl ?_); refine goC (N := some 28) Tryd.func96 #[.int .i64 a0_0] rfl ?_; (with_reducible refine (strconv_Itoa.calls a0_0 t138 _ A22.out).mono ?_); rintro e w27 ⟨rfl, hb⟩; refine ⟨_, rfl, ?_⟩; replace HO_3 := Aside0.mk (Kd.R_below (rU HO_3) hb); replace BK127 := bS BK127 hb; replace HB := hS HB hb; (try clear hb); (try clear hb2); (try clear hk); (try clear hi); obtain ⟨Ao28, co28, eo28⟩ := Kd.R_slice HO_3.out; subst eo28) | ((with_reducible refine gate_callee (f := 97) rfl ?_); refine goC (N := some 31) Tryd.func97 #[.slice Ao28 x3_1.length co28, .string (⟨#[44]⟩ : ByteArray)] rfl ?_; (with_reducible refine (strings_Join.calls _ _ x3_1 (⟨#[44]⟩ : ByteArray) t139 _ ?side1 ?side2 A24.out).mono ?_); (case side1 => exact cS (Kd.R_reads' HO_3.out).2.2); (case side2 => exact (Kd.R_reads' HO_3.out).2.1); rintro e w29 ⟨rfl, hb⟩; refine ⟨_, rfl, ?_⟩; replace HO_3 := Aside0.mk (Kd.R_below (rU HO_3) hb); replace BK127 := bS BK127 hb; replace HB := hS HB hb; (try clear hb); (try clear hb2); (try clear hk); (try clear hi)))
      go_ret
      exact ⟨by first | rfl | (simp [errW_none, errW_some] <;> rfl) | (simp [*, errW_none, errW_some] <;> rfl), hB⟩
     ·rw [if_neg c25] at H
      exact absurd H (by simp)
    ·rw [if_neg c23] at H
     exact absurd H (by simp)

/-! ### slices_Chunk_int_int_1: function 91 (a text of this session's own) -/
-- WANTS Derived.RangeFuncBox
-- WANTS Derived.RangeFuncLeaves
-- WANTS Derived.RangeFuncCalls
-- WANTS Derived.RangeFuncWrites
-- WANTS Derived.Shelf.RegionOpen
-- WANTS Derived.OwnWalkIn
-- WANTS Derived.TacticsInMore
-- WANTS Derived.LoopNIn
-- WANTS Derived.LoopIn
attribute [local go_sem] Oper.semAt_some
/-- The two boxes of the chunks' maker lie as they lay. -/
def slices_Chunk_int_int_1.Kp (Bs Bn : Nat) (W W' : World) : Prop := W'.heap[Bs]? = W.heap[Bs]? ∧ W'.heap[Bn]? = W.heap[Bn]?
theorem slices_Chunk_int_int_1.Kp.cell {Bs Bn : Nat} {W W' : World} (h : slices_Chunk_int_int_1.Kp Bs Bn W W') : W'.cell? ⟨Bs, 0, none⟩ = W.cell? ⟨Bs, 0, none⟩ ∧ W'.cell? ⟨Bn, 0, none⟩ = W.cell? ⟨Bn, 0, none⟩ := by
  constructor
  · unfold World.cell?; rw [show W'.heap[(⟨Bs, 0, none⟩ : Addr).block]? = W.heap[(⟨Bs, 0, none⟩ : Addr).block]? from h.1]
  · unfold World.cell?; rw [show W'.heap[(⟨Bn, 0, none⟩ : Addr).block]? = W.heap[(⟨Bn, 0, none⟩ : Addr).block]? from h.2]
set_option maxHeartbeats 4000000 in
set_option maxRecDepth 100000 in
theorem slices_Chunk_int_int_1.stops (n : Nat) (hn : 1 ≤ n) (Bs Bn A off m c cap : Nat) (hc : 1 ≤ c) (hm : c * m ≤ 1000000) (hcap : c * m ≤ cap) (w : World) (hs : w.cell? ⟨Bs, 0, none⟩ = some (.slice (some ⟨A, off, none⟩) (c * m) cap)) (hv : w.cell? ⟨Bn, 0, none⟩ = some (.int .i64 (c : Int))) :
    SeqStopsK Fence.wide n Tryd.prog 91 #[.pointer (some ⟨Bs, 0, none⟩), .pointer (some ⟨Bn, 0, none⟩)] (fun x : Nat => #[Value.slice (some ⟨A, off + c * (x % m), none⟩) c c]) (slices_Chunk_int_int_1.Kp Bs Bn) (fun ys => ys = List.range m) (fun _ => True) m w := fun l J Jx W hW hJa _ hY h0 => by
  have hs' := (hW.cell (p := ⟨Bs, 0, none⟩) (World.block_lt_of_cell? w _ hs)).trans hs
  have hv' := (hW.cell (p := ⟨Bn, 0, none⟩) (World.block_lt_of_cell? w _ hv)).trans hv
  have hmx : Tryd.prog.follows .mixedOrders = true := by kernel_rfl
  refine callsIn_of_wp Tryd.func91 rfl trivial ?_ rfl
  simp only [Tryd.ntmps91, List.size_toArray, List.length_cons, List.length_nil, Nat.reduceAdd, Nat.reduceSub, Array.replicate_succ, Array.replicate_zero, List.push_toArray, List.append_toArray, List.nil_append, List.cons_append]
  gi_wp2
  gi_loopw [4] (fun i wr => ∃ k : Nat, k ≤ m ∧ i = .int .i64 ((c * k : Nat) : Int) ∧ J (List.range k) wr ∧ slices_Chunk_int_int_1.Kp Bs Bn W wr)
    (fun i _ => c * m - (intOf i).toNat)
  case atStart => exact ⟨0, Nat.zero_le _, rfl, h0, rfl, rfl⟩
  case round =>
    obtain ⟨k, hk, rfl, hJs, hKp⟩ := hrel
    have hs2 := hKp.cell.1.trans hs'
    have hv2 := hKp.cell.2.trans hv'
    by_cases hlt : k < m
    · have hck : c * k + c ≤ c * m := by rw [← Nat.mul_succ]; exact Nat.mul_le_mul (Nat.le_refl c) hlt
      obtain ⟨fn, tmps, assign, body, hy, hR⟩ := hY _ k wr.drew (hJa _ _ _ none hJs ⟨rfl, rfl, rfl, Nat.le_refl _, fun _ _ _ => rfl⟩ (fun r e => by cases e)) (by rw [List.length_range]; exact hlt)
      rw [Nat.mod_eq_of_lt hlt] at hy
      have hnext : c * (k + 1) = c * k + c := Nat.mul_succ c k
      obtain ⟨a, ha⟩ : ∃ a_, a_ = c * k := ⟨_, rfl⟩
      obtain ⟨L, hL⟩ : ∃ L_, L_ = c * m := ⟨_, rfl⟩
      rw [← ha] at hck hy hnext ⊢
      rw [← hL] at hck hm hcap hs2
      have d1 : decide ((a : Int) < (L : Int)) = true := decide_eq_true (by omega)
      have HA := Aside0.mk ha
      have HL := Aside0.mk hL
      clear ha hL
      gi_wp2
      gi_region_o
      gi_wp2
      refine hR.mono ?_
      rintro e W3 (⟨rfl, hJ3, hk3⟩ | ⟨rfl, hx3⟩)
      · have hK3 : slices_Chunk_int_int_1.Kp Bs Bn W W3 := ⟨hk3.1.trans hKp.1, hk3.2.trans hKp.2⟩
        have hv3 := hK3.cell.2.trans hv'
        have hw : wrap64 ((a : Int) + (c : Int)) = (((a + c : Nat)) : Int) := by rw [wrap_id (by omega) (by omega)]; omega
        gi_wp2
        go_roundw
        case rel => exact ⟨k + 1, hlt, by first | (rw [hnext]; rfl) | (rw [hnext]; simp; done), by rw [List.range_succ]; exact hJ3, hK3⟩
        case measure =>
          rw [← HL.out]
          simp [intOf]
          omega
      · gi_wp2
        refine bodyPost_ret (results_none rfl _ _ _) rfl ?_
        exact ⟨⟨_, rfl⟩, .inr ⟨_, trivial, hx3⟩⟩
    · obtain rfl : k = m := by omega
      have d1 : decide (((c * k : Nat) : Int) < ((c * k : Nat) : Int)) = false := decide_eq_false (by omega)
      gi_wp2
      go_end0
      exact ⟨⟨_, rfl⟩, .inl ⟨_, rfl, hJs⟩⟩

/-! ### impl_ParseParty: function 51 (a text of this session's own) -/
-- WANTS Derived.RangeFuncBox
-- WANTS Derived.RangeFuncLeaves
-- WANTS Derived.RangeFuncCalls
-- WANTS Derived.RangeFuncWrites
-- WANTS Derived.Shelf.RegionOpen
-- WANTS Derived.OwnWalkIn
-- WANTS Derived.TacticsInMore
-- WANTS Derived.LoopNIn
-- WANTS Derived.LoopIn
attribute [local go_sem] Oper.semAt_some

def impl_ParseParty.T7 : Bool × List (List Nat × List Nat) := (true, [([], []), ([0], [0]), ([], []), ([2], [2]), ([3], [3]), ([], []), ([5], [5]), ([6], [6]), ([4, 7], [4, 7]), ([8], [8]), ([1, 9], [1, 9]), ([0, 1, 2, 3, 4, 5, 6, 7, 8, 9, 10], []), ([11, 10, 10, 0, 1, 2, 3, 4, 5, 6, 7, 8, 9, 10], [10, 11])])
def impl_ParseParty.B7 : List Nat := [0, 1, 0, 4, 12, 0, 32, 96, 252, 508, 1023, 2047, 4095]
theorem impl_ParseParty.tab7 : rtab .any (opsOf Tryd.f51 7) = impl_ParseParty.T7 := by kernel_rfl
theorem impl_ParseParty.bits7 : waitsOk impl_ParseParty.T7.2 impl_ParseParty.B7 = true := by kernel_rfl
/-- The pairs that stand behind a number. -/
def impl_ParseParty.pr (zs : List Int) (m x : Nat) : S73 := ⟨zs.getD (1 + 2 * (x % m)) 0, zs.getD (1 + 2 * (x % m) + 1) 0⟩
/-- No operation of a region defers a call. -/
def impl_ParseParty.calm (ops : Array Oper) : Bool := ops.all fun o => match o.op with | .defer _ => false | _ => true
theorem impl_ParseParty.calm_at {ops : Array Oper} (h : impl_ParseParty.calm ops = true) (i : Nat) (o : Oper) (ho : ops[i]? = some o) : ∀ c, o.op ≠ .defer c := by
  intro c e
  have h2 := Array.all_eq_true.mp h i (Array.getElem?_eq_some_iff.mp ho).1
  rw [(Array.getElem?_eq_some_iff.mp ho).2, e] at h2
  cases h2
theorem impl_ParseParty.opIn {P : Program} {ops : Array Oper} {Q : Exit → Act → World → Prop} (l n i : Nat) (hd : impl_ParseParty.calm ops = true) (hQ : ¬ LetsOut Q) {K : Act → World → Prop} {a : Act} {w : World} (h : wpOp P ops Q i K a w) : wpOpIn (Fence.wide.inRound l) n P ops Q i K a w := by
  unfold wpOp at h
  unfold wpOpIn
  cases ho : ops[i]? with
  | none => simp only [ho] at h ⊢; exact h
  | some o =>
    simp only [ho] at h ⊢
    by_cases hw : Region.wanted o (yielded ops a.tmps) = true
    · rw [if_pos hw] at h ⊢
      rcases h with h | h
      · refine ⟨fun _ _ => trivial, ?_⟩
        rw [show (Fence.wide.inRound l).round = some l from rfl, Oper.semAt_some l _ _ (impl_ParseParty.calm_at hd i o ho)]
        unfold Oper.wp at h
        generalize (execOp a.eval o).run P w = r at h ⊢
        cases r with
        | ok x w' =>
          cases x with
          | value v => exact h
          | skip => exact h
          | defer d => exact h
          | enter f args => exact ⟨(fun h => by cases h), CallsIn.inRound l ((callsIn_wide.2 h).mono fun e w'' he => by cases e <;> exact he)⟩
          | row row args => exact ⟨(fun h => by cases h), fun c cs _ => let ⟨v, w', r, s⟩ := h c cs; ⟨v, w', r, stepsIn_wide.2 s⟩⟩
          | round l f tmps assign body => exact h.elim
          | _ => exact h.elim
        | halt x w' => cases x <;> first | exact h | exact h.elim
      · exact absurd h.2 hQ
    · rw [if_neg hw] at h ⊢
      exact ⟨fun _ _ => trivial, h⟩
theorem impl_ParseParty.anyIn {P : Program} {ops : Array Oper} {Q : Exit → Act → World → Prop} {md : Region.Mode} (l n : Nat) (hd : impl_ParseParty.calm ops = true) (hQ : ¬ LetsOut Q) : ∀ (fuel : Nat) (listed : Array Bool) (a : Act) (w : World), wpAny P md ops Q fuel listed a w → wpAnyIn (Fence.wide.inRound l) n P md ops Q fuel listed a w
  | 0, _, _, _, h => h
  | fuel + 1, _, _, _, h => ⟨h.1, fun i hi => wpOpIn_mono (fun a w => impl_ParseParty.anyIn l n hd hQ fuel _ a w) (impl_ParseParty.opIn l n i hd hQ (h.2 i hi))⟩
/-- A drawn region within a round, walked as one outside. -/
theorem impl_ParseParty.start_in {P : Program} {ops : Array Oper} {Q : Exit → Act → World → Prop} {S : World → Prop} {ds : List Nat} {id n r nn : Nat} {a : Act} {w : World} (l : Array Bool) (hm : P.follows .mixedOrders = true) (hn : ops.size = n) (hl : Array.replicate n false = l) (hd : impl_ParseParty.calm ops = true) (hQ : ¬ LetsOut Q) (hS : S w.drew)
    (h : S w.drew → wpAnyLast P .any ops Q S ds n l a w.drew) : (Code.region id ops true).wpIn (Fence.wide.inRound r) nn P Q a w := by
  subst hn
  subst hl
  exact wpIn_region_any hm (impl_ParseParty.anyIn r nn hd hQ _ _ _ _ (wpAny_of_last _ _ _ _ (h hS)))
/-- A row stands where a block that is no cells has turned. -/
theorem impl_ParseParty.row_from {α : Type} {d : Kd α} {e base : Nat} {ok : Nat → Prop} {v : Value} {xs : List α} {W W' : World} {row : Option Nat} (h : d.R e W base ok v xs) (hg : W.grownBy W' row) (hr : ∀ r, row = some r → ∃ o : Obj, W.heap[r]? = some o ∧ o.isCells = false) : d.R e W' base ok v xs :=
  Kd.R_mono (Kd.R_grown (Kd.R_bound h) hg (fun k hk he => by
    obtain ⟨_, _, _, _, _, cells, hc⟩ := hk
    obtain ⟨o, ho, hcc⟩ := hr k he.symm
    rw [hc] at ho
    cases ho
    cases hcc)) (fun _ hk => hk.1)
/-- What stands between two rounds. -/
structure impl_ParseParty.In (w : World) (z0 : Int) (g2 g4 c4 g6 Bs Bn m : Nat) (zs : List Int) (pre : List Nat) (W : World) : Prop where
  row : ∃ Av cv, W.heap[g6]? = some (.cells #[.int .i64 z0, .slice Av pre.length cv] 28 (0, 0)) ∧ Kd.R k73 73 W w.heap.size (fun _ => True) (.slice Av pre.length cv) (pre.map (impl_ParseParty.pr zs m))
  nums : Kd.R (Kd.int .i64) 3 W w.heap.size (fun _ => True) (.slice (some ⟨g4, 0, none⟩) (2 * m + 1) c4) zs
  res : W.heap[g2]? = some (.cells #[.int .i64 0, .slice none 0 0] 28 (0, 0))
  bs : W.heap[Bs]? = some (.cells #[.slice (some ⟨g4, 1, none⟩) (2 * m) (c4 - 1)] 24 (0, 0))
  bn : W.heap[Bn]? = some (.cells #[.int .i64 ((2 : Nat) : Int)] 3 (0, 0))
  below : Below w.heap.size w W
theorem impl_ParseParty.In.own {w : World} {z0 : Int} {g2 g4 c4 g6 Bs Bn m B : Nat} {zs : List Int} (hB : w.heap.size ≤ B) : OwnFrom B (impl_ParseParty.In w z0 g2 g4 c4 g6 Bs Bn m zs) := by
  intro pre W W' row h hg hr
  have hr2 := fun r e => (hr r e).2
  obtain ⟨Av, cv, h6, hv⟩ := h.row
  exact ⟨⟨Av, cv, (grownBy_keeps_cells hg hr2 h6 rfl).trans h6, impl_ParseParty.row_from hv hg hr2⟩, impl_ParseParty.row_from h.nums hg hr2, (grownBy_keeps_cells hg hr2 h.res rfl).trans h.res, (grownBy_keeps_cells hg hr2 h.bs rfl).trans h.bs, (grownBy_keeps_cells hg hr2 h.bn rfl).trans h.bn, h.below.grown hg h.below.size (fun k e => Nat.le_trans hB (hr k e).1)⟩
theorem impl_ParseParty.row_cells {e : TypeId} {W : World} {base : Nat} {ok : Nat → Prop} {g n cap : Nat} {zs : List Int} (h : Kd.R (Kd.int .i64) e W base ok (.slice (some ⟨g, 0, none⟩) n cap) zs) (j : Nat) (hj : j < zs.length) : W.cell? ⟨g, j, none⟩ = some (.int .i64 (zs.getD j 0)) := by
  obtain ⟨rfl, _, hr⟩ := Kd.R_reads' h
  obtain ⟨ad, e1, hx⟩ := Kd.at_int hr (j : Int) (by omega) (by omega)
  cases e1
  rw [add_plain, Int.toNat_natCast] at hx
  exact hx
set_option maxHeartbeats 4000000 in
set_option maxRecDepth 100000 in
theorem impl_ParseParty.calls (k : Nat) (s : ByteArray) (hs : s.size ≤ 1000000) (ds : List Nat) (m : Nat) (hlen : ds.length = 2 * m + 1) (hm : 1 ≤ m) (hm2 : m ≤ 400000) (hd : ∀ d ∈ ds, d ≤ 9) (hp : Lib.goFieldsP (strings_IndexRune.sg ⟨#[58, 45, 44]⟩) s = ds.map impl_number.tx)
    (zs : List Int) (hz : zs = ds.map fun d : Nat => (d : Int)) (ps : List S73) (hps : ps = (List.range m).map (impl_ParseParty.pr zs m)) (hI : impl_IsParty.f k (zs.getD 0 0) ps = some true) (hT : impl_partyText.f k (zs.getD 0 0) ps = some s) (w : World) :
    Calls Tryd.prog 51 #[.string s] w fun e w' => ∃ v1_ : Value, e = .returned (.tuple #[.agg #[.int .i64 (zs.getD 0 0), v1_], .bool true]) ∧ Kd.R k73 73 w' w.heap.size (fun _ => True) v1_ ps ∧ Below w.heap.size w w' := by
  have hzl : zs.length = 2 * m + 1 := by rw [hz, List.length_map, hlen]
  have HNI := Aside0.mk (fun w => impl_numbersIn.calls s hs ds hd hp (by omega) 12 (by omega) w)
  rw [← hz] at HNI
  have HB := Aside0.mk (Below.refl w.heap.size w)
  have HI := Aside0.mk hI
  have HT := Aside0.mk hT
  have HPS := Aside0.mk hps
  have HZL := Aside0.mk hzl
  obtain ⟨z0, hz0⟩ : ∃ z_, z_ = zs.getD 0 0 := ⟨_, rfl⟩
  rw [← hz0]
  rw [← hz0] at HI HT
  have HZ0 := Aside0.mk hz0
  clear hI hT hps hp hz hd hlen hzl hz0
  refine (callsIn_wide (n := 3)).1 (callsIn_of_wp_marks Tryd.func51 rfl trivial (wpIn_wide.2 ?_) rfl)
  simp only [Tryd.ntmps51, List.size_toArray, List.length_cons, List.length_nil, Nat.reduceAdd, Nat.reduceSub, Array.replicate_succ, Array.replicate_zero, List.push_toArray, List.append_toArray, List.nil_append, List.cons_append]
  go_wp2_with (first
    | ((with_reducible refine gate_dst (N := 2) rfl ?_); refine bxE 2 #[.int .i64 0, .slice none 0 0] 28 rfl ?_; intro g2 hg w2 hbox hb; have BK2 := Aside0.mk hbox; have GE2 := gS HB hg; replace HB := hS HB hb; clear hg hbox hb)
    | (go_at_call 56; refine (HNI.out _).mono ?_; rintro e w4 ⟨v4, rfl, ho, hb⟩; have HO4 := Aside0.mk (Kd.R_lower ho (below_size hB)); replace BK2 := bS BK2 hb; replace HB := hS HB hb; clear hb ho; obtain ⟨g4, c4, e4, _, l4, _, _⟩ := Kd.R_form HO4.out (by have := HZL.out; omega); subst e4; have hx0 := impl_ParseParty.row_cells HO4.out 0 (by have := HZL.out; omega); rw [← HZ0.out] at hx0; have hcap := (Kd.R_reads' HO4.out).2.1; rw [HZL.out] at hcap ⊢; have HO5 := HO4; rw [HZL.out] at HO5; clear HO4)
    | ((with_reducible refine gate_dst (N := 6) rfl ?_); refine bxE 6 #[.int .i64 0, .slice none 0 0] 28 rfl ?_; intro g6 hg w6 hbox hb; have BK6 := Aside0.mk hbox; have GE6 := gS HB hg; have NB26 := nL BK2 hg; replace BK2 := bS BK2 hb; replace HB := hS HB hb; replace HO5 := Aside0.mk (Kd.R_below HO5.out hb); clear hg hbox hb; have h60 := cz BK6 0; have h61 := cz BK6 1; have f60 := fz BK6 0; have f61 := fz BK6 1)
    | (go_at_call 57; refine (slices_Chunk_int_int.calls _ _ _ 2 (by omega) _).mono ?_; rintro e w7 ⟨Bs, Bn, rfl, hBs, hBn, gBs, gBn, hb⟩; have x6 : ((w6.setCell ⟨g6, 0, none⟩ (.int .i64 z0)).setCell ⟨g6, 1, none⟩ (.slice none 0 0)).heap[g6]? = some (.cells #[.int .i64 z0, .slice none 0 0] 28 (0, 0)) := blk_put (cs := #[.int .i64 z0, .slice none 0 0]) (blk_put (cs := #[.int .i64 0, .slice none 0 0]) BK6.out 0 (.int .i64 z0) rfl) 1 (.slice none 0 0) rfl; have x2 : ((w6.setCell ⟨g6, 0, none⟩ (.int .i64 z0)).setCell ⟨g6, 1, none⟩ (.slice none 0 0)).heap[g2]? = _ := blk_far (blk_far BK2.out NB26.out _) NB26.out _; have x5 := Kd.R_set (Kd.R_set HO5.out BK6.out (by decide) 0 (.int .i64 z0)) (blk_put (cs := #[.int .i64 0, .slice none 0 0]) BK6.out 0 (.int .i64 z0) rfl) (by decide) 1 (.slice none 0 0); have xb := below_set (below_set HB.out GE6.out : Below w.heap.size w (w6.setCell ⟨g6, 0, none⟩ (.int .i64 z0))) GE6.out (j := 1) (v := .slice none 0 0); have l6 := blk_lt x6; have BK6y := Aside0.mk (blk_below x6 hb); have BK2y := Aside0.mk (blk_below x2 hb); have HO5y := Aside0.mk (Kd.R_below x5 hb); have HBy := Aside0.mk (below_step xb hb); have NS6 : Aside0 (Bs ≠ g6) := ⟨by omega⟩; have NN6 : Aside0 (Bn ≠ g6) := ⟨by omega⟩; have HBS := Aside0.mk hBs; have HBN := Aside0.mk hBn; clear x6 x2 x5 xb hb gBs gBn hBs hBn l6 h60 h61 f60 f61 BK6 BK2 HO5 HB hx0 l4))
  refine wpIn_wide.1 (wpIn_rangeFunc_ownG (n := 3) rfl (by omega) (gf := 91) (lb := #[.pointer (some ⟨Bs, 0, none⟩), .pointer (some ⟨Bn, 0, none⟩)]) rfl trivial (enters_ Tryd.func91 (by kernel_rfl) rfl)
    (slices_Chunk_int_int_1.stops 2 (by omega) Bs Bn g4 1 m 2 (c4 - 1) (by omega) (by omega) (by omega) w7 (cz HBS 0) (cz HBN 0)) (fun h k => ⟨k.1.trans h.1, k.2.trans h.2⟩)
    (fun W l o o' hl _ _ _ => ⟨World.putObj_heap_other (by have := blk_lt HBS.out; omega), World.putObj_heap_other (by have := blk_lt HBN.out; omega)⟩) (Below.refl _ _) (fun _ => rfl)
    (impl_ParseParty.In w z0 g2 g4 c4 g6 Bs Bn m zs) (fun _ _ _ => False) (impl_ParseParty.In.own (below_size HBy.out)) (fun _ _ _ _ _ hs _ _ => hs)
    ⟨⟨none, 0, BK6y.out, Kd.R_nil _ _ _ _ _⟩, HO5y.out, BK2y.out, HBS.out, HBN.out, HBy.out⟩
    (fun x => { tmps := #[.string s, undef, .pointer (some ⟨g2, 0, none⟩), .bool false, .slice (some ⟨g4, 0, none⟩) (2 * m + 1) c4, .bool true, .pointer (some ⟨g6, 0, none⟩), .slice (some ⟨g4, 1 + 2 * (x % m), none⟩) 2 2, .tuple #[.slice (some ⟨g4, 0, none⟩) (2 * m + 1) c4, .bool true], .string s, .tuple #[.slice (some ⟨g4, 0, none⟩) (2 * m + 1) c4, .bool true], .slice (some ⟨g4, 0, none⟩) (2 * m + 1) c4, .bool true, .bool true, .bool false, .bool false, .slice (some ⟨g4, 0, none⟩) (2 * m + 1) c4, .int .i64 (2 * (m : Int) + 1), .int .i64 1, .bool false, .bool false, undef, .slice (some ⟨g4, 0, none⟩) (2 * m + 1) c4, .pointer (some ⟨g4, 0, none⟩), .int .i64 z0, .agg #[.int .i64 z0, .slice none 0 0], .slice (some ⟨g4, 0, none⟩) (2 * m + 1) c4, .slice (some ⟨g4, 1, none⟩) (2 * m) (c4 - 1), .func (.func 91) #[] #[.pointer (some ⟨Bs, 0, none⟩), .pointer (some ⟨Bn, 0, none⟩)], .slice (some ⟨g4, 1 + 2 * (x % m), none⟩) 2 2, undef, undef, undef, undef, undef, undef, undef, undef, undef, undef, undef, undef, undef, undef, undef, undef, undef, undef, undef, undef, undef, undef, undef], defers := [] }) ?assign ?body ?done ?stop)
  case assign =>
    intro l x W K hK
    gi_wp2
    exact hK
  case body =>
    intro l pre x W h hl
    obtain ⟨Av, cv, h6, hv⟩ := h.row
    have hx : x % m < m := Nat.mod_lt _ hm
    have z1 := impl_ParseParty.row_cells h.nums (1 + 2 * (x % m)) (by have := HZL.out; omega)
    have z2 := impl_ParseParty.row_cells h.nums (1 + 2 * (x % m) + 1) (by have := HZL.out; omega)
    have hpr : impl_ParseParty.pr zs m x = ⟨zs.getD (1 + 2 * (x % m)) 0, zs.getD (1 + 2 * (x % m) + 1) 0⟩ := rfl
    obtain ⟨y1, hy1⟩ : ∃ y_, y_ = zs.getD (1 + 2 * (x % m)) 0 := ⟨_, rfl⟩
    obtain ⟨y2, hy2⟩ : ∃ y_, y_ = zs.getD (1 + 2 * (x % m) + 1) 0 := ⟨_, rfl⟩
    obtain ⟨j, hj⟩ : ∃ j_, j_ = 1 + 2 * (x % m) := ⟨_, rfl⟩
    rw [← hy1] at z1 hpr
    rw [← hy2] at z2 hpr
    rw [← hj] at z1 z2 ⊢
    have HJ := Aside0.mk hj
    clear hy1 hy2 hj
    gi_wp2
    refine impl_ParseParty.start_in (n := 13) (S := fun w' => w'.cell? ⟨g6, 1, none⟩ = some (.slice Av pre.length cv) ∧ w'.cell? ⟨g4, j, none⟩ = some (.int .i64 y1) ∧ w'.cell? ⟨g4, j + 1, none⟩ = some (.int .i64 y2)) (ds := [12]) (bz 13 0) (by kernel_rfl) rfl rfl (by kernel_rfl) (fun ⟨_, _, h⟩ => h) ⟨(blk_cell h6 1).trans rfl, z1, z2⟩ (fun hHeld => ?_)
    obtain ⟨_, _, e4, _, _, cells4, h4⟩ := Kd.R_form h.nums (by have := HZL.out; omega)
    injection e4 with e4a _ _
    injection e4a with e4b
    injection e4b with e4c _ _
    subst e4c
    have D6 : W.drew.heap[g6]? = _ := blk_drew h6
    have D4 : W.drew.heap[g4]? = _ := blk_drew h4
    have D2 : W.drew.heap[g2]? = _ := blk_drew h.res
    have DS : W.drew.heap[Bs]? = _ := blk_drew h.bs
    have DN : W.drew.heap[Bn]? = _ := blk_drew h.bn
    have Dv := Kd.R_drew hv
    have Dn := Kd.R_drew h.nums
    have Db := below_drew1 h.below
    have Dk := KeepsOthers.drew W
    have d1 : W.drew.cell? ⟨g4, j, none⟩ = some (.int .i64 y1) := z1
    have d2 : W.drew.cell? ⟨g4, j + 1, none⟩ = some (.int .i64 y2) := z2
    refine with_tabW impl_ParseParty.tab7 impl_ParseParty.bits7 (fun HT_ HW_ => ?_)
    generalize W.drew = Wd at D6 D4 D2 DS DN Dv Dn Db Dk d1 d2 hHeld ⊢
    refine run_ [(0, 0, 1, some 30), (1, 1, 3, some 31), (0, 2, 7, some 32), (0, 3, 15, some 33), (1, 4, 31, some 34), (0, 5, 63, some 35), (0, 6, 127, some 36), (1, 7, 255, some 37), (0, 8, 511, some 38)] ?_
    repeat (first | (apply tag0; refine run_p (v := ?_) (a' := ?_) rfl rfl (any_of HT_.out (by kernel_rfl)) (fun _ _ _ h => h) (by rfl) ?_ ?_ ?_; rotate_left 2; (intro w'; go_simp; with_reducible rfl); (first | (simp only [Act.put, List.setIfInBounds_toArray, List.set_cons_zero, List.set_cons_succ, i64_w, i32_w]; rfl) | rfl)) | (apply tag1; refine run_t (v := ?_) (a' := ?_) rfl rfl (take_ofW HT_.out HW_.out (by kernel_rfl)) (fun _ _ _ h => h) (by rfl) ?_ hHeld ?_ ?_; rotate_left 2; (rintro w' ⟨s0, s1, s2⟩; go_simp; with_reducible rfl); (first | (simp only [Act.put, List.setIfInBounds_toArray, List.set_cons_zero, List.set_cons_succ, i64_w, i32_w]; rfl) | rfl)))
    refine run_nil ?_
    have SW : ∀ W' : World, W'.heap[g6]? = some (.cells #[.int .i64 z0, .slice Av pre.length cv] 28 (0, 0)) → W'.heap[g4]? = Wd.heap[g4]? → (W'.cell? ⟨g6, 1, none⟩ = some (.slice Av pre.length cv) ∧ W'.cell? ⟨g4, j, none⟩ = some (.int .i64 y1) ∧ W'.cell? ⟨g4, j + 1, none⟩ = some (.int .i64 y2)) := fun W' a6 a4 => ⟨(blk_cell a6 1).trans rfl, (World.cell?_of_block (a := ⟨g4, j, none⟩) a4).trans d1, (World.cell?_of_block (a := ⟨g4, j + 1, none⟩) a4).trans d2⟩
    refine one_ (i := 9) (N := some 39) (bz 13 1023) rfl rfl (one_of HT_.out (by kernel_rfl)) (by decide) (fun K hK => ?_)
    refine value_ (w1 := ?_) (v := ?_) (by rfl) rfl ?_ ?_
    rotate_left 2
    · go_simp
      constructor
      · rfl
      · rfl
    refine hK.out _ _ (SW _ (blk_alloc D6 _) ((blk_alloc D4 _).trans D4.symm)) (fun hHeld => ?_)
    clear hK K
    refine norm_ (a' := ?_) ?_ ?_
    rotate_left
    · show Act.put _ (some 39) _ = _
      simp only [Act.put, List.setIfInBounds_toArray, List.set_cons_zero, List.set_cons_succ, i64_w, i32_w]
      rfl
    refine one_ (i := 10) (N := some 40) (bz 13 2047) rfl rfl (one_of HT_.out (by kernel_rfl)) (by decide) (fun K hK => ?_)
    refine Kd.R_append_step k73 (w0 := w) w.heap.size (by rfl) (.tmp 31) (.tmp 39) 26 73 (.agg #[.int .i64 0, .int .i64 0]) 16 rfl Tryd.underlying26 info73 rfl (by decide) (by omega) (.slice Av pre.length cv) (pre.map (impl_ParseParty.pr zs m)) (impl_ParseParty.pr zs m x) [.int .i64 y1, .int .i64 y2] (fun _ => True) (fun _ => False) rfl rfl ?aP (fun _ hk => hk.elim) ?aF ?aO ?aB ?aS ?aL ?_
    case aP => rw [hpr]; exact k73_mkM _ _ _ (⟨y1, y2⟩ : S73)
    case aB => exact Db
    case aF => exact (fun _ _ => trivial)
    case aO => exact Dv
    case aS => exact Db.size
    case aL => rw [List.length_map]; omega
    intro v8 w8 ho hb hg hat
    rw [show pre.map (impl_ParseParty.pr zs m) ++ [impl_ParseParty.pr zs m x] = (pre ++ [x]).map (impl_ParseParty.pr zs m) from by rw [List.map_append]; rfl] at ho
    obtain ⟨A8, c8, e8⟩ := Kd.R_slice ho
    have hle : (pre ++ [x]).length = pre.length + 1 := by rw [List.length_append]; rfl
    rw [List.length_map, hle] at e8
    subst e8
    have N6 := blk_grown D6 hg (Kd.R_ne Dv D6 (by decide))
    have N4 := blk_grown D4 hg (Kd.R_ne Dv D4 (by decide))
    have N2 := blk_grown D2 hg (Kd.R_ne Dv D2 (by decide))
    have NS := blk_grown DS hg (Kd.R_ne Dv DS (by decide))
    have NN := blk_grown DN hg (Kd.R_ne Dv DN (by decide))
    have Nn := Kd.R_mono (ok' := fun _ => True) (Kd.R_grown (Kd.R_bound Dn) hg (fun k_ hk => by
      obtain ⟨_, _, _, q, hq, cells, hc⟩ := hk
      exact Kd.R_ne Dv hc (by
        rcases List.mem_cons.mp hq with h9 | h9
        · exact h9 ▸ (by decide)
        · cases h9))) (fun _ _ => trivial)
    have K8 := Dk.trans (KeepsOthers.of_grownBy hg (fun j o ej hj => by
      obtain ⟨inner, hown⟩ := Kd.R_own Dv
      obtain ⟨cells, hc⟩ := own_typed hown j ej
      rw [hc] at hj
      cases hj
      rfl))
    refine hK.out _ _ (SW _ N6 (N4.trans D4.symm)) (fun hHeld => ?_)
    clear hK K
    refine norm_ (a' := ?_) ?_ ?_
    rotate_left
    · show Act.put _ (some 40) _ = _
      simp only [Act.put, List.setIfInBounds_toArray, List.set_cons_zero, List.set_cons_succ, i64_w, i32_w]
      rfl
    refine run_ [(0, 11, 4095, some 41)] ?_
    repeat (apply tag0; refine run_p (v := ?_) (a' := ?_) rfl rfl (any_of HT_.out (by kernel_rfl)) (fun _ _ _ h => h) (by rfl) ?_ ?_ ?_; rotate_left 2; (intro w'; go_simp; with_reducible rfl); (first | (simp only [Act.put, List.setIfInBounds_toArray, List.set_cons_zero, List.set_cons_succ, i64_w, i32_w]; rfl) | rfl))
    refine run_nil ?_
    refine last_ (i := 12) (N := none) (bz 13 8191) rfl rfl (one_of HT_.out (by kernel_rfl)) (by decide) (fun K hK => ?_)
    have hs9 : w8.cell? ⟨g6, 1, none⟩ = some (.slice Av pre.length cv) := (blk_cell N6 1).trans rfl
    have hf9 := blk_frozen N6 1
    refine skip_ (w1 := ?_) (by rfl) rfl ?_ ?_
    rotate_left
    · go_simp
      rfl
    refine hK.out _ _ ?_
    clear hK K
    refine done_ (done_of HT_.out (by kernel_rfl)) ?_
    have M2 := blk_far N2 (p := ⟨g6, 1, none⟩) NB26.out (.slice A8 (pre.length + 1) c8)
    have MS := blk_far NS (p := ⟨g6, 1, none⟩) NS6.out (.slice A8 (pre.length + 1) c8)
    have MN := blk_far NN (p := ⟨g6, 1, none⟩) NN6.out (.slice A8 (pre.length + 1) c8)
    show KeepsFrom _ _ _ ∧ _ ∧ _
    exact ⟨(K8.trans (KeepsOthers.setCell _ _ _)).from _, ⟨MS.trans h.bs.symm, MN.trans h.bn.symm⟩,
      ⟨A8, c8, by rw [hle]; exact blk_put (cs := #[.int .i64 z0, .slice Av pre.length cv]) N6 1 _ rfl, by rw [hle]; exact Kd.R_set ho N6 (by decide) 1 _⟩, Kd.R_set Nn N6 (by decide) 1 _, M2, MS, MN, below_set hb GE6.out⟩
  case done =>
    rintro D ys W hD rfl h hK
    obtain ⟨A8, c8, h6, hv⟩ := h.row
    rw [← HPS.out] at hv
    have hpl : (List.range m).length = ps.length := by rw [HPS.out, List.length_map]
    rw [hpl] at h6 hv
    have BK6 := Aside0.mk h6
    have BK2 := Aside0.mk h.res
    have HB := Aside0.mk h.below
    have HV := Aside0.mk hv
    have DD := Aside0.mk hK
    have h60 := cz BK6 0
    have h61 := cz BK6 1
    have h20 := cz BK2 0
    have h21 := cz BK2 1
    have f20 := fz BK2 0
    have f21 := fz BK2 1
    have hwD : w.heap.size ≤ D := Nat.le_trans (below_size HBy.out) hD
    clear h6 hv hK hpl h HO5y BK6y BK2y HBy HBS HBN
    go_wp2_with (first
      | (go_at_call 13; refine (impl_IsParty.calls k z0 A8 c8 ps true _ (cS (Kd.R_reads' HV.out).2.2) (Kd.R_reads' HV.out).2.1 HI.out).mono ?_; rintro e w9 ⟨rfl, hb⟩; replace BK6 := bS BK6 hb; replace BK2 := bS BK2 hb; replace HB := hS HB hb; replace HV := Aside0.mk (Kd.R_below HV.out hb); replace DD := Aside0.mk (blk_below DD.out hb); clear hb h60 h61 h20 h21 f20 f21; have h60 := cz BK6 0; have h61 := cz BK6 1; have h20 := cz BK2 0; have h21 := cz BK2 1; have f20 := fz BK2 0; have f21 := fz BK2 1)
      | (go_at_call 79; refine (impl_partyText.calls k z0 A8 c8 ps s _ (cS (Kd.R_reads' HV.out).2.2) (Kd.R_reads' HV.out).2.1 HT.out).mono ?_; rintro e w10 ⟨rfl, hb⟩; replace BK6 := bS BK6 hb; replace BK2 := bS BK2 hb; replace HB := hS HB hb; replace HV := Aside0.mk (Kd.R_below HV.out hb); replace DD := Aside0.mk (blk_below DD.out hb); clear hb h60 h61 h20 h21 f20 f21; have h60 := cz BK6 0; have h61 := cz BK6 1; have h20 := cz BK2 0; have h21 := cz BK2 1; have f20 := fz BK2 0; have f21 := fz BK2 1))
    have X2 := blk_put (cs := #[.int .i64 z0, .slice none 0 0]) (blk_put (cs := #[.int .i64 0, .slice none 0 0]) BK2.out 0 (.int .i64 z0) rfl) 1 (.slice A8 ps.length c8) rfl
    have XV := Kd.R_set (Kd.R_set HV.out BK2.out (by decide) 0 (.int .i64 z0)) (blk_put (cs := #[.int .i64 0, .slice none 0 0]) BK2.out 0 (.int .i64 z0) rfl) (by decide) 1 (.slice A8 ps.length c8)
    have XB := below_set (below_set HB.out GE2.out : Below w.heap.size w (w10.setCell ⟨g2, 0, none⟩ (.int .i64 z0))) GE2.out (j := 1) (v := .slice A8 ps.length c8)
    have XD := (KeepsOthers.setCell _ ⟨g2, 1, none⟩ (.slice A8 ps.length c8)).same D _ ((KeepsOthers.setCell _ ⟨g2, 0, none⟩ (.int .i64 z0)).same D _ DD.out rfl) rfl
    have hne : g2 ≠ D := by
      rintro rfl
      rw [X2] at XD
      cases XD
    clear h60 h61 h20 h21 f20 f21
    generalize (w10.setCell ⟨g2, 0, none⟩ (.int .i64 z0)).setCell ⟨g2, 1, none⟩ (.slice A8 ps.length c8) = wf at X2 XV XB XD ⊢
    refine ⟨by simp, .inl ⟨D, _, rfl, run_takeDeferred XD, ?_⟩⟩
    exact ⟨_, results_ct rfl _ _ g2 28 #[.int .i64 z0, .slice A8 ps.length c8] (0, 0) _ rfl ((World.putObj_heap_other hne).trans X2) Tryd.underlying28 rfl (by kernel_rfl), ⟨_, rfl, impl_ParseParty.row_from XV (grownBy_putObj' _ D _) (fun r e => by cases e; exact ⟨_, XD, rfl⟩), XB.trans (belowK_b (w := w) (Nat.le_refl _) wf D _ _ hwD XD rfl rfl)⟩⟩
  case stop =>
    intro D c pre W _ _ h _
    exact h.elim

/-! ### impl_FirstDesk: function 23 (a text of this session's own) -/
-- WANTS Derived.RangeFuncBox

def impl_FirstDesk.ring : List S73 := ([(⟨0, 1⟩ : S73), (⟨0, 4⟩ : S73), (⟨1, 2⟩ : S73), (⟨2, 3⟩ : S73), (⟨3, 4⟩ : S73)] : List S73)
def impl_FirstDesk.txt : ByteArray := (⟨#[53, 58, 48, 45, 49, 44, 48, 45, 52, 44, 49, 45, 50, 44, 50, 45, 51, 44, 51, 45, 52]⟩ : ByteArray)
def impl_FirstDesk.f (k : Nat) : Option (Int × (List (S73)) × Int × (List (S73))) := (impl_IsParty.f k 5 impl_FirstDesk.ring).bind fun b => if b = true then ((impl_partyText.f k 5 impl_FirstDesk.ring).bind fun t => if t = impl_FirstDesk.txt then some (5, impl_FirstDesk.ring, 2, ([(⟨0, 1⟩ : S73)] : List (S73))) else none) else none
theorem impl_FirstDesk.mono : ∀ k, LeO (impl_FirstDesk.f k) (impl_FirstDesk.f (k + 1)) := by
  intro k
  unfold impl_FirstDesk.f
  repeat' first
    | (with_reducible exact impl_IsParty.mono _ _ _)
    | (with_reducible exact impl_partyText.mono _ _ _)
    | (with_reducible exact LeO.refl _)
    | (with_reducible exact LeO.none _)
    | (with_reducible refine LeO.ite ?_ ?_)
    | (with_reducible refine LeO.bind ?_ (fun _ => ?_))
theorem impl_FirstDesk.words : Lib.goFieldsP (strings_IndexRune.sg ⟨#[58, 45, 44]⟩) impl_FirstDesk.txt = ([5, 0, 1, 0, 4, 1, 2, 2, 3, 3, 4] : List Nat).map impl_number.tx := by kernel_rfl
set_option maxHeartbeats 4000000 in
set_option maxRecDepth 100000 in
theorem impl_FirstDesk.calls (k : Nat) (r1 : Int) (r2 : List (S73)) (r3 : Int) (r4 : List (S73)) (w : World) (h : impl_FirstDesk.f k = some (r1, r2, r3, r4)) :
  Calls Tryd.prog 23 #[] w fun e w' => ∃ v1_ v3_ : Value, e = .returned (.agg #[.int .i64 r1, v1_, .int .i64 r3, v3_]) ∧ Kd.R k73 73 w' w.heap.size (fun k_ => some k_ ≠ (v3_ : Value).ownBlock) v1_ r2 ∧ Kd.R k73 73 w' w.heap.size (fun k_ => some k_ ≠ (v1_ : Value).ownBlock) v3_ r4 ∧ Below w.heap.size w w' := by
  have hu46 := Tryd.underlying46
  have hu73 := Tryd.underlying73
  have hu28 := Tryd.underlying28
  unfold impl_FirstDesk.f at h
  replace h := Option.bind_eq_some_iff.mp h
  obtain ⟨b, hb0, h⟩ := h
  by_cases cb : b = true
  · rw [if_pos cb] at h
    subst cb
    replace h := Option.bind_eq_some_iff.mp h
    obtain ⟨tt, ht0, h⟩ := h
    by_cases ct : tt = impl_FirstDesk.txt
    · rw [if_pos ct] at h
      subst ct
      simp only [Option.some.injEq, Prod.mk.injEq] at h
      obtain ⟨rfl, rfl, rfl, rfl⟩ := h
      have HPP := Aside0.mk (fun w => impl_ParseParty.calls k impl_FirstDesk.txt (by decide) [5, 0, 1, 0, 4, 1, 2, 2, 3, 3, 4] 5 rfl (by omega) (by omega) (by decide) impl_FirstDesk.words [5, 0, 1, 0, 4, 1, 2, 2, 3, 3, 4] rfl impl_FirstDesk.ring (by rfl) hb0 ht0 w)
      have HB := Aside0.mk (Below.refl w.heap.size w)
      obtain ⟨ring, hring⟩ : ∃ r_, r_ = impl_FirstDesk.ring := ⟨_, rfl⟩
      obtain ⟨one, hone⟩ : ∃ r_, r_ = ([(⟨0, 1⟩ : S73)] : List (S73)) := ⟨_, rfl⟩
      rw [← hring] at HPP ⊢
      rw [← hone]
      have HR := Aside0.mk hring
      have HN := Aside0.mk hone
      have HTX := Aside0.mk (show impl_FirstDesk.txt = (⟨#[53, 58, 48, 45, 49, 44, 48, 45, 52, 44, 49, 45, 50, 44, 50, 45, 51, 44, 51, 45, 52]⟩ : ByteArray) from rfl)
      rw [HTX.out] at HPP
      clear hb0 ht0 hring hone
      go_enter Tryd.func23, Tryd.ntmps23
      go_wp2_with (first
        | ((with_reducible refine gate_dst (N := 0) rfl ?_); refine bxE 0 #[.int .i64 0, .slice none 0 0, .int .i64 0, .slice none 0 0] 46 rfl ?_; intro g0 hg w1 hbox hb; have BK0 := Aside0.mk hbox; have GE0 := gS HB hg; replace HB := hS HB hb; clear hb hbox hg)
        | (go_at_call 51; refine (HPP.out _).mono ?_; rintro e w2 ⟨v2, rfl, ho, hb⟩; have HO2 := Aside0.mk (Kd.R_lower ho (below_size hB)); replace BK0 := bS BK0 hb; replace HB := hS HB hb; clear hb ho; obtain ⟨A2, c2, e2⟩ := Kd.R_slice HO2.out; subst e2)
        | ((with_reducible refine gate_dst (N := 1) rfl ?_); refine bxE 1 #[.int .i64 0, .slice none 0 0] 28 rfl ?_; intro g1 hg w3 hbox hb; have BK1 := Aside0.mk hbox; have GE1 := gS HB hg; have NB01 := nL BK0 hg; replace HO2 := Aside0.mk (Kd.R_below HO2.out hb); replace BK0 := bS BK0 hb; replace HB := hS HB hb; clear hb hbox hg; have h10 := cz BK1 0; have h11 := cz BK1 1; have f10 := fz BK1 0; have f11 := fz BK1 1)
        | ((with_reducible refine gate_dst (N := 9) rfl ?_); refine Kd.R_lit k73 _ 73 ?hg (N := 9) ?hd (xs := ([(⟨0, 1⟩ : S73)] : List S73)) (inner := [.int .i64 0, .int .i64 1]) (ok := fun _ => True) (okp := fun _ => True) ?hr ?hp (fun _ hk => hk) trivial (Below.refl _ _) (Nat.le_refl _) (by simp) ?_; (case hd => rfl); (case hg => rfl); (case hr => first | (go_simp; done) | (go_simp; rfl)); (case hp => exact (Reps.c2 (show Kd.M k73 _ _ _ (⟨0, 1⟩ : S73) [.int .i64 0, .int .i64 1] from (k73_mkM _ _ _ (⟨0, 1⟩ : S73))) (Reps.none _ _))); intro v4 w4 ho hb hg_ hnew_; clear hg_ hnew_; rw [← HN.out] at ho; have x1 := blk_put (cs := #[.int .i64 0, .slice none 0 0]) BK1.out 0 (.int .i64 5) rfl; have x2 := Kd.R_set (Kd.R_set HO2.out BK1.out (by decide) 0 (.int .i64 5)) x1 (by decide) 1 (.slice A2 ring.length c2); have xb := below_set (below_set HB.out GE1.out : Below w.heap.size w (w3.setCell ⟨g1, 0, none⟩ (.int .i64 5))) GE1.out (j := 1) (v := .slice A2 ring.length c2); have HO4 := Aside0.mk (Kd.R_lower (Kd.R_new' ho (Kd.R_lt x2)) (below_size xb)); replace HO2 := Aside0.mk (Kd.R_elder' x2 (Kd.R_base ho) hb); replace BK0 := Aside0.mk (blk_below (blk_far (blk_far BK0.out NB01.out _) NB01.out _) hb); replace HB := Aside0.mk (below_step xb hb); clear h10 h11 f10 f11 x1 x2 xb hb ho BK1; have h00 := cz BK0 0; have h01 := cz BK0 1; have h02 := cz BK0 2; have h03 := cz BK0 3; have f00 := fz BK0 0; have f01 := fz BK0 1; have f02 := fz BK0 2; have f03 := fz BK0 3; obtain ⟨A4, c4, e4⟩ := Kd.R_slice HO4.out; subst e4))
      refine bodyPost_ret (results_cell_row rfl _ _ g0 46 #[.int .i64 5, .slice A2 ring.length c2, .int .i64 2, .slice A4 one.length c4] (0, 0) _ rfl (blk_put (cs := #[.int .i64 5, .slice A2 ring.length c2, .int .i64 2, .slice none 0 0]) (blk_put (cs := #[.int .i64 5, .slice A2 ring.length c2, .int .i64 0, .slice none 0 0]) (blk_put (cs := #[.int .i64 5, .slice none 0 0, .int .i64 0, .slice none 0 0]) (blk_put (cs := #[.int .i64 0, .slice none 0 0, .int .i64 0, .slice none 0 0]) BK0.out 0 (.int .i64 5) rfl) 1 (.slice A2 ring.length c2) rfl) 2 (.int .i64 2) rfl) 3 (.slice A4 one.length c4) rfl) Tryd.underlying46 rfl (by kernel_rfl)) rfl ?_
      exact ⟨_, _, rfl, Kd.R_mono (Kd.R_far (p := ⟨g0, 3, none⟩) (Kd.R_far (p := ⟨g0, 2, none⟩) (Kd.R_far (p := ⟨g0, 1, none⟩) (Kd.R_far (p := ⟨g0, 0, none⟩) (Kd.R_types HO2.out BK0.out (by decide)) (fun _ hk => hk.2) (.int .i64 5)) (fun _ hk => hk.2) (.slice A2 ring.length c2)) (fun _ hk => hk.2) (.int .i64 2)) (fun _ hk => hk.2) (.slice A4 one.length c4)) (fun _ hk => hk.1.2), Kd.R_mono (Kd.R_far (p := ⟨g0, 3, none⟩) (Kd.R_far (p := ⟨g0, 2, none⟩) (Kd.R_far (p := ⟨g0, 1, none⟩) (Kd.R_far (p := ⟨g0, 0, none⟩) (Kd.R_types HO4.out BK0.out (by decide)) (fun _ hk => hk.2) (.int .i64 5)) (fun _ hk => hk.2) (.slice A2 ring.length c2)) (fun _ hk => hk.2) (.int .i64 2)) (fun _ hk => hk.2) (.slice A4 one.length c4)) (fun _ hk => hk.1.2), (below_set (below_set (below_set (below_set HB.out GE0.out (j := 0) (v := .int .i64 5) : Below w.heap.size w (w4.setCell ⟨g0, 0, none⟩ (.int .i64 5))) GE0.out (j := 1) (v := .slice A2 ring.length c2) : Below w.heap.size w ((w4.setCell ⟨g0, 0, none⟩ (.int .i64 5)).setCell ⟨g0, 1, none⟩ (.slice A2 ring.length c2))) GE0.out (j := 2) (v := .int .i64 2) : Below w.heap.size w (((w4.setCell ⟨g0, 0, none⟩ (.int .i64 5)).setCell ⟨g0, 1, none⟩ (.slice A2 ring.length c2)).setCell ⟨g0, 2, none⟩ (.int .i64 2))) GE0.out (j := 3) (v := .slice A4 one.length c4) : Below w.heap.size w ((((w4.setCell ⟨g0, 0, none⟩ (.int .i64 5)).setCell ⟨g0, 1, none⟩ (.slice A2 ring.length c2)).setCell ⟨g0, 2, none⟩ (.int .i64 2)).setCell ⟨g0, 3, none⟩ (.slice A4 one.length c4)))⟩
    · rw [if_neg ct] at h
      cases h
  · rw [if_neg cb] at h
    cases h

/-! ### laws_eqPair: function 106 -/
def laws_eqPair.f (a0_0 : Int) (a0_1 : Int) (a1_0 : Int) (a1_1 : Int) : Option (Bool) := if a0_0 = a1_0 then (if a0_1 = a1_1 then (some true) else (some false)) else (some false)
set_option maxHeartbeats 8000000 in
set_option maxRecDepth 100000 in
theorem laws_eqPair.calls (a0_0 : Int) (a0_1 : Int) (a1_0 : Int) (a1_1 : Int) (r : Bool) (w : World) (h : laws_eqPair.f a0_0 a0_1 a1_0 a1_1 = some r) :
  Calls Tryd.prog 106 #[.agg #[.int .i64 a0_0, .int .i64 a0_1], .agg #[.int .i64 a1_0, .int .i64 a1_1]] w fun e w' => e = .returned (.bool r) ∧ Below w.heap.size w w' := by
 have hu73 := Tryd.underlying73
 have HB := Aside0.mk (Below.refl w.heap.size w)
 have H : (if a0_0 = a1_0 then (if a0_1 = a1_1 then (some true) else (some false)) else (some false)) = some r := h
 clear h
 by_cases c3 : a0_0 = a1_0
 ·rw [if_pos c3] at H
  have c3b0 : (a0_0 == a1_0) = true := beq_iff_eq.mpr c3
  have c3b1 : (a0_0 != a1_0) = false := bne_eq_false_iff_eq.mpr c3
  clear c3
  by_cases c4 : a0_1 = a1_1
  ·rw [if_pos c4] at H
   have c4b0 : (a0_1 == a1_1) = true := beq_iff_eq.mpr c4
   have c4b1 : (a0_1 != a1_1) = false := bne_eq_false_iff_eq.mpr c4
   clear c4
   obtain rfl := Option.some.inj H
   go_enter Tryd.func106, Tryd.ntmps106
   go_wp2_with (first | ((with_reducible refine gate_dst (N := 2) rfl ?_); refine bxE 2 #[.int .i64 a0_0, .int .i64 a0_1] 73 rfl ?_; intro gb140 hg w5 hbox hb; have BK140 := Aside0.mk (hbox); have GW140 := gS HB hg; have GE140 := gS HB hg; replace HB := hS HB hb; clear hb hbox hg) | ((with_reducible refine gate_dst (N := 3) rfl ?_); refine bxE 3 #[.int .i64 a1_0, .int .i64 a1_1] 73 rfl ?_; intro gb141 hg w6 hbox hb; have BK141 := Aside0.mk (hbox); have GW141 := gS HB hg; have GE141 := gS HB hg; have NB140_141 := nL BK140 hg; have NB141_140 := nG BK140 hg; replace BK140 := bS BK140 hb; replace HB := hS HB hb; clear hb hbox hg; have hnb7 := NB140_141.out; have hnc7 := NB141_140.out; have hcz8_0 := cz BK140 0; have hcz8_1 := cz BK140 1; have hfz8_0 := fz BK140 0; have hfz8_1 := fz BK140 1; have hcz9_0 := cz BK141 0; have hcz9_1 := cz BK141 1; have hfz9_0 := fz BK141 0; have hfz9_1 := fz BK141 1))
   go_ret
   exact ⟨by first | rfl | (simp [errW_none, errW_some] <;> rfl) | (simp [*, errW_none, errW_some] <;> rfl), hB⟩
  ·rw [if_neg c4] at H
   have c4b0 : (a0_1 == a1_1) = false := beq_eq_false_iff_ne.mpr c4
   have c4b1 : (a0_1 != a1_1) = true := bne_iff_ne.mpr c4
   obtain rfl := Option.some.inj H
   go_enter Tryd.func106, Tryd.ntmps106
   go_wp2_with (first | ((with_reducible refine gate_dst (N := 2) rfl ?_); refine bxE 2 #[.int .i64 a0_0, .int .i64 a0_1] 73 rfl ?_; intro gb140 hg w10 hbox hb; have BK140 := Aside0.mk (hbox); have GW140 := gS HB hg; have GE140 := gS HB hg; replace HB := hS HB hb; clear hb hbox hg) | ((with_reducible refine gate_dst (N := 3) rfl ?_); refine bxE 3 #[.int .i64 a1_0, .int .i64 a1_1] 73 rfl ?_; intro gb141 hg w11 hbox hb; have BK141 := Aside0.mk (hbox); have GW141 := gS HB hg; have GE141 := gS HB hg; have NB140_141 := nL BK140 hg; have NB141_140 := nG BK140 hg; replace BK140 := bS BK140 hb; replace HB := hS HB hb; clear hb hbox hg; have hnb12 := NB140_141.out; have hnc12 := NB141_140.out; have hcz13_0 := cz BK140 0; have hcz13_1 := cz BK140 1; have hfz13_0 := fz BK140 0; have hfz13_1 := fz BK140 1; have hcz14_0 := cz BK141 0; have hcz14_1 := cz BK141 1; have hfz14_0 := fz BK141 0; have hfz14_1 := fz BK141 1))
   go_ret
   exact ⟨by first | rfl | (simp [errW_none, errW_some] <;> rfl) | (simp [*, errW_none, errW_some] <;> rfl), hB⟩
 ·rw [if_neg c3] at H
  have c3b0 : (a0_0 == a1_0) = false := beq_eq_false_iff_ne.mpr c3
  have c3b1 : (a0_0 != a1_0) = true := bne_iff_ne.mpr c3
  obtain rfl := Option.some.inj H
  go_enter Tryd.func106, Tryd.ntmps106
  go_wp2_with (first | ((with_reducible refine gate_dst (N := 2) rfl ?_); refine bxE 2 #[.int .i64 a0_0, .int .i64 a0_1] 73 rfl ?_; intro gb140 hg w15 hbox hb; have BK140 := Aside0.mk (hbox); have GW140 := gS HB hg; have GE140 := gS HB hg; replace HB := hS HB hb; clear hb hbox hg) | ((with_reducible refine gate_dst (N := 3) rfl ?_); refine bxE 3 #[.int .i64 a1_0, .int .i64 a1_1] 73 rfl ?_; intro gb141 hg w16 hbox hb; have BK141 := Aside0.mk (hbox); have GW141 := gS HB hg; have GE141 := gS HB hg; have NB140_141 := nL BK140 hg; have NB141_140 := nG BK140 hg; replace BK140 := bS BK140 hb; replace HB := hS HB hb; clear hb hbox hg; have hnb17 := NB140_141.out; have hnc17 := NB141_140.out; have hcz18_0 := cz BK140 0; have hcz18_1 := cz BK140 1; have hfz18_0 := fz BK140 0; have hfz18_1 := fz BK140 1; have hcz19_0 := cz BK141 0; have hcz19_1 := cz BK141 1; have hfz19_0 := fz BK141 0; have hfz19_1 := fz BK141 1))
  go_ret
  exact ⟨by first | rfl | (simp [errW_none, errW_some] <;> rfl) | (simp [*, errW_none, errW_some] <;> rfl), hB⟩

end Go.Proofs.YtfehaoadnbcgoaaDoor.PFnExactFirstDesk
