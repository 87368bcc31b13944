-- Of this session's own program wip/gen/gen.py (it drives the kit's print): contracts of the functions that the law reaches.
import Derived.Test.YtjpfbkkikcpmhaaDoorPFnExactPuzzleTextx0
import Derived.Test.YtjpfbkkikcpmhaaDoorPFnExactPuzzleTextx1
import Derived.Test.YtjpfbkkikcpmhaaDoorPFnExactPuzzleTextx3
import Derived.Test.YtjpfbkkikcpmhaaDoorPFnExactPuzzleTextx4
namespace Go.Proofs.YtjpfbkkikcpmhaaDoor.PFnExactPuzzleText
open Go.RowKit Go.Proofs.YtjpfbkkikcpmhaaDoorW.PrintWords Go.Proofs.YtjpfbkkikcpmhaaDoorW.PrintLast Go.Proofs.YtjpfbkkikcpmhaaDoorW.PrintMore Go.Proofs.YtjpfbkkikcpmhaaDoor.Base
attribute [local go_sem] max2_int min2_int max_two min_two max_three min_three max_four min_four   -- for this text's walks alone
set_option linter.unusedVariables false
set_option linter.unusedSimpArgs false

/-! ### impl_puzzleText: function 96 -/
def impl_puzzleText.l0 : Nat → List ByteArray → List (S70) → Int → Int → Int → List (S70) → Option (ByteArray)
 | 0, _, _, _, _, _, _ => none
 | k + 1, x3, x8, x9, x10, x175000, x175001 => if x10 < x9 then (if 0 ≤ x10 then (if x10 < (x8.length : Int) then ((strconv_Itoa.f ((rd_T70 x8 x10).f0)).bind fun t180 => (if t180.size + 1 ≤ 9223372036854775807 then ((strconv_Itoa.f ((rd_T70 x8 x10).f1)).bind fun t181 => (if (t180 ++ (⟨#[46]⟩ : ByteArray)).size + t181.size ≤ 9223372036854775807 then (if ((t180 ++ (⟨#[46]⟩ : ByteArray)) ++ t181).size + 1 ≤ 9223372036854775807 then ((strconv_Itoa.f ((rd_T70 x8 x10).f2)).bind fun t182 => (if (((t180 ++ (⟨#[46]⟩ : ByteArray)) ++ t181) ++ (⟨#[46]⟩ : ByteArray)).size + t182.size ≤ 9223372036854775807 then (if x3.length < 8796093022208 then (impl_puzzleText.l0 k (x3 ++ [(((t180 ++ (⟨#[46]⟩ : ByteArray)) ++ t181) ++ (⟨#[46]⟩ : ByteArray)) ++ t182]) x8 x9 (wrap64 (x10 + 1)) x175000 x175001) else (none)) else (none))) else (none)) else (none))) else (none))) else (none)) else (none)) else ((strconv_Itoa.f x175000).bind fun t186 => (if t186.size + 1 ≤ 9223372036854775807 then ((strings_Join.f x3 (⟨#[44]⟩ : ByteArray)).bind fun t187 => (if (t186 ++ (⟨#[58]⟩ : ByteArray)).size + t187.size ≤ 9223372036854775807 then (some ((t186 ++ (⟨#[58]⟩ : ByteArray)) ++ t187)) else (none))) else (none)))
def impl_puzzleText.f (k : Nat) (a0_0 : Int) (l0_1 : List (S70)) : Option (ByteArray) := impl_puzzleText.l0 k (([] : List ByteArray)) l0_1 (l0_1.length : Int) 0 a0_0 l0_1
theorem impl_puzzleText.mono_l : ∀ k, (∀ y0 y1 y2 y3 y4 y5, LeO (impl_puzzleText.l0 k y0 y1 y2 y3 y4 y5) (impl_puzzleText.l0 (k + 1) y0 y1 y2 y3 y4 y5))
 | 0 => fun _ _ _ _ _ _ r h => by simp [impl_puzzleText.l0] at h
 | k + 1 => by
  have ih0 := impl_puzzleText.mono_l k
  ·intro y0 y1 y2 y3 y4 y5
   unfold impl_puzzleText.l0
   repeat' first
   | (with_reducible exact ih0 _ _ _ _ _ _)
   | (with_reducible exact LeO.refl _)
   | (with_reducible exact LeO.none _)
   | (with_reducible refine LeO.ite ?_ ?_)
   | (with_reducible refine LeO.bind ?_ (fun _ => ?_))
   | exact ih0 _ _ _ _ _ _
   | exact LeO.none _
   | refine LeO.ite ?_ ?_
   | refine LeO.bind ?_ (fun _ => ?_)
theorem impl_puzzleText.mono : ∀ a0 a1 k, LeO (impl_puzzleText.f k a0 a1) (impl_puzzleText.f (k + 1) a0 a1) := by
 intro a0 a1 k
 have ih0 := impl_puzzleText.mono_l k
 unfold impl_puzzleText.f
 repeat' first
   | (with_reducible exact ih0 _ _ _ _ _ _)
   | (with_reducible exact LeO.refl _)
   | (with_reducible exact LeO.none _)
   | (with_reducible refine LeO.ite ?_ ?_)
   | (with_reducible refine LeO.bind ?_ (fun _ => ?_))
   | exact ih0 _ _ _ _ _ _
   | exact LeO.none _
   | refine LeO.ite ?_ ?_
   | refine LeO.bind ?_ (fun _ => ?_)
def impl_puzzleText.T5 : Bool × List (List Nat × List Nat) := (true, [([], []), ([], []), ([1], [1]), ([2], [2]), ([3], [3]), ([], []), ([5], [5]), ([6, 3], [6]), ([4, 7], [4, 7]), ([8], [8]), ([], []), ([10], [10]), ([11, 7], [11]), ([9, 12], [9, 12]), ([13], [13]), ([0, 14, 12], [0, 14]), ([15, 15, 0, 1, 2, 3, 4, 5, 6, 7, 8, 9, 10, 11, 12, 13, 14, 15], [0, 15])])
def impl_puzzleText.B5 : List Nat := [0, 0, 2, 6, 14, 0, 32, 110, 254, 510, 0, 1024, 3310, 8190, 16382, 32767, 65535]
theorem impl_puzzleText.tab5 : rtab .any (opsOf Tryd.f96 5) = impl_puzzleText.T5 := by kernel_rfl
theorem impl_puzzleText.bits5 : waitsOk impl_puzzleText.T5.2 impl_puzzleText.B5 = true := by kernel_rfl
set_option maxHeartbeats 8000000 in
set_option maxRecDepth 100000 in
theorem impl_puzzleText.calls (k : Nat) (a0_0 : Int) (A0_1 : Option Addr) (c0_1 : Nat) (l0_1 : List (S70)) (r : ByteArray) (w : World) (hr0_1 : Kd.C k70 w A0_1 l0_1.length l0_1) (hc0_1 : l0_1.length ≤ c0_1) (h : impl_puzzleText.f k a0_0 l0_1 = some r) :
  Calls Tryd.prog 96 #[.agg #[.int .i64 a0_0, .slice A0_1 l0_1.length c0_1]] w fun e w' => e = .returned (.string r) ∧ Below w.heap.size w w' := by
 have hu28 := Tryd.underlying28
 have hu70 := Tryd.underlying70
 have HR0_1 := Aside0.mk hr0_1
 have HC0_1 := Aside0.mk hc0_1
 clear hr0_1 hc0_1
 have HB := Aside0.mk (Below.refl w.heap.size w)
 have H : (impl_puzzleText.l0 k (([] : List ByteArray)) l0_1 (l0_1.length : Int) 0 a0_0 l0_1) = some r := h
 clear h
 obtain ⟨y175, hy175⟩ : ∃ y_ : List ByteArray, y_ = (([] : List ByteArray)) := ⟨_, rfl⟩
 replace H : (impl_puzzleText.l0 k y175 l0_1 (l0_1.length : Int) 0 a0_0 l0_1) = some r := by first | (rw [hy175]; with_reducible exact H) | (have H2_ := (Option.bind_some _ _).symm.trans H; rw [hy175]; with_reducible exact H2_) | (have H2_ := (Option.bind_some _ _).symm.trans H; with_reducible exact H2_) | with_reducible exact H | (rw [hy175]; exact H) | exact H
 have Ny175 := Aside0.mk hy175
 clear hy175
 have H' := Aside0.mk H
 clear H
 go_enter Tryd.func96, Tryd.ntmps96
 go_wp2_with (first | ((with_reducible refine gate_dst (N := 1) rfl ?_); refine bxE 1 #[.int .i64 a0_0, .slice A0_1 l0_1.length c0_1] 28 rfl ?_; intro gb174 hg w2 hbox hb; have BK174 := Aside0.mk (hbox); have GW174 := gS HB hg; have GE174 := gS HB hg; replace HB := hS HB hb; clear hb hbox hg) | ((with_reducible refine gate_dst (N := 6) rfl ?_); refine Kd.R_lit Kd.string _ 9 ?hg (N := 6) ?hd (xs := ([] : List ByteArray)) (inner := []) (ok := fun _ => True) (okp := fun _ => True) ?hr ?hp (fun _ hk => hk) trivial (Below.refl _ _) (Nat.le_refl _) (by simp) ?_; (case hd => rfl); (case hg => rfl); (case hr => first | (go_simp; done) | (go_simp; rfl)); (case hp => exact (Reps.none _ _)); intro v176 w3 ho4 hb hg_ hnew_; clear hg_ hnew_; (first | rw [← Ny175.out] at ho4 | (simp only [Int.reduceToNat] at ho4; rw [← Ny175.out] at ho4)); have HO177 := Aside0.mk (Kd.R_lower ho4 (below_size hB)); replace BK174 := bS BK174 hb; replace HB := hS HB hb; clear hb ho4; have hcz5_0 := cz BK174 0; have hcz5_1 := cz BK174 1; have hfz5_0 := fz BK174 0; have hfz5_1 := fz BK174 1))
 go_loopg [3, 10] k (fun kq v3 v10 w' => ∃ (x3_1 : List ByteArray) (x10_1 : Int), v10 = .int .i64 x10_1 ∧ Aside0 (impl_puzzleText.l0 kq x3_1 l0_1 (l0_1.length : Int) x10_1 a0_0 l0_1 = some r) ∧ Aside0 (kq ≤ k) ∧ Aside0 (Kd.R Kd.string 9 w' w.heap.size (fun _ => True) v3 x3_1) ∧ Aside0 (w'.heap[gb174]? = some (.cells #[.int .i64 a0_0, (.slice A0_1 l0_1.length c0_1)] 28 (0, 0))) ∧ Aside0 (Below w.heap.size w w'))
 case atStart => exact ⟨(y175), (0), (by first | rfl | (simp; done) | (simp [*]; done)), H', ⟨Nat.le_refl _⟩, ⟨rU HO177⟩, ⟨bK⟩, ⟨hB⟩⟩
 case round =>
  clear H'
  try clear p2
  try clear hcz5_0
  try clear hcz5_1
  try clear hfz5_0
  try clear hfz5_1
  obtain ⟨x3_1, x10_1, rfl, HA, HK1, HO_3, BK174, HB⟩ := hrel
  cases gk with
  | zero => exact absurd HA.out (by simp [impl_puzzleText.l0])
  | succ k1 =>
   have H := HA.out
   clear HA
   simp only [impl_puzzleText.l0] at H
   by_cases c6 : x10_1 < (l0_1.length : Int)
   ·rw [if_pos c6] at H
    have c6b0 : decide (x10_1 < (l0_1.length : Int)) = true := decide_eq_true c6
    clear c6
    by_cases c7 : 0 ≤ x10_1
    ·rw [if_pos c7] at H
     have c7b0 : decide (0 ≤ x10_1) = true := decide_eq_true c7
     clear c7
     by_cases c8 : x10_1 < (l0_1.length : Int)
     ·rw [if_pos c8] at H
      have c8b0 : decide (x10_1 < (l0_1.length : Int)) = true := decide_eq_true c8
      clear c8
      replace H := Option.bind_eq_some_iff.mp H
      obtain ⟨t180, A90, H⟩ := H
      try dsimp only at H
      have A9 := Aside0.mk A90
      clear A90
      by_cases c10 : t180.size + 1 ≤ 9223372036854775807
      ·rw [if_pos c10] at H
       have c10b0 := eq_true c10
       have c10b1 : decide (t180.size + 1 ≤ 9223372036854775807) = true := decide_eq_true c10
       try have c10b2 : (9223372036854775807 < t180.size + 1) = False := eq_false (Nat.not_lt.2 c10)
       replace H := Option.bind_eq_some_iff.mp H
       obtain ⟨t181, A110, H⟩ := H
       try dsimp only at H
       have A11 := Aside0.mk A110
       clear A110
       by_cases c12 : (t180 ++ (⟨#[46]⟩ : ByteArray)).size + t181.size ≤ 9223372036854775807
       ·rw [if_pos c12] at H
        have c12b0 := eq_true c12
        have c12b1 : decide ((t180 ++ (⟨#[46]⟩ : ByteArray)).size + t181.size ≤ 9223372036854775807) = true := decide_eq_true c12
        try have c12b2 : (9223372036854775807 < (t180 ++ (⟨#[46]⟩ : ByteArray)).size + t181.size) = False := eq_false (Nat.not_lt.2 c12)
        have c12m : ¬ (9223372036854775807 < (t180 ++ (⟨#[46]⟩ : ByteArray)).size + t181.size) := Nat.not_lt.2 c12
        simp only [ByteArray.size_append, bsz1] at c12m
        replace c12m := eq_false c12m
        by_cases c13 : ((t180 ++ (⟨#[46]⟩ : ByteArray)) ++ t181).size + 1 ≤ 9223372036854775807
        ·rw [if_pos c13] at H
         have c13b0 := eq_true c13
         have c13b1 : decide (((t180 ++ (⟨#[46]⟩ : ByteArray)) ++ t181).size + 1 ≤ 9223372036854775807) = true := decide_eq_true c13
         try have c13b2 : (9223372036854775807 < ((t180 ++ (⟨#[46]⟩ : ByteArray)) ++ t181).size + 1) = False := eq_false (Nat.not_lt.2 c13)
         have c13m : ¬ (9223372036854775807 < ((t180 ++ (⟨#[46]⟩ : ByteArray)) ++ t181).size + 1) := Nat.not_lt.2 c13
         simp only [ByteArray.size_append, bsz1] at c13m
         replace c13m := eq_false c13m
         replace H := Option.bind_eq_some_iff.mp H
         obtain ⟨t182, A140, H⟩ := H
         try dsimp only at H
         have A14 := Aside0.mk A140
         clear A140
         by_cases c15 : (((t180 ++ (⟨#[46]⟩ : ByteArray)) ++ t181) ++ (⟨#[46]⟩ : ByteArray)).size + t182.size ≤ 9223372036854775807
         ·rw [if_pos c15] at H
          have c15b0 := eq_true c15
          have c15b1 : decide ((((t180 ++ (⟨#[46]⟩ : ByteArray)) ++ t181) ++ (⟨#[46]⟩ : ByteArray)).size + t182.size ≤ 9223372036854775807) = true := decide_eq_true c15
          try have c15b2 : (9223372036854775807 < (((t180 ++ (⟨#[46]⟩ : ByteArray)) ++ t181) ++ (⟨#[46]⟩ : ByteArray)).size + t182.size) = False := eq_false (Nat.not_lt.2 c15)
          have c15m : ¬ (9223372036854775807 < (((t180 ++ (⟨#[46]⟩ : ByteArray)) ++ t181) ++ (⟨#[46]⟩ : ByteArray)).size + t182.size) := Nat.not_lt.2 c15
          simp only [ByteArray.size_append, bsz1] at c15m
          replace c15m := eq_false c15m
          by_cases c16 : x3_1.length < 8796093022208
          ·rw [if_pos c16] at H
           have LMc16 := Aside0.mk c16
           clear c16
           obtain ⟨y183, hy183⟩ : ∃ y_ : List ByteArray, y_ = (x3_1 ++ [(((t180 ++ (⟨#[46]⟩ : ByteArray)) ++ t181) ++ (⟨#[46]⟩ : ByteArray)) ++ t182]) := ⟨_, rfl⟩
           replace H : (impl_puzzleText.l0 k1 y183 l0_1 (l0_1.length : Int) (wrap64 (x10_1 + 1)) a0_0 l0_1) = some r := by first | (rw [hy183]; with_reducible exact H) | (have H2_ := (Option.bind_some _ _).symm.trans H; rw [hy183]; with_reducible exact H2_) | (have H2_ := (Option.bind_some _ _).symm.trans H; with_reducible exact H2_) | with_reducible exact H | (rw [hy183]; exact H) | exact H
           have Ny183 := Aside0.mk hy183
           clear hy183
           have H' := Aside0.mk H
           clear H
           have p178 : 0 ≤ (x10_1 : Int) := of_decide_eq_true (by first | (with_reducible assumption) | assumption)
           have q178 : x10_1 < (l0_1.length : Int) := of_decide_eq_true (by first | (with_reducible assumption) | assumption)
           obtain ⟨ad178, e178, hx178_0, hx178_1, hx178_2⟩ := at_T70 HR0_1.out x10_1 p178 q178
           cases e178
           replace hx178_0 := (HB.out.cell (World.block_lt_of_cell? w _ hx178_0)).trans hx178_0
           replace hx178_1 := (HB.out.cell (World.block_lt_of_cell? w _ hx178_1)).trans hx178_1
           replace hx178_2 := (HB.out.cell (World.block_lt_of_cell? w _ hx178_2)).trans hx178_2
           replace p178 := eq_true p178
           replace q178 := eq_true q178
           try go_wp2_with (first | ((with_reducible refine gate_dst (N := 5) rfl ?_); refine bxE 5 #[.int .i64 0, .int .i64 0, .int .i64 0] 70 rfl ?_; intro gb179 hg w17 hbox hb; have BK179 := Aside0.mk (hbox); have GW179 := gS HB hg; have GE179 := gS HB hg; have NB174_179 := nL BK174 hg; have NB179_174 := nG BK174 hg; replace HO_3 := Aside0.mk (Kd.R_below (rU HO_3) hb); replace BK174 := bS BK174 hb; replace HB := hS HB hb; clear hb hbox hg; have hnb18 := NB179_174.out; have hnc18 := NB174_179.out; have hcz19_0 := cz BK179 0; have hcz19_1 := cz BK179 1; have hcz19_2 := cz BK179 2; have hfz19_0 := fz BK179 0; have hfz19_1 := fz BK179 1; have hfz19_2 := fz BK179 2))
           have n0_ : Aside0 (Kd.R Kd.string 9 (((w17.setCell ⟨gb179, 0, none⟩ (.int .i64 ((rd_T70 l0_1 x10_1).f0))).setCell ⟨gb179, 1, none⟩ (.int .i64 ((rd_T70 l0_1 x10_1).f1))).setCell ⟨gb179, 2, none⟩ (.int .i64 ((rd_T70 l0_1 x10_1).f2))) w.heap.size (fun _ => True) u3 x3_1) := ⟨by (with_reducible repeat (first | apply Kd.R_alloc | apply Kd.R_drewN | apply Kd.R_drew)); exact Kd.R_mono (Kd.R_far (p := ⟨gb179, 2, none⟩) (Kd.R_far (p := ⟨gb179, 1, none⟩) (Kd.R_far (p := ⟨gb179, 0, none⟩) (Kd.R_types HO_3.out BK179.out (by decide)) (fun _ hk => hk.2) (.int .i64 ((rd_T70 l0_1 x10_1).f0))) (fun _ hk => hk.2) (.int .i64 ((rd_T70 l0_1 x10_1).f1))) (fun _ hk => hk.2) (.int .i64 ((rd_T70 l0_1 x10_1).f2))) (fun _ hk => trivial)⟩
           have n1_ : Aside0 ((((w17.setCell ⟨gb179, 0, none⟩ (.int .i64 ((rd_T70 l0_1 x10_1).f0))).setCell ⟨gb179, 1, none⟩ (.int .i64 ((rd_T70 l0_1 x10_1).f1))).setCell ⟨gb179, 2, none⟩ (.int .i64 ((rd_T70 l0_1 x10_1).f2))).heap[gb174]? = some (.cells #[.int .i64 a0_0, .slice (some ad178) l0_1.length c0_1] 28 (0, 0))) := ⟨by (with_reducible repeat (first | refine blk_drewN ?_ _ | refine blk_drew ?_ | refine blk_alloc ?_ _)); refine blk_far ?_ NB174_179.out _; (with_reducible repeat (first | refine blk_drewN ?_ _ | refine blk_drew ?_ | refine blk_alloc ?_ _)); refine blk_far ?_ NB174_179.out _; (with_reducible repeat (first | refine blk_drewN ?_ _ | refine blk_drew ?_ | refine blk_alloc ?_ _)); refine blk_far ?_ NB174_179.out _; (with_reducible repeat (first | refine blk_drewN ?_ _ | refine blk_drew ?_ | refine blk_alloc ?_ _)); exact BK174.out⟩
           have n2_ : Aside0 ((((w17.setCell ⟨gb179, 0, none⟩ (.int .i64 ((rd_T70 l0_1 x10_1).f0))).setCell ⟨gb179, 1, none⟩ (.int .i64 ((rd_T70 l0_1 x10_1).f1))).setCell ⟨gb179, 2, none⟩ (.int .i64 ((rd_T70 l0_1 x10_1).f2))).heap[gb179]? = some (.cells #[.int .i64 ((rd_T70 l0_1 x10_1).f0), .int .i64 ((rd_T70 l0_1 x10_1).f1), .int .i64 ((rd_T70 l0_1 x10_1).f2)] 70 (0, 0))) := ⟨by (with_reducible repeat (first | refine blk_drewN ?_ _ | refine blk_drew ?_ | refine blk_alloc ?_ _)); refine blk_put (cs := #[.int .i64 ((rd_T70 l0_1 x10_1).f0), .int .i64 ((rd_T70 l0_1 x10_1).f1), .int .i64 0]) ?_ 2 _ rfl; (with_reducible repeat (first | refine blk_drewN ?_ _ | refine blk_drew ?_ | refine blk_alloc ?_ _)); refine blk_put (cs := #[.int .i64 ((rd_T70 l0_1 x10_1).f0), .int .i64 0, .int .i64 0]) ?_ 1 _ rfl; (with_reducible repeat (first | refine blk_drewN ?_ _ | refine blk_drew ?_ | refine blk_alloc ?_ _)); refine blk_put (cs := #[.int .i64 0, .int .i64 0, .int .i64 0]) ?_ 0 _ rfl; (with_reducible repeat (first | refine blk_drewN ?_ _ | refine blk_drew ?_ | refine blk_alloc ?_ _)); exact BK179.out⟩
           have n3_ : Aside0 (Below w.heap.size w (((w17.setCell ⟨gb179, 0, none⟩ (.int .i64 ((rd_T70 l0_1 x10_1).f0))).setCell ⟨gb179, 1, none⟩ (.int .i64 ((rd_T70 l0_1 x10_1).f1))).setCell ⟨gb179, 2, none⟩ (.int .i64 ((rd_T70 l0_1 x10_1).f2)))) := ⟨hB⟩
           (try clear HO_3)
           (try clear BK174)
           (try clear BK179)
           (try clear HB)
           generalize (((w17.setCell ⟨gb179, 0, none⟩ (.int .i64 ((rd_T70 l0_1 x10_1).f0))).setCell ⟨gb179, 1, none⟩ (.int .i64 ((rd_T70 l0_1 x10_1).f1))).setCell ⟨gb179, 2, none⟩ (.int .i64 ((rd_T70 l0_1 x10_1).f2))) = w20 at n0_ n1_ n2_ n3_ ⊢
           have HO_3 := n0_
           have BK174 := n1_
           have BK179 := n2_
           have HB := n3_
           clear n0_ n1_ n2_ n3_
           replace HO_3 := Aside0.mk (Kd.R_drew HO_3.out)
           replace BK174 := Aside0.mk (blk_drew BK174.out)
           replace BK179 := Aside0.mk (blk_drew BK179.out)
           replace HB := Aside0.mk (below_drew1 HB.out)
           refine start_ (n := 17) (S := fun w' => w'.cell? ⟨gb179, 0, none⟩ = some (.int .i64 ((rd_T70 l0_1 x10_1).f0)) ∧ w'.cell? ⟨gb179, 1, none⟩ = some (.int .i64 ((rd_T70 l0_1 x10_1).f1)) ∧ w'.cell? ⟨gb179, 2, none⟩ = some (.int .i64 ((rd_T70 l0_1 x10_1).f2))) (ds := []) (bz 17 0) (by kernel_rfl) rfl rfl ⟨(blk_cell BK179.out 0).trans rfl, (blk_cell BK179.out 1).trans rfl, (blk_cell BK179.out 2).trans rfl⟩ (fun hHeld => ?_); refine with_tabW impl_puzzleText.tab5 impl_puzzleText.bits5 (fun HT_ HW_ => ?_)
           generalize w20.drew = w21 at HO_3 BK174 BK179 HB hHeld ⊢
           refine run_ [(0, 0, 1, some 14), (0, 1, 3, some 15), (0, 5, 35, some 19), (0, 10, 1059, some 24), (1, 2, 1063, some 16), (1, 6, 1127, some 20), (1, 11, 3175, some 25)] ?_
           repeat (first | (apply tag0; refine run_p (v := ?_) (a' := ?_) rfl rfl (any_of HT_.out (by kernel_rfl)) (fun _ _ _ h => h) (by rfl) ?_ ?_ ?_; rotate_left 2; (intro w'; go_simp; with_reducible rfl); (first | (simp only [Act.put, List.setIfInBounds_toArray, List.set_cons_zero, List.set_cons_succ, i64_w, i32_w]; rfl) | rfl)) | (apply tag1; refine run_t (v := ?_) (a' := ?_) rfl rfl (take_ofW HT_.out HW_.out (by kernel_rfl)) (fun _ _ _ h => h) (by rfl) ?_ hHeld ?_ ?_; rotate_left 2; (rintro w' ⟨s0, s1, s2⟩; go_simp; with_reducible rfl); (first | (simp only [Act.put, List.setIfInBounds_toArray, List.set_cons_zero, List.set_cons_succ, i64_w, i32_w]; rfl) | rfl)))
           refine run_nil ?_
           refine one_ (i := 3) (N := some 17) (bz 17 3183) rfl rfl (one_of HT_.out (by kernel_rfl)) (by decide) (fun K hK => ?_)
           refine goes_ Tryd.func129 (by kernel_rfl) rfl #[.int .i64 ((rd_T70 l0_1 x10_1).f0)] (by rfl) rfl rfl mapT ?_
           with_reducible refine (strconv_Itoa.calls ((rd_T70 l0_1 x10_1).f0) t180 _ A9.out).mono ?_
           rintro e w22 ⟨rfl, hb⟩
           refine ⟨_, rfl, ?_⟩
           replace HO_3 := Aside0.mk (Kd.R_below (rU HO_3) hb)
           replace BK174 := bS BK174 hb
           replace BK179 := bS BK179 hb
           replace HB := hS HB hb
           (try clear hb)
           (try clear hb2)
           (try clear hk)
           (try clear hi)
           refine hK.out _ _ ⟨(blk_cell BK179.out 0).trans rfl, (blk_cell BK179.out 1).trans rfl, (blk_cell BK179.out 2).trans rfl⟩ (fun hHeld => ?_)
           clear hK K
           refine norm_ (a' := ?_) ?_ ?_
           rotate_left
           ·show Act.put _ (some 17) _ = _
            simp only [Act.put, List.setIfInBounds_toArray, List.set_cons_zero, List.set_cons_succ, i64_w, i32_w]
            rfl
           refine run_ [(0, 4, 3199, some 18)] ?_
           repeat ((apply tag0; refine run_p (v := ?_) (a' := ?_) rfl rfl (any_of HT_.out (by kernel_rfl)) (fun _ _ _ h => h) (by rfl) ?_ ?_ ?_; rotate_left 2; (intro w'; go_simp; with_reducible rfl); (first | (simp only [Act.put, List.setIfInBounds_toArray, List.set_cons_zero, List.set_cons_succ, i64_w, i32_w]; rfl) | rfl)))
           refine run_nil ?_
           refine one_ (i := 7) (N := some 21) (bz 17 3327) rfl rfl (one_of HT_.out (by kernel_rfl)) (by decide) (fun K hK => ?_)
           refine goes_ Tryd.func129 (by kernel_rfl) rfl #[.int .i64 ((rd_T70 l0_1 x10_1).f1)] (by rfl) rfl rfl mapT ?_
           with_reducible refine (strconv_Itoa.calls ((rd_T70 l0_1 x10_1).f1) t181 _ A11.out).mono ?_
           rintro e w23 ⟨rfl, hb⟩
           refine ⟨_, rfl, ?_⟩
           replace HO_3 := Aside0.mk (Kd.R_below (rU HO_3) hb)
           replace BK174 := bS BK174 hb
           replace BK179 := bS BK179 hb
           replace HB := hS HB hb
           (try clear hb)
           (try clear hb2)
           (try clear hk)
           (try clear hi)
           refine hK.out _ _ ⟨(blk_cell BK179.out 0).trans rfl, (blk_cell BK179.out 1).trans rfl, (blk_cell BK179.out 2).trans rfl⟩ (fun hHeld => ?_)
           clear hK K
           refine norm_ (a' := ?_) ?_ ?_
           rotate_left
           ·show Act.put _ (some 21) _ = _
            simp only [Act.put, List.setIfInBounds_toArray, List.set_cons_zero, List.set_cons_succ, i64_w, i32_w]
            rfl
           refine run_ [(0, 8, 3583, some 22), (0, 9, 4095, some 23)] ?_
           repeat ((apply tag0; refine run_p (v := ?_) (a' := ?_) rfl rfl (any_of HT_.out (by kernel_rfl)) (fun _ _ _ h => h) (by rfl) ?_ ?_ ?_; rotate_left 2; (intro w'; go_simp; with_reducible rfl); (first | (simp only [Act.put, List.setIfInBounds_toArray, List.set_cons_zero, List.set_cons_succ, i64_w, i32_w]; rfl) | rfl)))
           refine run_nil ?_
           refine one_ (i := 12) (N := some 26) (bz 17 8191) rfl rfl (one_of HT_.out (by kernel_rfl)) (by decide) (fun K hK => ?_)
           refine goes_ Tryd.func129 (by kernel_rfl) rfl #[.int .i64 ((rd_T70 l0_1 x10_1).f2)] (by rfl) rfl rfl mapT ?_
           with_reducible refine (strconv_Itoa.calls ((rd_T70 l0_1 x10_1).f2) t182 _ A14.out).mono ?_
           rintro e w24 ⟨rfl, hb⟩
           refine ⟨_, rfl, ?_⟩
           replace HO_3 := Aside0.mk (Kd.R_below (rU HO_3) hb)
           replace BK174 := bS BK174 hb
           replace BK179 := bS BK179 hb
           replace HB := hS HB hb
           (try clear hb)
           (try clear hb2)
           (try clear hk)
           (try clear hi)
           refine hK.out _ _ ⟨(blk_cell BK179.out 0).trans rfl, (blk_cell BK179.out 1).trans rfl, (blk_cell BK179.out 2).trans rfl⟩ (fun hHeld => ?_)
           clear hK K
           refine norm_ (a' := ?_) ?_ ?_
           rotate_left
           ·show Act.put _ (some 26) _ = _
            simp only [Act.put, List.setIfInBounds_toArray, List.set_cons_zero, List.set_cons_succ, i64_w, i32_w]
            rfl
           refine run_ [(0, 13, 16383, some 27)] ?_
           repeat ((apply tag0; refine run_p (v := ?_) (a' := ?_) rfl rfl (any_of HT_.out (by kernel_rfl)) (fun _ _ _ h => h) (by rfl) ?_ ?_ ?_; rotate_left 2; (intro w'; go_simp; with_reducible rfl); (first | (simp only [Act.put, List.setIfInBounds_toArray, List.set_cons_zero, List.set_cons_succ, i64_w, i32_w]; rfl) | rfl)))
           refine run_nil ?_
           refine one_ (i := 14) (N := some 28) (bz 17 32767) rfl rfl (one_of HT_.out (by kernel_rfl)) (by decide) (fun K hK => ?_)
           refine value_ (w1 := ?_) (v := ?_) (by rfl) rfl ?_ ?_
           rotate_left 2
           ·go_simp
            constructor
            ·rfl
            ·rfl
           refine hK.out _ _ ⟨(blk_cell (blk_alloc BK179.out _) 0).trans rfl, (blk_cell (blk_alloc BK179.out _) 1).trans rfl, (blk_cell (blk_alloc BK179.out _) 2).trans rfl⟩ (fun hHeld => ?_)
           clear hK K
           refine norm_ (a' := ?_) ?_ ?_
           rotate_left
           ·show Act.put _ (some 28) _ = _
            simp only [Act.put, List.setIfInBounds_toArray, List.set_cons_zero, List.set_cons_succ, i64_w, i32_w]
            rfl
           refine one_ (i := 15) (N := some 29) (bz 17 65535) rfl rfl (one_of HT_.out (by kernel_rfl)) (by decide) (fun K hK => ?_)
           refine Kd.R_append_step Kd.string (w0 := w) w.heap.size (by rfl) (.tmp 14) (.tmp 28) 143 9 (.string ⟨#[]⟩) 16 rfl Tryd.underlying143 info9 rfl (by decide) (by omega) u3 x3_1 ((((t180 ++ (⟨#[46]⟩ : ByteArray)) ++ t181) ++ (⟨#[46]⟩ : ByteArray)) ++ t182) [.string ((((t180 ++ (⟨#[46]⟩ : ByteArray)) ++ t181) ++ (⟨#[46]⟩ : ByteArray)) ++ t182)] (fun _ => True) (fun _ => False) rfl rfl ?aP (fun _ hk => hk.elim) ?aF ?aO ?aB ?aS ?aL ?_
           (case aP => exact rfl)
           (case aB => exact hB)
           (case aF => exact (fun _ _ => trivial))
           (case aO => exact (rU HO_3))
           (case aS => exact (below_size hB))
           (case aL => have := LMc16.out; omega)
           intro v184 w25 ho hb hg hat
           rw [← Ny183.out] at ho
           have n0_ := Aside0.mk (blk_grown (g := gb174) (o := .cells #[.int .i64 a0_0, .slice (some ad178) l0_1.length c0_1] 28 (0, 0)) bK hg (Kd.R_ne HO_3.out BK174.out (by decide)))
           have n1_ := Aside0.mk (blk_grown (g := gb179) (o := .cells #[.int .i64 ((rd_T70 l0_1 x10_1).f0), .int .i64 ((rd_T70 l0_1 x10_1).f1), .int .i64 ((rd_T70 l0_1 x10_1).f2)] 70 (0, 0)) bK hg (Kd.R_ne HO_3.out BK179.out (by decide)))
           have n2_ := Aside0.mk (hb)
           have n3_ := Aside0.mk (ho)
           clear BK174
           clear BK179
           clear HB
           clear HO_3
           have BK174 := n0_
           have BK179 := n1_
           have HB := n2_
           have HO185 := n3_
           clear n0_ n1_ n2_ n3_
           clear ho hb hg hat
           refine hK.out _ _ ⟨(blk_cell BK179.out 0).trans rfl, (blk_cell BK179.out 1).trans rfl, (blk_cell BK179.out 2).trans rfl⟩ (fun hHeld => ?_)
           clear hK K
           refine norm_ (a' := ?_) ?_ ?_
           rotate_left
           ·show Act.put _ (some 29) _ = _
            simp only [Act.put, List.setIfInBounds_toArray, List.set_cons_zero, List.set_cons_succ, i64_w, i32_w]
            rfl
           refine run_ [(0, 16, 131071, some 3)] ?_
           repeat ((apply tag0; refine run_p (v := ?_) (a' := ?_) rfl rfl (any_of HT_.out (by kernel_rfl)) (fun _ _ _ h => h) (by rfl) ?_ ?_ ?_; rotate_left 2; (intro w'; go_simp; with_reducible rfl); (first | (simp only [Act.put, List.setIfInBounds_toArray, List.set_cons_zero, List.set_cons_succ, i64_w, i32_w]; rfl) | rfl)))
           refine run_nil ?_
           refine done_ (done_of HT_.out (by kernel_rfl)) ?_
           try go_wp2
           go_roundg k1
           case measure => have := HK1.out; omega
           case rel => exact ⟨(y183), (wrap64 (x10_1 + 1)), (by first | rfl | (simp; done) | (simp [*]; done)), H', ⟨by have := HK1.out; omega⟩, ⟨rU HO185⟩, ⟨bK⟩, ⟨hB⟩⟩
          ·rw [if_neg c16] at H
           exact absurd H (by simp)
         ·rw [if_neg c15] at H
          exact absurd H (by simp)
        ·rw [if_neg c13] at H
         exact absurd H (by simp)
       ·rw [if_neg c12] at H
        exact absurd H (by simp)
      ·rw [if_neg c10] at H
       exact absurd H (by simp)
     ·rw [if_neg c8] at H
      exact absurd H (by simp)
    ·rw [if_neg c7] at H
     exact absurd H (by simp)
   ·rw [if_neg c6] at H
    have c6b0 : decide (x10_1 < (l0_1.length : Int)) = false := decide_eq_false c6
    clear c6
    replace H := Option.bind_eq_some_iff.mp H
    obtain ⟨t186, A260, H⟩ := H
    try dsimp only at H
    have A26 := Aside0.mk A260
    clear A260
    by_cases c27 : t186.size + 1 ≤ 9223372036854775807
    ·rw [if_pos c27] at H
     have c27b0 := eq_true c27
     have c27b1 : decide (t186.size + 1 ≤ 9223372036854775807) = true := decide_eq_true c27
     try have c27b2 : (9223372036854775807 < t186.size + 1) = False := eq_false (Nat.not_lt.2 c27)
     replace H := Option.bind_eq_some_iff.mp H
     obtain ⟨t187, A280, H⟩ := H
     try dsimp only at H
     have A28 := Aside0.mk A280
     clear A280
     by_cases c29 : (t186 ++ (⟨#[58]⟩ : ByteArray)).size + t187.size ≤ 9223372036854775807
     ·rw [if_pos c29] at H
      have c29b0 := eq_true c29
      have c29b1 : decide ((t186 ++ (⟨#[58]⟩ : ByteArray)).size + t187.size ≤ 9223372036854775807) = true := decide_eq_true c29
      try have c29b2 : (9223372036854775807 < (t186 ++ (⟨#[58]⟩ : ByteArray)).size + t187.size) = False := eq_false (Nat.not_lt.2 c29)
      have c29m : ¬ (9223372036854775807 < (t186 ++ (⟨#[58]⟩ : ByteArray)).size + t187.size) := Nat.not_lt.2 c29
      simp only [ByteArray.size_append, bsz1] at c29m
      replace c29m := eq_false c29m
      obtain rfl := Option.some.inj H
      have hcz30_0 := cz BK174 0
      have hcz30_1 := cz BK174 1
      have hfz30_0 := fz BK174 0
      have hfz30_1 := fz BK174 1
      go_wp2_with (first | ((with_reducible refine gate_callee (f := 129) rfl ?_); refine goC (N := some 33) Tryd.func129 #[.int .i64 a0_0] rfl ?_; (with_reducible refine (strconv_Itoa.calls a0_0 t186 _ A26.out).mono ?_); rintro e w31 ⟨rfl, hb⟩; refine ⟨_, rfl, ?_⟩; replace HO_3 := Aside0.mk (Kd.R_below (rU HO_3) hb); replace BK174 := bS BK174 hb; replace HB := hS HB hb; (try clear hb); (try clear hb2); (try clear hk); (try clear hi); obtain ⟨Ao32, co32, eo32⟩ := Kd.R_slice HO_3.out; subst eo32) | ((with_reducible refine gate_callee (f := 130) rfl ?_); refine goC (N := some 36) Tryd.func130 #[.slice Ao32 x3_1.length co32, .string (⟨#[44]⟩ : ByteArray)] rfl ?_; (with_reducible refine (strings_Join.calls _ _ x3_1 (⟨#[44]⟩ : ByteArray) t187 _ ?side1 ?side2 A28.out).mono ?_); (case side1 => exact cS (Kd.R_reads' HO_3.out).2.2); (case side2 => exact (Kd.R_reads' HO_3.out).2.1); rintro e w33 ⟨rfl, hb⟩; refine ⟨_, rfl, ?_⟩; replace HO_3 := Aside0.mk (Kd.R_below (rU HO_3) hb); replace BK174 := bS BK174 hb; replace HB := hS HB hb; (try clear hb); (try clear hb2); (try clear hk); (try clear hi)))
      go_ret
      exact ⟨by first | rfl | (simp [errW_none, errW_some] <;> rfl) | (simp [*, errW_none, errW_some] <;> rfl), hB⟩
     ·rw [if_neg c29] at H
      exact absurd H (by simp)
    ·rw [if_neg c27] at H
     exact absurd H (by simp)

/-! ### impl_PuzzleText: function 47 -/
def impl_PuzzleText.f (k : Nat) (a0_0 : Int) (l0_1 : List (S70)) : Option (ByteArray × Bool) := (impl_IsPuzzle.f a0_0 l0_1).bind fun t189 => (if t189 = true then ((impl_puzzleText.f k a0_0 l0_1).bind fun t190 => (some (t190, true))) else (some ((⟨#[]⟩ : ByteArray), false)))
theorem impl_PuzzleText.mono : ∀ a0 a1 k, LeO (impl_PuzzleText.f k a0 a1) (impl_PuzzleText.f (k + 1) a0 a1) := by
 intro a0 a1 k
 unfold impl_PuzzleText.f
 repeat' first
   | (with_reducible exact impl_puzzleText.mono _ _ _)
   | (with_reducible exact LeO.refl _)
   | (with_reducible exact LeO.none _)
   | (with_reducible refine LeO.ite ?_ ?_)
   | (with_reducible refine LeO.bind ?_ (fun _ => ?_))
   | exact impl_puzzleText.mono _ _ _
   | exact LeO.none _
   | refine LeO.ite ?_ ?_
   | refine LeO.bind ?_ (fun _ => ?_)
set_option maxHeartbeats 8000000 in
set_option maxRecDepth 100000 in
theorem impl_PuzzleText.calls (k : Nat) (a0_0 : Int) (A0_1 : Option Addr) (c0_1 : Nat) (l0_1 : List (S70)) (r1 : ByteArray) (r2 : Bool) (w : World) (hr0_1 : Kd.C k70 w A0_1 l0_1.length l0_1) (hc0_1 : l0_1.length ≤ c0_1) (h : impl_PuzzleText.f k a0_0 l0_1 = some (r1, r2)) :
  Calls Tryd.prog 47 #[.agg #[.int .i64 a0_0, .slice A0_1 l0_1.length c0_1]] w fun e w' => e = .returned (.tuple #[.string r1, .bool r2]) ∧ Below w.heap.size w w' := by
 have hu28 := Tryd.underlying28
 have HR0_1 := Aside0.mk hr0_1
 have HC0_1 := Aside0.mk hc0_1
 clear hr0_1 hc0_1
 have HB := Aside0.mk (Below.refl w.heap.size w)
 have H : ((impl_IsPuzzle.f a0_0 l0_1).bind fun t189 => (if t189 = true then ((impl_puzzleText.f k a0_0 l0_1).bind fun t190 => (some (t190, true))) else (some ((⟨#[]⟩ : ByteArray), false)))) = some (r1, r2) := h
 clear h
 replace H := Option.bind_eq_some_iff.mp H
 obtain ⟨t189, A20, H⟩ := H
 try dsimp only at H
 have A2 := Aside0.mk A20
 clear A20
 by_cases c3 : t189 = true
 ·subst c3
  rw [if_pos rfl] at H
  replace H := Option.bind_eq_some_iff.mp H
  obtain ⟨t190, A40, H⟩ := H
  replace H : (some (t190, true)) = some (r1, r2) := H
  have A4 := Aside0.mk A40
  clear A40
  simp only [Option.some.injEq, Prod.mk.injEq] at H
  obtain ⟨rfl, rfl⟩ := H
  go_enter Tryd.func47, Tryd.ntmps47
  go_wp2_with (first | ((with_reducible refine gate_dst (N := 1) rfl ?_); refine bxE 1 #[.int .i64 a0_0, .slice A0_1 l0_1.length c0_1] 28 rfl ?_; intro gb188 hg w5 hbox hb; have BK188 := Aside0.mk (hbox); have GW188 := gS HB hg; have GE188 := gS HB hg; replace HB := hS HB hb; clear hb hbox hg; have hcz6_0 := cz BK188 0; have hcz6_1 := cz BK188 1; have hfz6_0 := fz BK188 0; have hfz6_1 := fz BK188 1) | ((with_reducible refine gate_callee (f := 73) rfl ?_); refine goC (N := some 5) Tryd.func73 #[.agg #[.int .i64 a0_0, .slice A0_1 l0_1.length c0_1]] rfl ?_; (with_reducible refine (impl_IsPuzzle.calls a0_0 _ _ l0_1 true _ ?side1 ?side2 A2.out).mono ?_); (case side1 => exact cS (Kd.C_below HR0_1.out HB.out)); (case side2 => exact HC0_1.out); rintro e w7 ⟨rfl, hb⟩; refine ⟨_, rfl, ?_⟩; replace BK188 := bS BK188 hb; replace HB := hS HB hb; (try clear hb); (try clear hb2); (try clear hk); (try clear hi); have hcz8_0 := cz BK188 0; have hcz8_1 := cz BK188 1; have hfz8_0 := fz BK188 0; have hfz8_1 := fz BK188 1) | ((with_reducible refine gate_callee (f := 96) rfl ?_); refine goC (N := some 8) Tryd.func96 #[.agg #[.int .i64 a0_0, .slice A0_1 l0_1.length c0_1]] rfl ?_; (with_reducible refine (impl_puzzleText.calls k a0_0 _ _ l0_1 t190 _ ?side1 ?side2 A4.out).mono ?_); (case side1 => exact cS (Kd.C_below HR0_1.out HB.out)); (case side2 => exact HC0_1.out); rintro e w9 ⟨rfl, hb⟩; refine ⟨_, rfl, ?_⟩; replace BK188 := bS BK188 hb; replace HB := hS HB hb; (try clear hb); (try clear hb2); (try clear hk); (try clear hi)))
  go_ret2
  exact ⟨by first | rfl | (simp [errW_none, errW_some] <;> rfl) | (simp [*, errW_none, errW_some] <;> rfl), hB⟩
 ·replace c3 := Bool.eq_false_iff.mpr c3
  subst c3
  rw [if_neg (show ¬ (false = true) by decide)] at H
  simp only [Option.some.injEq, Prod.mk.injEq] at H
  obtain ⟨rfl, rfl⟩ := H
  go_enter Tryd.func47, Tryd.ntmps47
  go_wp2_with (first | ((with_reducible refine gate_dst (N := 1) rfl ?_); refine bxE 1 #[.int .i64 a0_0, .slice A0_1 l0_1.length c0_1] 28 rfl ?_; intro gb188 hg w10 hbox hb; have BK188 := Aside0.mk (hbox); have GW188 := gS HB hg; have GE188 := gS HB hg; replace HB := hS HB hb; clear hb hbox hg; have hcz11_0 := cz BK188 0; have hcz11_1 := cz BK188 1; have hfz11_0 := fz BK188 0; have hfz11_1 := fz BK188 1) | ((with_reducible refine gate_callee (f := 73) rfl ?_); refine goC (N := some 5) Tryd.func73 #[.agg #[.int .i64 a0_0, .slice A0_1 l0_1.length c0_1]] rfl ?_; (with_reducible refine (impl_IsPuzzle.calls a0_0 _ _ l0_1 false _ ?side1 ?side2 A2.out).mono ?_); (case side1 => exact cS (Kd.C_below HR0_1.out HB.out)); (case side2 => exact HC0_1.out); rintro e w12 ⟨rfl, hb⟩; refine ⟨_, rfl, ?_⟩; replace BK188 := bS BK188 hb; replace HB := hS HB hb; (try clear hb); (try clear hb2); (try clear hk); (try clear hi)))
  go_ret2
  exact ⟨by first | rfl | (simp [errW_none, errW_some] <;> rfl) | (simp [*, errW_none, errW_some] <;> rfl), hB⟩

/-! ### laws_FnExactPuzzleText: function 11 -/
def laws_FnExactPuzzleText.f (k : Nat) (a0_0 : Int) (l0_1 : List (S126)) : Option (Bool) := (laws_szPuzzle.f a0_0 l0_1 1048576).bind fun t192 => (if t192 < 0 then (some true) else ((laws_toPuzzle.f k a0_0 l0_1).bind fun bt193 => ((spec_PuzzleText.f k bt193.1 bt193.2).bind fun bt197 => ((laws_toPuzzle.f k a0_0 l0_1).bind fun bt199 => ((impl_PuzzleText.f k bt199.1 bt199.2).bind fun bt204 => (if bt204.1.toList = bt197.1.toList then (if (bt204.2 != bt197.2) = true then (none) else ((laws_toPuzzle.f k a0_0 l0_1).bind fun bt206 => ((laws_eqPuzzle.f k bt199.1 bt199.2 bt206.1 bt206.2).bind fun t210 => (if t210 = true then (some true) else (none))))) else (none)))))))
theorem laws_FnExactPuzzleText.mono : ∀ a0 a1 k, LeO (laws_FnExactPuzzleText.f k a0 a1) (laws_FnExactPuzzleText.f (k + 1) a0 a1) := by
 intro a0 a1 k
 unfold laws_FnExactPuzzleText.f
 repeat' first
   | (with_reducible exact impl_PuzzleText.mono _ _ _)
   | (with_reducible exact laws_eqPuzzle.mono _ _ _ _ _)
   | (with_reducible exact laws_toPuzzle.mono _ _ _)
   | (with_reducible exact spec_PuzzleText.mono _ _ _)
   | (with_reducible exact LeO.refl _)
   | (with_reducible exact LeO.none _)
   | (with_reducible refine LeO.ite ?_ ?_)
   | (with_reducible refine LeO.bind ?_ (fun _ => ?_))
   | exact impl_PuzzleText.mono _ _ _
   | exact laws_eqPuzzle.mono _ _ _ _ _
   | exact laws_toPuzzle.mono _ _ _
   | exact spec_PuzzleText.mono _ _ _
   | exact LeO.none _
   | refine LeO.ite ?_ ?_
   | refine LeO.bind ?_ (fun _ => ?_)
set_option maxHeartbeats 8000000 in
set_option maxRecDepth 100000 in
theorem laws_FnExactPuzzleText.calls (k : Nat) (a0_0 : Int) (A0_1 : Option Addr) (c0_1 : Nat) (l0_1 : List (S126)) (r : Bool) (w : World) (hr0_1 : Kd.C k126 w A0_1 l0_1.length l0_1) (hc0_1 : l0_1.length ≤ c0_1) (h : laws_FnExactPuzzleText.f k a0_0 l0_1 = some r) :
  Calls Tryd.prog 11 #[.agg #[.int .i64 a0_0, .slice A0_1 l0_1.length c0_1]] w fun e w' => e = .returned (.bool r) ∧ Below w.heap.size w w' := by
 have hu42 := Tryd.underlying42
 have hu28 := Tryd.underlying28
 have HR0_1 := Aside0.mk hr0_1
 have HC0_1 := Aside0.mk hc0_1
 clear hr0_1 hc0_1
 have HB := Aside0.mk (Below.refl w.heap.size w)
 have H : ((laws_szPuzzle.f a0_0 l0_1 1048576).bind fun t192 => (if t192 < 0 then (some true) else ((laws_toPuzzle.f k a0_0 l0_1).bind fun bt193 => ((spec_PuzzleText.f k bt193.1 bt193.2).bind fun bt197 => ((laws_toPuzzle.f k a0_0 l0_1).bind fun bt199 => ((impl_PuzzleText.f k bt199.1 bt199.2).bind fun bt204 => (if bt204.1.toList = bt197.1.toList then (if (bt204.2 != bt197.2) = true then (none) else ((laws_toPuzzle.f k a0_0 l0_1).bind fun bt206 => ((laws_eqPuzzle.f k bt199.1 bt199.2 bt206.1 bt206.2).bind fun t210 => (if t210 = true then (some true) else (none))))) else (none)))))))) = some r := h
 clear h
 replace H := Option.bind_eq_some_iff.mp H
 obtain ⟨t192, A20, H⟩ := H
 try dsimp only at H
 have A2 := Aside0.mk A20
 clear A20
 by_cases c3 : t192 < 0
 ·rw [if_pos c3] at H
  have c3b0 : decide (t192 < 0) = true := decide_eq_true c3
  clear c3
  obtain rfl := Option.some.inj H
  go_enter Tryd.func11, Tryd.ntmps11
  go_wp2_with (first | ((with_reducible refine gate_dst (N := 1) rfl ?_); refine bxE 1 #[.int .i64 a0_0, .slice A0_1 l0_1.length c0_1] 42 rfl ?_; intro gb191 hg w4 hbox hb; have BK191 := Aside0.mk (hbox); have GW191 := gS HB hg; have GE191 := gS HB hg; replace HB := hS HB hb; clear hb hbox hg; have hcz5_0 := cz BK191 0; have hcz5_1 := cz BK191 1; have hfz5_0 := fz BK191 0; have hfz5_1 := fz BK191 1) | ((with_reducible refine gate_callee (f := 21) rfl ?_); refine goC (N := some 11) Tryd.func21 #[.agg #[.int .i64 a0_0, .slice A0_1 l0_1.length c0_1], .int .i64 1048576] rfl ?_; (with_reducible refine (laws_szPuzzle.calls a0_0 _ _ l0_1 1048576 t192 _ ?side1 ?side2 A2.out).mono ?_); (case side1 => exact cS (Kd.C_below HR0_1.out HB.out)); (case side2 => exact HC0_1.out); rintro e w6 ⟨rfl, hb⟩; refine ⟨_, rfl, ?_⟩; replace BK191 := bS BK191 hb; replace HB := hS HB hb; (try clear hb); (try clear hb2); (try clear hk); (try clear hi)))
  go_ret
  exact ⟨by first | rfl | (simp [errW_none, errW_some] <;> rfl) | (simp [*, errW_none, errW_some] <;> rfl), hB⟩
 ·rw [if_neg c3] at H
  have c3b0 : decide (t192 < 0) = false := decide_eq_false c3
  clear c3
  replace H := Option.bind_eq_some_iff.mp H
  obtain ⟨⟨t193, t194⟩, A70, H⟩ := H
  try dsimp only at H
  have A7 := Aside0.mk A70
  clear A70
  replace H := Option.bind_eq_some_iff.mp H
  obtain ⟨⟨t197, t198⟩, A80, H⟩ := H
  try dsimp only at H
  have A8 := Aside0.mk A80
  clear A80
  replace H := Option.bind_eq_some_iff.mp H
  obtain ⟨⟨t199, t200⟩, A90, H⟩ := H
  try dsimp only at H
  have A9 := Aside0.mk A90
  clear A90
  replace H := Option.bind_eq_some_iff.mp H
  obtain ⟨⟨t204, t205⟩, A100, H⟩ := H
  try dsimp only at H
  have A10 := Aside0.mk A100
  clear A100
  by_cases c11 : t204.toList = t197.toList
  ·rw [if_pos c11] at H
   have c11b0 : (t204.toList == t197.toList) = true := beq_iff_eq.mpr c11
   have c11b1 : (t204.toList != t197.toList) = false := bne_eq_false_iff_eq.mpr c11
   clear c11
   by_cases c12 : (t205 != t198) = true
   ·rw [if_pos c12] at H
    exact absurd H (by simp)
   ·rw [if_neg c12] at H
    have c12b0 : (t205 != t198) = false := by simpa using c12
    (try (have c12b1 : decide (t205 = t198) = true := by simpa using c12))
    (try (have c12b2 : (t205 == t198) = true := by simpa using c12))
    clear c12
    replace H := Option.bind_eq_some_iff.mp H
    obtain ⟨⟨t206, t207⟩, A130, H⟩ := H
    try dsimp only at H
    have A13 := Aside0.mk A130
    clear A130
    replace H := Option.bind_eq_some_iff.mp H
    obtain ⟨t210, A140, H⟩ := H
    try dsimp only at H
    have A14 := Aside0.mk A140
    clear A140
    by_cases c15 : t210 = true
    ·subst c15
     have H1 : (some true) = some r := by rw [if_pos rfl] at H; exact H
     clear H
     have H := H1
     clear H1
     obtain rfl := Option.some.inj H
     go_enter Tryd.func11, Tryd.ntmps11
     try go_wp2_with (first | ((with_reducible refine gate_dst (N := 1) rfl ?_); refine bxE 1 #[.int .i64 a0_0, .slice A0_1 l0_1.length c0_1] 42 rfl ?_; intro gb191 hg w16 hbox hb; have BK191 := Aside0.mk (hbox); have GW191 := gS HB hg; have GE191 := gS HB hg; replace HB := hS HB hb; clear hb hbox hg; have hcz17_0 := cz BK191 0; have hcz17_1 := cz BK191 1; have hfz17_0 := fz BK191 0; have hfz17_1 := fz BK191 1) | ((with_reducible refine gate_callee (f := 21) rfl ?_); refine goC (N := some 11) Tryd.func21 #[.agg #[.int .i64 a0_0, .slice A0_1 l0_1.length c0_1], .int .i64 1048576] rfl ?_; (with_reducible refine (laws_szPuzzle.calls a0_0 _ _ l0_1 1048576 t192 _ ?side1 ?side2 A2.out).mono ?_); (case side1 => exact cS (Kd.C_below HR0_1.out HB.out)); (case side2 => exact HC0_1.out); rintro e w18 ⟨rfl, hb⟩; refine ⟨_, rfl, ?_⟩; replace BK191 := bS BK191 hb; replace HB := hS HB hb; (try clear hb); (try clear hb2); (try clear hk); (try clear hi); have hcz19_0 := cz BK191 0; have hcz19_1 := cz BK191 1; have hfz19_0 := fz BK191 0; have hfz19_1 := fz BK191 1) | ((with_reducible refine gate_callee (f := 23) rfl ?_); refine goC (N := some 16) Tryd.func23 #[.agg #[.int .i64 a0_0, .slice A0_1 l0_1.length c0_1]] rfl ?_; (with_reducible refine (laws_toPuzzle.calls k a0_0 _ _ l0_1 t193 t194 _ ?side1 ?side2 A7.out).mono ?_); (case side1 => exact cS (Kd.C_below HR0_1.out HB.out)); (case side2 => exact HC0_1.out); rintro e w20 ⟨v195, rfl, ho0, hb⟩; refine ⟨_, rfl, ?_⟩; have HO196 := Aside0.mk (Kd.R_lower ho0 (below_size hB)); replace BK191 := bS BK191 hb; replace HB := hS HB hb; (try clear hb); (try clear hb2); (try clear hk); (try clear hi); (try clear ho0); obtain ⟨Ao21, co21, eo21⟩ := Kd.R_slice HO196.out; subst eo21) | ((with_reducible refine gate_callee (f := 46) rfl ?_); refine goC (N := some 17) Tryd.func46 #[.agg #[.int .i64 t193, .slice Ao21 t194.length co21]] rfl ?_; (with_reducible refine (spec_PuzzleText.calls k t193 _ _ t194 t197 t198 _ ?side1 ?side2 A8.out).mono ?_); (case side1 => exact cS (Kd.R_reads' HO196.out).2.2); (case side2 => exact (Kd.R_reads' HO196.out).2.1); rintro e w22 ⟨rfl, hb⟩; refine ⟨_, rfl, ?_⟩; replace HO196 := Aside0.mk (Kd.R_below (rU HO196) hb); replace BK191 := bS BK191 hb; replace HB := hS HB hb; (try clear hb); (try clear hb2); (try clear hk); (try clear hi); have hcz23_0 := cz BK191 0; have hcz23_1 := cz BK191 1; have hfz23_0 := fz BK191 0; have hfz23_1 := fz BK191 1) | ((with_reducible refine gate_callee (f := 23) rfl ?_); refine goC (N := some 21) Tryd.func23 #[.agg #[.int .i64 a0_0, .slice A0_1 l0_1.length c0_1]] rfl ?_; (with_reducible refine (laws_toPuzzle.calls k a0_0 _ _ l0_1 t199 t200 _ ?side1 ?side2 A9.out).mono ?_); (case side1 => exact cS (Kd.C_below HR0_1.out HB.out)); (case side2 => exact HC0_1.out); rintro e w24 ⟨v201, rfl, ho0, hb⟩; refine ⟨_, rfl, ?_⟩; have HO202 := Aside0.mk (Kd.R_lower (Kd.R_new' ho0 (Kd.R_lt (rU HO196))) (below_size hB)); replace HO196 := Aside0.mk (Kd.R_elder' (rU HO196) (Kd.R_base ho0) hb); replace BK191 := bS BK191 hb; replace HB := hS HB hb; (try clear hb); (try clear hb2); (try clear hk); (try clear hi); (try clear ho0)) | ((with_reducible refine gate_dst (N := 6) rfl ?_); refine bxE 6 #[.int .i64 0, .slice none 0 0] 28 rfl ?_; intro gb203 hg w25 hbox hb; have BK203 := Aside0.mk (hbox); have GW203 := gS HB hg; have GE203 := gS HB hg; have NB191_203 := nL BK191 hg; have NB203_191 := nG BK191 hg; replace HO196 := Aside0.mk (Kd.R_below (rU HO196) hb); replace HO202 := Aside0.mk (Kd.R_below (rU HO202) hb); replace BK191 := bS BK191 hb; replace HB := hS HB hb; clear hb hbox hg; have hnb26 := NB203_191.out; have hnc26 := NB191_203.out; have hcz27_0 := cz BK203 0; have hcz27_1 := cz BK203 1; have hfz27_0 := fz BK203 0; have hfz27_1 := fz BK203 1; obtain ⟨Ao28, co28, eo28⟩ := Kd.R_slice HO202.out; subst eo28) | ((with_reducible refine gate_callee (f := 47) rfl ?_); refine goC (N := some 24) Tryd.func47 #[.agg #[.int .i64 t199, .slice Ao28 t200.length co28]] rfl ?_; (with_reducible refine (impl_PuzzleText.calls k t199 _ _ t200 t204 t205 _ ?side1 ?side2 A10.out).mono ?_); (case side1 => refine (Kd.R_reads' (e := 70) (base := w.heap.size) (ok := fun k_ => (True ∧ some k_ ≠ (.slice Ao21 t194.length co21 : Value).ownBlock)) (n := t200.length) (c := co28) ?_).2.2; exact (by (with_reducible repeat (first | apply Kd.R_alloc | apply Kd.R_drewN | apply Kd.R_drew)); exact (Kd.R_mono (Kd.R_far (p := ⟨gb203, 1, none⟩) (Kd.R_far (p := ⟨gb203, 0, none⟩) (Kd.R_types HO202.out BK203.out (by decide)) (fun _ hk => hk.2) (.int .i64 t199)) (fun _ hk => hk.2) (.slice Ao28 t200.length co28)) (fun _ h_ => h_.1)))); (case side2 => exact (Kd.R_reads' HO202.out).2.1); rintro e w29 ⟨rfl, hb⟩; refine ⟨_, rfl, ?_⟩; replace HO196 := Aside0.mk (Kd.R_below (by (with_reducible repeat (first | apply Kd.R_alloc | apply Kd.R_drewN | apply Kd.R_drew)); exact (Kd.R_mono (Kd.R_far (p := ⟨gb203, 1, none⟩) (Kd.R_far (p := ⟨gb203, 0, none⟩) (Kd.R_types HO196.out BK203.out (by decide)) (fun _ hk => hk.2) (.int .i64 t199)) (fun _ hk => hk.2) (.slice Ao28 t200.length co28)) (fun _ h_ => h_.1))) hb); replace HO202 := Aside0.mk (Kd.R_below (by (with_reducible repeat (first | apply Kd.R_alloc | apply Kd.R_drewN | apply Kd.R_drew)); exact (Kd.R_mono (Kd.R_far (p := ⟨gb203, 1, none⟩) (Kd.R_far (p := ⟨gb203, 0, none⟩) (Kd.R_types HO202.out BK203.out (by decide)) (fun _ hk => hk.2) (.int .i64 t199)) (fun _ hk => hk.2) (.slice Ao28 t200.length co28)) (fun _ h_ => h_.1))) hb); replace BK191 := Aside0.mk (blk_below (g := gb191) (o := .cells #[.int .i64 a0_0, .slice A0_1 l0_1.length c0_1] 42 (0, 0)) (by (with_reducible repeat (first | refine blk_drewN ?_ _ | refine blk_drew ?_ | refine blk_alloc ?_ _)); refine blk_far ?_ NB191_203.out _; (with_reducible repeat (first | refine blk_drewN ?_ _ | refine blk_drew ?_ | refine blk_alloc ?_ _)); refine blk_far ?_ NB191_203.out _; (with_reducible repeat (first | refine blk_drewN ?_ _ | refine blk_drew ?_ | refine blk_alloc ?_ _)); exact BK191.out) hb); replace BK203 := Aside0.mk (blk_below (g := gb203) (o := .cells #[.int .i64 t199, .slice Ao28 t200.length co28] 28 (0, 0)) (by (with_reducible repeat (first | refine blk_drewN ?_ _ | refine blk_drew ?_ | refine blk_alloc ?_ _)); refine blk_put (cs := #[.int .i64 t199, .slice none 0 0]) ?_ 1 _ rfl; (with_reducible repeat (first | refine blk_drewN ?_ _ | refine blk_drew ?_ | refine blk_alloc ?_ _)); refine blk_put (cs := #[.int .i64 0, .slice none 0 0]) ?_ 0 _ rfl; (with_reducible repeat (first | refine blk_drewN ?_ _ | refine blk_drew ?_ | refine blk_alloc ?_ _)); exact BK203.out) hb); replace HB := hS HB hb; (try clear hb); (try clear hb2); (try clear hk); (try clear hi)))
     replace HO196 := Aside0.mk (Kd.R_drew HO196.out)
     replace HO202 := Aside0.mk (Kd.R_drew HO202.out)
     replace BK191 := Aside0.mk (blk_drew BK191.out)
     replace BK203 := Aside0.mk (blk_drew BK203.out)
     replace HB := Aside0.mk (below_drew1 HB.out)
     refine start_ (n := 5) (S := fun w' => w'.cell? ⟨gb203, 0, none⟩ = some (.int .i64 t199) ∧ w'.cell? ⟨gb203, 1, none⟩ = some (.slice Ao28 t200.length co28) ∧ w'.cell? ⟨gb191, 0, none⟩ = some (.int .i64 a0_0) ∧ w'.cell? ⟨gb191, 1, none⟩ = some (.slice A0_1 l0_1.length c0_1)) (ds := []) (bz 5 0) (by kernel_rfl) rfl rfl ⟨(blk_cell BK203.out 0).trans rfl, (blk_cell BK203.out 1).trans rfl, (blk_cell BK191.out 0).trans rfl, (blk_cell BK191.out 1).trans rfl⟩ (fun hHeld => ?_)
     generalize w29.drew = w30 at HO196 HO202 BK191 BK203 HB hHeld ⊢
     refine run_ [(1, 0, 1, some 35), (1, 1, 3, some 36)] ?_
     repeat ((apply tag1; refine run_t (v := ?_) (a' := ?_) rfl rfl (by kernel_rfl) (fun _ _ _ h => h) (by rfl) ?_ hHeld ?_ ?_; rotate_left 2; (rintro w' ⟨s0, s1, s2, s3⟩; go_simp; with_reducible rfl); (first | (simp only [Act.put, List.setIfInBounds_toArray, List.set_cons_zero, List.set_cons_succ, i64_w, i32_w]; rfl) | rfl)))
     refine run_nil ?_
     refine one_ (i := 2) (N := some 37) (bz 5 7) rfl rfl (by kernel_rfl) (by decide) (fun K hK => ?_)
     refine goes_ Tryd.func23 (by kernel_rfl) rfl #[.agg #[.int .i64 a0_0, .slice A0_1 l0_1.length c0_1]] (by rfl) rfl rfl mapT ?_
     with_reducible refine (laws_toPuzzle.calls k a0_0 _ _ l0_1 t206 t207 _ ?side1 ?side2 A13.out).mono ?_
     (case side1 => exact cS (Kd.C_below HR0_1.out HB.out))
     (case side2 => exact HC0_1.out)
     rintro e w31 ⟨v208, rfl, ho0, hb⟩
     refine ⟨_, rfl, ?_⟩
     have HO209 := Aside0.mk (Kd.R_lower (Kd.R_new' (Kd.R_new' ho0 (Kd.R_lt (rU HO196))) (Kd.R_lt (rU HO202))) (below_size hB))
     replace HO196 := Aside0.mk (Kd.R_elder' (rU HO196) (Kd.R_base ho0) hb)
     replace HO202 := Aside0.mk (Kd.R_elder' (rU HO202) (Kd.R_base ho0) hb)
     replace BK191 := bS BK191 hb
     replace BK203 := bS BK203 hb
     replace HB := hS HB hb
     (try clear hb)
     (try clear hb2)
     (try clear hk)
     (try clear hi)
     (try clear ho0)
     obtain ⟨Ao32, co32, eo32⟩ := Kd.R_slice HO209.out
     (first | subst eo32 | (injection eo32 with f1_ f2_ f3_; have f4_ := f1_.symm; have f5_ := f3_.symm; clear f1_ f2_ f3_; subst f4_; subst f5_))
     refine hK.out _ _ ⟨(blk_cell BK203.out 0).trans rfl, (blk_cell BK203.out 1).trans rfl, (blk_cell BK191.out 0).trans rfl, (blk_cell BK191.out 1).trans rfl⟩ (fun hHeld => ?_)
     clear hK K
     refine norm_ (a' := ?_) ?_ ?_
     rotate_left
     ·show Act.put _ (some 37) _ = _
      simp only [Act.put, List.setIfInBounds_toArray, List.set_cons_zero, List.set_cons_succ, i64_w, i32_w]
      rfl
     refine one_ (i := 3) (N := some 38) (bz 5 15) rfl rfl (by kernel_rfl) (by decide) (fun K hK => ?_)
     refine goes_ Tryd.func16 (by kernel_rfl) rfl #[.agg #[.int .i64 t199, .slice Ao28 t200.length co28], .agg #[.int .i64 t206, .slice Ao32 t207.length co32]] (by rfl) rfl rfl mapT ?_
     with_reducible refine (laws_eqPuzzle.calls k t199 _ _ t200 t206 _ _ t207 true _ ?side1 ?side2 ?side3 ?side4 A14.out).mono ?_
     (case side1 => exact cS (Kd.R_reads' HO202.out).2.2)
     (case side2 => exact (Kd.R_reads' HO202.out).2.1)
     (case side3 => exact cS (Kd.R_reads' HO209.out).2.2)
     (case side4 => exact (Kd.R_reads' HO209.out).2.1)
     rintro e w33 ⟨rfl, hb⟩
     refine ⟨_, rfl, ?_⟩
     replace HO196 := Aside0.mk (Kd.R_below (rU HO196) hb)
     replace HO202 := Aside0.mk (Kd.R_below (rU HO202) hb)
     replace HO209 := Aside0.mk (Kd.R_below (rU HO209) hb)
     replace BK191 := bS BK191 hb
     replace BK203 := bS BK203 hb
     replace HB := hS HB hb
     (try clear hb)
     (try clear hb2)
     (try clear hk)
     (try clear hi)
     refine hK.out _ _ ⟨(blk_cell BK203.out 0).trans rfl, (blk_cell BK203.out 1).trans rfl, (blk_cell BK191.out 0).trans rfl, (blk_cell BK191.out 1).trans rfl⟩ (fun hHeld => ?_)
     clear hK K
     refine norm_ (a' := ?_) ?_ ?_
     rotate_left
     ·show Act.put _ (some 38) _ = _
      simp only [Act.put, List.setIfInBounds_toArray, List.set_cons_zero, List.set_cons_succ, i64_w, i32_w]
      rfl
     refine run_ [(0, 4, 31, some 39)] ?_
     repeat ((apply tag0; refine run_p (v := ?_) (a' := ?_) rfl rfl (by kernel_rfl) (fun _ _ _ h => h) (by rfl) ?_ ?_ ?_; rotate_left 2; (intro w'; go_simp; with_reducible rfl); (first | (simp only [Act.put, List.setIfInBounds_toArray, List.set_cons_zero, List.set_cons_succ, i64_w, i32_w]; rfl) | rfl)))
     refine run_nil ?_
     refine done_ (by kernel_rfl) ?_
     try go_wp2
     go_ret
     exact ⟨by first | rfl | (simp [errW_none, errW_some] <;> rfl) | (simp [*, errW_none, errW_some] <;> rfl), hB⟩
    ·replace c15 := Bool.eq_false_iff.mpr c15
     subst c15
     have H1 : (none) = some r := by rw [if_neg (show ¬ (false = true) by decide)] at H; exact H
     clear H
     have H := H1
     clear H1
     exact absurd H (by simp)
  ·rw [if_neg c11] at H
   exact absurd H (by simp)

end Go.Proofs.YtjpfbkkikcpmhaaDoor.PFnExactPuzzleText
