-- Of this session's own program wip/gen/gen.py (it drives the kit's print): contracts of the functions that the law reaches.
import Derived.Test.YtjpfbkkikcpmhaaDoorPFnExactMakePuzzlex0
import Derived.Test.YtjpfbkkikcpmhaaDoorPFnExactMakePuzzlex6
namespace Go.Proofs.YtjpfbkkikcpmhaaDoor.PFnExactMakePuzzle
open Go.RowKit Go.Proofs.YtjpfbkkikcpmhaaDoorW.PrintWords Go.Proofs.YtjpfbkkikcpmhaaDoorW.PrintLast Go.Proofs.YtjpfbkkikcpmhaaDoorW.PrintMore Go.Proofs.YtjpfbkkikcpmhaaDoor.Base
attribute [local go_sem] max2_int min2_int max_two min_two max_three min_three max_four min_four   -- for this text's walks alone
set_option linter.unusedVariables false
set_option linter.unusedSimpArgs false

/-! ### impl_IsParty: function 76 -/
def impl_IsParty.l0 : Nat → List (S105) → Int → Int → Int → List (S105) → Option (Bool)
 | 0, _, _, _, _, _ => none
 | k + 1, x6, x7, x8, x308000, x308001 => if x8 < x7 then (if 0 ≤ x8 then (if x8 < (x6.length : Int) then (if ((rd_T105 x6 x8).f0) < 0 then (some false) else (if ((rd_T105 x6 x8).f0) ≥ ((rd_T105 x6 x8).f1) then (some false) else (if ((rd_T105 x6 x8).f1) ≥ x308000 then (some false) else (if x8 > 0 then (if 0 ≤ (wrap64 (x8 - 1)) then (if (wrap64 (x8 - 1)) < (x308001.length : Int) then ((impl_comparePairs.f k ((rd_T105 x308001 (wrap64 (x8 - 1))).f0) ((rd_T105 x308001 (wrap64 (x8 - 1))).f1) ((rd_T105 x6 x8).f0) ((rd_T105 x6 x8).f1)).bind fun t311 => (if t311 ≥ 0 then (some false) else (impl_IsParty.l0 k x6 x7 (wrap64 (x8 + 1)) x308000 x308001))) else (none)) else (none)) else (impl_IsParty.l0 k x6 x7 (wrap64 (x8 + 1)) x308000 x308001))))) else (none)) else (none)) else ((impl_areCrowd.f x308000).bind fun t312 => (some t312))
def impl_IsParty.f (k : Nat) (a0_0 : Int) (l0_1 : List (S105)) : Option (Bool) := impl_IsParty.l0 k l0_1 (l0_1.length : Int) 0 a0_0 l0_1
theorem impl_IsParty.mono_l : ∀ k, (∀ y0 y1 y2 y3 y4, LeO (impl_IsParty.l0 k y0 y1 y2 y3 y4) (impl_IsParty.l0 (k + 1) y0 y1 y2 y3 y4))
 | 0 => fun _ _ _ _ _ r h => by simp [impl_IsParty.l0] at h
 | k + 1 => by
  have ih0 := impl_IsParty.mono_l k
  ·intro y0 y1 y2 y3 y4
   unfold impl_IsParty.l0
   repeat' first
   | (with_reducible exact ih0 _ _ _ _ _)
   | (with_reducible exact impl_comparePairs.mono _ _ _ _ _)
   | (with_reducible exact LeO.refl _)
   | (with_reducible exact LeO.none _)
   | (with_reducible refine LeO.ite ?_ ?_)
   | (with_reducible refine LeO.bind ?_ (fun _ => ?_))
   | exact ih0 _ _ _ _ _
   | exact impl_comparePairs.mono _ _ _ _ _
   | exact LeO.none _
   | refine LeO.ite ?_ ?_
   | refine LeO.bind ?_ (fun _ => ?_)
theorem impl_IsParty.mono : ∀ a0 a1 k, LeO (impl_IsParty.f k a0 a1) (impl_IsParty.f (k + 1) a0 a1) := by
 intro a0 a1 k
 have ih0 := impl_IsParty.mono_l k
 unfold impl_IsParty.f
 repeat' first
   | (with_reducible exact ih0 _ _ _ _ _)
   | (with_reducible exact impl_comparePairs.mono _ _ _ _ _)
   | (with_reducible exact LeO.refl _)
   | (with_reducible exact LeO.none _)
   | (with_reducible refine LeO.ite ?_ ?_)
   | (with_reducible refine LeO.bind ?_ (fun _ => ?_))
   | exact ih0 _ _ _ _ _
   | exact impl_comparePairs.mono _ _ _ _ _
   | exact LeO.none _
   | refine LeO.ite ?_ ?_
   | refine LeO.bind ?_ (fun _ => ?_)
def impl_IsParty.T4 : Bool × List (List Nat × List Nat) := (true, [([], []), ([0], [0]), ([1], [1]), ([2], [2]), ([3], [3]), ([4, 3], [3, 4]), ([3], [3]), ([6, 3], [3, 6]), ([5, 7, 3], [3, 5, 7]), ([3, 8], [3, 8]), ([9, 3], [9]), ([10], [10]), ([11, 10], [10, 11]), ([10], [10]), ([13, 10], [10, 13]), ([12, 14, 10], [10, 12, 14]), ([10, 15], [10, 15]), ([16, 10], [16]), ([17], [17]), ([18, 17], [17, 18]), ([19, 17, 17], [17, 19]), ([20], [20]), ([21, 20], [20, 21]), ([20], [20]), ([23, 20], [20, 23]), ([22, 24, 20], [20, 22, 24]), ([25, 20], [20, 25]), ([20], [20]), ([26, 27, 20, 20], [20, 26, 27]), ([28, 20], [20, 28]), ([20, 29, 17], [17, 20, 29]), ([17, 30], [17, 30])])
def impl_IsParty.B4 : List Nat := [0, 1, 3, 7, 15, 31, 15, 79, 255, 511, 1023, 2047, 4095, 2047, 10239, 32767, 65535, 131071, 262143, 524287, 1048575, 2097151, 4194303, 2097151, 10485759, 33554431, 67108863, 2097151, 268435455, 536870911, 1073741823, 2147483647]
theorem impl_IsParty.tab4 : rtab .any (opsOf Tryd.f76 4) = impl_IsParty.T4 := by kernel_rfl
theorem impl_IsParty.bits4 : waitsOk impl_IsParty.T4.2 impl_IsParty.B4 = true := by kernel_rfl
set_option maxHeartbeats 8000000 in
set_option maxRecDepth 100000 in
theorem impl_IsParty.calls (k : Nat) (a0_0 : Int) (A0_1 : Option Addr) (c0_1 : Nat) (l0_1 : List (S105)) (r : Bool) (w : World) (hr0_1 : Kd.C k105 w A0_1 l0_1.length l0_1) (hc0_1 : l0_1.length ≤ c0_1) (h : impl_IsParty.f k a0_0 l0_1 = some r) :
  Calls Tryd.prog 76 #[.agg #[.int .i64 a0_0, .slice A0_1 l0_1.length c0_1]] w fun e w' => e = .returned (.bool r) ∧ Below w.heap.size w w' := by
 have hu33 := Tryd.underlying33
 have hu105 := Tryd.underlying105
 have HR0_1 := Aside0.mk hr0_1
 have HC0_1 := Aside0.mk hc0_1
 clear hr0_1 hc0_1
 have HB := Aside0.mk (Below.refl w.heap.size w)
 have H : (impl_IsParty.l0 k l0_1 (l0_1.length : Int) 0 a0_0 l0_1) = some r := h
 clear h
 have H' := Aside0.mk H
 clear H
 go_enter Tryd.func76, Tryd.ntmps76
 go_wp2_with (first | ((with_reducible refine gate_dst (N := 1) rfl ?_); refine bxE 1 #[.int .i64 a0_0, .slice A0_1 l0_1.length c0_1] 33 rfl ?_; intro gb307 hg w2 hbox hb; have BK307 := Aside0.mk (hbox); have GW307 := gS HB hg; have GE307 := gS HB hg; replace HB := hS HB hb; clear hb hbox hg; have hcz3_0 := cz BK307 0; have hcz3_1 := cz BK307 1; have hfz3_0 := fz BK307 0; have hfz3_1 := fz BK307 1))
 go_loopg [8] k (fun kq v8 w' => ∃ (x8_1 : Int), v8 = .int .i64 x8_1 ∧ Aside0 (impl_IsParty.l0 kq l0_1 (l0_1.length : Int) x8_1 a0_0 l0_1 = some r) ∧ Aside0 (kq ≤ k) ∧ Aside0 (w'.heap[gb307]? = some (.cells #[.int .i64 a0_0, (.slice A0_1 l0_1.length c0_1)] 33 (0, 0))) ∧ Aside0 (Below w.heap.size w w'))
 case atStart => exact ⟨(0), (by first | rfl | (simp; done) | (simp [*]; done)), H', ⟨Nat.le_refl _⟩, ⟨bK⟩, ⟨hB⟩⟩
 case round =>
  clear H'
  try clear p2
  try clear hcz3_0
  try clear hcz3_1
  try clear hfz3_0
  try clear hfz3_1
  obtain ⟨x8_1, rfl, HA, HK1, BK307, HB⟩ := hrel
  cases gk with
  | zero => exact absurd HA.out (by simp [impl_IsParty.l0])
  | succ k1 =>
   have H := HA.out
   clear HA
   simp only [impl_IsParty.l0] at H
   by_cases c4 : x8_1 < (l0_1.length : Int)
   ·rw [if_pos c4] at H
    have c4b0 : decide (x8_1 < (l0_1.length : Int)) = true := decide_eq_true c4
    clear c4
    by_cases c5 : 0 ≤ x8_1
    ·rw [if_pos c5] at H
     have c5b0 : decide (0 ≤ x8_1) = true := decide_eq_true c5
     clear c5
     by_cases c6 : x8_1 < (l0_1.length : Int)
     ·rw [if_pos c6] at H
      have c6b0 : decide (x8_1 < (l0_1.length : Int)) = true := decide_eq_true c6
      clear c6
      by_cases c7 : ((rd_T105 l0_1 x8_1).f0) < 0
      ·rw [if_pos c7] at H
       have c7b0 : decide (((rd_T105 l0_1 x8_1).f0) < 0) = true := decide_eq_true c7
       clear c7
       obtain rfl := Option.some.inj H
       have p308 : 0 ≤ (x8_1 : Int) := of_decide_eq_true (by first | (with_reducible assumption) | assumption)
       have q308 : x8_1 < (l0_1.length : Int) := of_decide_eq_true (by first | (with_reducible assumption) | assumption)
       obtain ⟨ad308, e308, hx308_0, hx308_1⟩ := at_T105 HR0_1.out x8_1 p308 q308
       cases e308
       replace hx308_0 := (HB.out.cell (World.block_lt_of_cell? w _ hx308_0)).trans hx308_0
       replace hx308_1 := (HB.out.cell (World.block_lt_of_cell? w _ hx308_1)).trans hx308_1
       replace p308 := eq_true p308
       replace q308 := eq_true q308
       try go_wp2_with (first | ((with_reducible refine gate_dst (N := 4) rfl ?_); refine bxE 4 #[.int .i64 0, .int .i64 0] 105 rfl ?_; intro gb309 hg w8 hbox hb; have BK309 := Aside0.mk (hbox); have GW309 := gS HB hg; have GE309 := gS HB hg; have NB307_309 := nL BK307 hg; have NB309_307 := nG BK307 hg; replace BK307 := bS BK307 hb; replace HB := hS HB hb; clear hb hbox hg; have hnb9 := NB309_307.out; have hnc9 := NB307_309.out; have hcz10_0 := cz BK309 0; have hcz10_1 := cz BK309 1; have hfz10_0 := fz BK309 0; have hfz10_1 := fz BK309 1))
       have n0_ : Aside0 (((w8.setCell ⟨gb309, 0, none⟩ (.int .i64 ((rd_T105 l0_1 x8_1).f0))).setCell ⟨gb309, 1, none⟩ (.int .i64 ((rd_T105 l0_1 x8_1).f1))).heap[gb307]? = some (.cells #[.int .i64 a0_0, .slice (some ad308) l0_1.length c0_1] 33 (0, 0))) := ⟨by (with_reducible repeat (first | refine blk_drewN ?_ _ | refine blk_drew ?_ | refine blk_alloc ?_ _)); refine blk_far ?_ NB307_309.out _; (with_reducible repeat (first | refine blk_drewN ?_ _ | refine blk_drew ?_ | refine blk_alloc ?_ _)); refine blk_far ?_ NB307_309.out _; (with_reducible repeat (first | refine blk_drewN ?_ _ | refine blk_drew ?_ | refine blk_alloc ?_ _)); exact BK307.out⟩
       have n1_ : Aside0 (((w8.setCell ⟨gb309, 0, none⟩ (.int .i64 ((rd_T105 l0_1 x8_1).f0))).setCell ⟨gb309, 1, none⟩ (.int .i64 ((rd_T105 l0_1 x8_1).f1))).heap[gb309]? = some (.cells #[.int .i64 ((rd_T105 l0_1 x8_1).f0), .int .i64 ((rd_T105 l0_1 x8_1).f1)] 105 (0, 0))) := ⟨by (with_reducible repeat (first | refine blk_drewN ?_ _ | refine blk_drew ?_ | refine blk_alloc ?_ _)); refine blk_put (cs := #[.int .i64 ((rd_T105 l0_1 x8_1).f0), .int .i64 0]) ?_ 1 _ rfl; (with_reducible repeat (first | refine blk_drewN ?_ _ | refine blk_drew ?_ | refine blk_alloc ?_ _)); refine blk_put (cs := #[.int .i64 0, .int .i64 0]) ?_ 0 _ rfl; (with_reducible repeat (first | refine blk_drewN ?_ _ | refine blk_drew ?_ | refine blk_alloc ?_ _)); exact BK309.out⟩
       have n2_ : Aside0 (Below w.heap.size w ((w8.setCell ⟨gb309, 0, none⟩ (.int .i64 ((rd_T105 l0_1 x8_1).f0))).setCell ⟨gb309, 1, none⟩ (.int .i64 ((rd_T105 l0_1 x8_1).f1)))) := ⟨hB⟩
       (try clear BK307)
       (try clear BK309)
       (try clear HB)
       generalize ((w8.setCell ⟨gb309, 0, none⟩ (.int .i64 ((rd_T105 l0_1 x8_1).f0))).setCell ⟨gb309, 1, none⟩ (.int .i64 ((rd_T105 l0_1 x8_1).f1))) = w11 at n0_ n1_ n2_ ⊢
       have BK307 := n0_
       have BK309 := n1_
       have HB := n2_
       clear n0_ n1_ n2_
       replace BK307 := Aside0.mk (blk_drew BK307.out)
       replace BK309 := Aside0.mk (blk_drew BK309.out)
       replace HB := Aside0.mk (below_drew1 HB.out)
       refine start_ (n := 32) (S := fun w' => w'.cell? ⟨gb309, 0, none⟩ = some (.int .i64 ((rd_T105 l0_1 x8_1).f0)) ∧ w'.cell? ⟨gb309, 1, none⟩ = some (.int .i64 ((rd_T105 l0_1 x8_1).f1))) (ds := []) (bz 32 0) (by kernel_rfl) rfl rfl ⟨(blk_cell BK309.out 0).trans rfl, (blk_cell BK309.out 1).trans rfl⟩ (fun hHeld => ?_); refine with_tabW impl_IsParty.tab4 impl_IsParty.bits4 (fun HT_ HW_ => ?_)
       generalize w11.drew = w12 at BK307 BK309 HB hHeld ⊢
       refine run_ [(0, 0, 1, some 13), (1, 1, 3, some 14), (0, 2, 7, some 15), (0, 3, 15, some 16), (2, 4, 31, some 17), (2, 5, 63, some 18), (2, 6, 127, some 19), (2, 7, 255, some 20), (2, 8, 511, some 21), (0, 9, 1023, some 22), (0, 10, 2047, some 23), (2, 11, 4095, some 24), (2, 12, 8191, some 25), (2, 13, 16383, some 26), (2, 14, 32767, some 27), (2, 15, 65535, some 28), (0, 16, 131071, some 29), (0, 17, 262143, some 30), (2, 18, 524287, some 31), (2, 19, 1048575, some 32), (2, 20, 2097151, some 33), (2, 21, 4194303, some 34), (2, 22, 8388607, some 35), (2, 23, 16777215, some 36), (2, 24, 33554431, some 37), (2, 25, 67108863, some 38), (2, 26, 134217727, some 39), (2, 27, 268435455, some 40), (2, 28, 536870911, some 41), (2, 29, 1073741823, some 42), (2, 30, 2147483647, some 43), (0, 31, 4294967295, some 44)] ?_
       repeat (first | (apply tag0; refine run_p (v := ?_) (a' := ?_) rfl rfl (any_of HT_.out (by kernel_rfl)) (fun _ _ _ h => h) (by rfl) ?_ ?_ ?_; rotate_left 2; (intro w'; go_simp; with_reducible rfl); (first | (simp only [Act.put, List.setIfInBounds_toArray, List.set_cons_zero, List.set_cons_succ, i64_w, i32_w]; rfl) | rfl)) | (apply tag1; refine run_t (v := ?_) (a' := ?_) rfl rfl (take_ofW HT_.out HW_.out (by kernel_rfl)) (fun _ _ _ h => h) (by rfl) ?_ hHeld ?_ ?_; rotate_left 2; (rintro w' ⟨s0, s1⟩; go_simp; with_reducible rfl); (first | (simp only [Act.put, List.setIfInBounds_toArray, List.set_cons_zero, List.set_cons_succ, i64_w, i32_w]; rfl) | rfl)) | (apply tag2; refine run_o (a' := ?_) rfl rfl (any_of HT_.out (by kernel_rfl)) (fun _ _ _ h => h) (by rfl) ?_ ?_; rotate_left; (first | (simp only [Act.put, List.setIfInBounds_toArray, List.set_cons_zero, List.set_cons_succ, i64_w, i32_w]; rfl) | rfl)))
       refine run_nil ?_
       refine done_ (done_of HT_.out (by kernel_rfl)) ?_
       try go_wp2
       go_ret
       exact ⟨by first | rfl | (simp [errW_none, errW_some] <;> rfl) | (simp [*, errW_none, errW_some] <;> rfl), hB⟩
      ·rw [if_neg c7] at H
       have c7b0 : decide (((rd_T105 l0_1 x8_1).f0) < 0) = false := decide_eq_false c7
       clear c7
       by_cases c13 : ((rd_T105 l0_1 x8_1).f0) ≥ ((rd_T105 l0_1 x8_1).f1)
       ·rw [if_pos c13] at H
        have c13b0 : decide (((rd_T105 l0_1 x8_1).f1) ≤ ((rd_T105 l0_1 x8_1).f0)) = true := decide_eq_true c13
        clear c13
        obtain rfl := Option.some.inj H
        have p308 : 0 ≤ (x8_1 : Int) := of_decide_eq_true (by first | (with_reducible assumption) | assumption)
        have q308 : x8_1 < (l0_1.length : Int) := of_decide_eq_true (by first | (with_reducible assumption) | assumption)
        obtain ⟨ad308, e308, hx308_0, hx308_1⟩ := at_T105 HR0_1.out x8_1 p308 q308
        cases e308
        replace hx308_0 := (HB.out.cell (World.block_lt_of_cell? w _ hx308_0)).trans hx308_0
        replace hx308_1 := (HB.out.cell (World.block_lt_of_cell? w _ hx308_1)).trans hx308_1
        replace p308 := eq_true p308
        replace q308 := eq_true q308
        try go_wp2_with (first | ((with_reducible refine gate_dst (N := 4) rfl ?_); refine bxE 4 #[.int .i64 0, .int .i64 0] 105 rfl ?_; intro gb309 hg w14 hbox hb; have BK309 := Aside0.mk (hbox); have GW309 := gS HB hg; have GE309 := gS HB hg; have NB307_309 := nL BK307 hg; have NB309_307 := nG BK307 hg; replace BK307 := bS BK307 hb; replace HB := hS HB hb; clear hb hbox hg; have hnb15 := NB309_307.out; have hnc15 := NB307_309.out; have hcz16_0 := cz BK309 0; have hcz16_1 := cz BK309 1; have hfz16_0 := fz BK309 0; have hfz16_1 := fz BK309 1))
        have n0_ : Aside0 (((w14.setCell ⟨gb309, 0, none⟩ (.int .i64 ((rd_T105 l0_1 x8_1).f0))).setCell ⟨gb309, 1, none⟩ (.int .i64 ((rd_T105 l0_1 x8_1).f1))).heap[gb307]? = some (.cells #[.int .i64 a0_0, .slice (some ad308) l0_1.length c0_1] 33 (0, 0))) := ⟨by (with_reducible repeat (first | refine blk_drewN ?_ _ | refine blk_drew ?_ | refine blk_alloc ?_ _)); refine blk_far ?_ NB307_309.out _; (with_reducible repeat (first | refine blk_drewN ?_ _ | refine blk_drew ?_ | refine blk_alloc ?_ _)); refine blk_far ?_ NB307_309.out _; (with_reducible repeat (first | refine blk_drewN ?_ _ | refine blk_drew ?_ | refine blk_alloc ?_ _)); exact BK307.out⟩
        have n1_ : Aside0 (((w14.setCell ⟨gb309, 0, none⟩ (.int .i64 ((rd_T105 l0_1 x8_1).f0))).setCell ⟨gb309, 1, none⟩ (.int .i64 ((rd_T105 l0_1 x8_1).f1))).heap[gb309]? = some (.cells #[.int .i64 ((rd_T105 l0_1 x8_1).f0), .int .i64 ((rd_T105 l0_1 x8_1).f1)] 105 (0, 0))) := ⟨by (with_reducible repeat (first | refine blk_drewN ?_ _ | refine blk_drew ?_ | refine blk_alloc ?_ _)); refine blk_put (cs := #[.int .i64 ((rd_T105 l0_1 x8_1).f0), .int .i64 0]) ?_ 1 _ rfl; (with_reducible repeat (first | refine blk_drewN ?_ _ | refine blk_drew ?_ | refine blk_alloc ?_ _)); refine blk_put (cs := #[.int .i64 0, .int .i64 0]) ?_ 0 _ rfl; (with_reducible repeat (first | refine blk_drewN ?_ _ | refine blk_drew ?_ | refine blk_alloc ?_ _)); exact BK309.out⟩
        have n2_ : Aside0 (Below w.heap.size w ((w14.setCell ⟨gb309, 0, none⟩ (.int .i64 ((rd_T105 l0_1 x8_1).f0))).setCell ⟨gb309, 1, none⟩ (.int .i64 ((rd_T105 l0_1 x8_1).f1)))) := ⟨hB⟩
        (try clear BK307)
        (try clear BK309)
        (try clear HB)
        generalize ((w14.setCell ⟨gb309, 0, none⟩ (.int .i64 ((rd_T105 l0_1 x8_1).f0))).setCell ⟨gb309, 1, none⟩ (.int .i64 ((rd_T105 l0_1 x8_1).f1))) = w17 at n0_ n1_ n2_ ⊢
        have BK307 := n0_
        have BK309 := n1_
        have HB := n2_
        clear n0_ n1_ n2_
        replace BK307 := Aside0.mk (blk_drew BK307.out)
        replace BK309 := Aside0.mk (blk_drew BK309.out)
        replace HB := Aside0.mk (below_drew1 HB.out)
        refine start_ (n := 32) (S := fun w' => w'.cell? ⟨gb309, 0, none⟩ = some (.int .i64 ((rd_T105 l0_1 x8_1).f0)) ∧ w'.cell? ⟨gb309, 1, none⟩ = some (.int .i64 ((rd_T105 l0_1 x8_1).f1))) (ds := []) (bz 32 0) (by kernel_rfl) rfl rfl ⟨(blk_cell BK309.out 0).trans rfl, (blk_cell BK309.out 1).trans rfl⟩ (fun hHeld => ?_); refine with_tabW impl_IsParty.tab4 impl_IsParty.bits4 (fun HT_ HW_ => ?_)
        generalize w17.drew = w18 at BK307 BK309 HB hHeld ⊢
        refine run_ [(0, 0, 1, some 13), (1, 1, 3, some 14), (0, 2, 7, some 15), (0, 3, 15, some 16), (0, 4, 31, some 17), (0, 6, 95, some 19), (1, 5, 127, some 18), (1, 7, 255, some 20), (0, 8, 511, some 21), (0, 9, 1023, some 22), (0, 10, 2047, some 23), (2, 11, 4095, some 24), (2, 12, 8191, some 25), (2, 13, 16383, some 26), (2, 14, 32767, some 27), (2, 15, 65535, some 28), (0, 16, 131071, some 29), (0, 17, 262143, some 30), (2, 18, 524287, some 31), (2, 19, 1048575, some 32), (2, 20, 2097151, some 33), (2, 21, 4194303, some 34), (2, 22, 8388607, some 35), (2, 23, 16777215, some 36), (2, 24, 33554431, some 37), (2, 25, 67108863, some 38), (2, 26, 134217727, some 39), (2, 27, 268435455, some 40), (2, 28, 536870911, some 41), (2, 29, 1073741823, some 42), (2, 30, 2147483647, some 43), (0, 31, 4294967295, some 44)] ?_
        repeat (first | (apply tag0; refine run_p (v := ?_) (a' := ?_) rfl rfl (any_of HT_.out (by kernel_rfl)) (fun _ _ _ h => h) (by rfl) ?_ ?_ ?_; rotate_left 2; (intro w'; go_simp; with_reducible rfl); (first | (simp only [Act.put, List.setIfInBounds_toArray, List.set_cons_zero, List.set_cons_succ, i64_w, i32_w]; rfl) | rfl)) | (apply tag1; refine run_t (v := ?_) (a' := ?_) rfl rfl (take_ofW HT_.out HW_.out (by kernel_rfl)) (fun _ _ _ h => h) (by rfl) ?_ hHeld ?_ ?_; rotate_left 2; (rintro w' ⟨s0, s1⟩; go_simp; with_reducible rfl); (first | (simp only [Act.put, List.setIfInBounds_toArray, List.set_cons_zero, List.set_cons_succ, i64_w, i32_w]; rfl) | rfl)) | (apply tag2; refine run_o (a' := ?_) rfl rfl (any_of HT_.out (by kernel_rfl)) (fun _ _ _ h => h) (by rfl) ?_ ?_; rotate_left; (first | (simp only [Act.put, List.setIfInBounds_toArray, List.set_cons_zero, List.set_cons_succ, i64_w, i32_w]; rfl) | rfl)))
        refine run_nil ?_
        refine done_ (done_of HT_.out (by kernel_rfl)) ?_
        try go_wp2
        go_ret
        exact ⟨by first | rfl | (simp [errW_none, errW_some] <;> rfl) | (simp [*, errW_none, errW_some] <;> rfl), hB⟩
       ·rw [if_neg c13] at H
        have c13b0 : decide (((rd_T105 l0_1 x8_1).f1) ≤ ((rd_T105 l0_1 x8_1).f0)) = false := decide_eq_false c13
        clear c13
        by_cases c19 : ((rd_T105 l0_1 x8_1).f1) ≥ a0_0
        ·rw [if_pos c19] at H
         have c19b0 : decide (a0_0 ≤ ((rd_T105 l0_1 x8_1).f1)) = true := decide_eq_true c19
         clear c19
         obtain rfl := Option.some.inj H
         have p308 : 0 ≤ (x8_1 : Int) := of_decide_eq_true (by first | (with_reducible assumption) | assumption)
         have q308 : x8_1 < (l0_1.length : Int) := of_decide_eq_true (by first | (with_reducible assumption) | assumption)
         obtain ⟨ad308, e308, hx308_0, hx308_1⟩ := at_T105 HR0_1.out x8_1 p308 q308
         cases e308
         replace hx308_0 := (HB.out.cell (World.block_lt_of_cell? w _ hx308_0)).trans hx308_0
         replace hx308_1 := (HB.out.cell (World.block_lt_of_cell? w _ hx308_1)).trans hx308_1
         replace p308 := eq_true p308
         replace q308 := eq_true q308
         try go_wp2_with (first | ((with_reducible refine gate_dst (N := 4) rfl ?_); refine bxE 4 #[.int .i64 0, .int .i64 0] 105 rfl ?_; intro gb309 hg w20 hbox hb; have BK309 := Aside0.mk (hbox); have GW309 := gS HB hg; have GE309 := gS HB hg; have NB307_309 := nL BK307 hg; have NB309_307 := nG BK307 hg; replace BK307 := bS BK307 hb; replace HB := hS HB hb; clear hb hbox hg; have hnb21 := NB309_307.out; have hnc21 := NB307_309.out; have hcz22_0 := cz BK309 0; have hcz22_1 := cz BK309 1; have hfz22_0 := fz BK309 0; have hfz22_1 := fz BK309 1))
         have n0_ : Aside0 (((w20.setCell ⟨gb309, 0, none⟩ (.int .i64 ((rd_T105 l0_1 x8_1).f0))).setCell ⟨gb309, 1, none⟩ (.int .i64 ((rd_T105 l0_1 x8_1).f1))).heap[gb307]? = some (.cells #[.int .i64 a0_0, .slice (some ad308) l0_1.length c0_1] 33 (0, 0))) := ⟨by (with_reducible repeat (first | refine blk_drewN ?_ _ | refine blk_drew ?_ | refine blk_alloc ?_ _)); refine blk_far ?_ NB307_309.out _; (with_reducible repeat (first | refine blk_drewN ?_ _ | refine blk_drew ?_ | refine blk_alloc ?_ _)); refine blk_far ?_ NB307_309.out _; (with_reducible repeat (first | refine blk_drewN ?_ _ | refine blk_drew ?_ | refine blk_alloc ?_ _)); exact BK307.out⟩
         have n1_ : Aside0 (((w20.setCell ⟨gb309, 0, none⟩ (.int .i64 ((rd_T105 l0_1 x8_1).f0))).setCell ⟨gb309, 1, none⟩ (.int .i64 ((rd_T105 l0_1 x8_1).f1))).heap[gb309]? = some (.cells #[.int .i64 ((rd_T105 l0_1 x8_1).f0), .int .i64 ((rd_T105 l0_1 x8_1).f1)] 105 (0, 0))) := ⟨by (with_reducible repeat (first | refine blk_drewN ?_ _ | refine blk_drew ?_ | refine blk_alloc ?_ _)); refine blk_put (cs := #[.int .i64 ((rd_T105 l0_1 x8_1).f0), .int .i64 0]) ?_ 1 _ rfl; (with_reducible repeat (first | refine blk_drewN ?_ _ | refine blk_drew ?_ | refine blk_alloc ?_ _)); refine blk_put (cs := #[.int .i64 0, .int .i64 0]) ?_ 0 _ rfl; (with_reducible repeat (first | refine blk_drewN ?_ _ | refine blk_drew ?_ | refine blk_alloc ?_ _)); exact BK309.out⟩
         have n2_ : Aside0 (Below w.heap.size w ((w20.setCell ⟨gb309, 0, none⟩ (.int .i64 ((rd_T105 l0_1 x8_1).f0))).setCell ⟨gb309, 1, none⟩ (.int .i64 ((rd_T105 l0_1 x8_1).f1)))) := ⟨hB⟩
         (try clear BK307)
         (try clear BK309)
         (try clear HB)
         generalize ((w20.setCell ⟨gb309, 0, none⟩ (.int .i64 ((rd_T105 l0_1 x8_1).f0))).setCell ⟨gb309, 1, none⟩ (.int .i64 ((rd_T105 l0_1 x8_1).f1))) = w23 at n0_ n1_ n2_ ⊢
         have BK307 := n0_
         have BK309 := n1_
         have HB := n2_
         clear n0_ n1_ n2_
         replace BK307 := Aside0.mk (blk_drew BK307.out)
         replace BK309 := Aside0.mk (blk_drew BK309.out)
         replace HB := Aside0.mk (below_drew1 HB.out)
         refine start_ (n := 32) (S := fun w' => w'.cell? ⟨gb309, 0, none⟩ = some (.int .i64 ((rd_T105 l0_1 x8_1).f0)) ∧ w'.cell? ⟨gb309, 1, none⟩ = some (.int .i64 ((rd_T105 l0_1 x8_1).f1)) ∧ w'.cell? ⟨gb307, 0, none⟩ = some (.int .i64 a0_0) ∧ w'.cell? ⟨gb307, 1, none⟩ = some (.slice (some ad308) l0_1.length c0_1)) (ds := []) (bz 32 0) (by kernel_rfl) rfl rfl ⟨(blk_cell BK309.out 0).trans rfl, (blk_cell BK309.out 1).trans rfl, (blk_cell BK307.out 0).trans rfl, (blk_cell BK307.out 1).trans rfl⟩ (fun hHeld => ?_); refine with_tabW impl_IsParty.tab4 impl_IsParty.bits4 (fun HT_ HW_ => ?_)
         generalize w23.drew = w24 at BK307 BK309 HB hHeld ⊢
         refine run_ [(0, 0, 1, some 13), (1, 1, 3, some 14), (0, 2, 7, some 15), (0, 3, 15, some 16), (0, 4, 31, some 17), (0, 6, 95, some 19), (1, 5, 127, some 18), (1, 7, 255, some 20), (0, 8, 511, some 21), (0, 9, 1023, some 22), (0, 10, 2047, some 23), (0, 11, 4095, some 24), (0, 13, 12287, some 26), (1, 12, 16383, some 25), (1, 14, 32767, some 27), (0, 15, 65535, some 28), (0, 16, 131071, some 29), (0, 17, 262143, some 30), (2, 18, 524287, some 31), (2, 19, 1048575, some 32), (2, 20, 2097151, some 33), (2, 21, 4194303, some 34), (2, 22, 8388607, some 35), (2, 23, 16777215, some 36), (2, 24, 33554431, some 37), (2, 25, 67108863, some 38), (2, 26, 134217727, some 39), (2, 27, 268435455, some 40), (2, 28, 536870911, some 41), (2, 29, 1073741823, some 42), (2, 30, 2147483647, some 43), (0, 31, 4294967295, some 44)] ?_
         repeat (first | (apply tag0; refine run_p (v := ?_) (a' := ?_) rfl rfl (any_of HT_.out (by kernel_rfl)) (fun _ _ _ h => h) (by rfl) ?_ ?_ ?_; rotate_left 2; (intro w'; go_simp; with_reducible rfl); (first | (simp only [Act.put, List.setIfInBounds_toArray, List.set_cons_zero, List.set_cons_succ, i64_w, i32_w]; rfl) | rfl)) | (apply tag1; refine run_t (v := ?_) (a' := ?_) rfl rfl (take_ofW HT_.out HW_.out (by kernel_rfl)) (fun _ _ _ h => h) (by rfl) ?_ hHeld ?_ ?_; rotate_left 2; (rintro w' ⟨s0, s1, s2, s3⟩; go_simp; with_reducible rfl); (first | (simp only [Act.put, List.setIfInBounds_toArray, List.set_cons_zero, List.set_cons_succ, i64_w, i32_w]; rfl) | rfl)) | (apply tag2; refine run_o (a' := ?_) rfl rfl (any_of HT_.out (by kernel_rfl)) (fun _ _ _ h => h) (by rfl) ?_ ?_; rotate_left; (first | (simp only [Act.put, List.setIfInBounds_toArray, List.set_cons_zero, List.set_cons_succ, i64_w, i32_w]; rfl) | rfl)))
         refine run_nil ?_
         refine done_ (done_of HT_.out (by kernel_rfl)) ?_
         try go_wp2
         go_ret
         exact ⟨by first | rfl | (simp [errW_none, errW_some] <;> rfl) | (simp [*, errW_none, errW_some] <;> rfl), hB⟩
        ·rw [if_neg c19] at H
         have c19b0 : decide (a0_0 ≤ ((rd_T105 l0_1 x8_1).f1)) = false := decide_eq_false c19
         clear c19
         by_cases c25 : x8_1 > 0
         ·rw [if_pos c25] at H
          have c25b0 : decide (0 < x8_1) = true := decide_eq_true c25
          clear c25
          obtain ⟨ji26, hji26⟩ : ∃ j_ : Int, (wrap64 (x8_1 - 1)) = j_ := ⟨_, rfl⟩
          replace H : (if 0 ≤ (ji26) then (if (ji26) < (l0_1.length : Int) then ((impl_comparePairs.f k1 ((rd_T105 l0_1 (ji26)).f0) ((rd_T105 l0_1 (ji26)).f1) ((rd_T105 l0_1 x8_1).f0) ((rd_T105 l0_1 x8_1).f1)).bind fun t311 => (if t311 ≥ 0 then (some false) else (impl_IsParty.l0 k1 l0_1 (l0_1.length : Int) (wrap64 (x8_1 + 1)) a0_0 l0_1))) else (none)) else (none)) = some r := by first | (rw [hji26] at H; exact H) | (simp only [hji26] at H ⊢; exact H)
          have hji26w : (IntKind.i64.wrap (x8_1 - 1)) = ji26 := (i64_w _).trans hji26
          by_cases c27 : 0 ≤ (ji26)
          ·rw [if_pos c27] at H
           have c27b0 : decide (0 ≤ (ji26)) = true := decide_eq_true c27
           clear c27
           by_cases c28 : (ji26) < (l0_1.length : Int)
           ·rw [if_pos c28] at H
            have c28b0 : decide ((ji26) < (l0_1.length : Int)) = true := decide_eq_true c28
            clear c28
            replace H := Option.bind_eq_some_iff.mp H
            obtain ⟨t311, A290, H⟩ := H
            try dsimp only at H
            have A29 := Aside0.mk A290
            clear A290
            by_cases c30 : t311 ≥ 0
            ·rw [if_pos c30] at H
             have c30b0 : decide (0 ≤ t311) = true := decide_eq_true c30
             clear c30
             obtain rfl := Option.some.inj H
             have p308 : 0 ≤ (x8_1 : Int) := of_decide_eq_true (by first | (with_reducible assumption) | assumption)
             have q308 : x8_1 < (l0_1.length : Int) := of_decide_eq_true (by first | (with_reducible assumption) | assumption)
             obtain ⟨ad308, e308, hx308_0, hx308_1⟩ := at_T105 HR0_1.out x8_1 p308 q308
             cases e308
             replace hx308_0 := (HB.out.cell (World.block_lt_of_cell? w _ hx308_0)).trans hx308_0
             replace hx308_1 := (HB.out.cell (World.block_lt_of_cell? w _ hx308_1)).trans hx308_1
             replace p308 := eq_true p308
             replace q308 := eq_true q308
             try go_wp2_with (first | ((with_reducible refine gate_dst (N := 4) rfl ?_); refine bxE 4 #[.int .i64 0, .int .i64 0] 105 rfl ?_; intro gb309 hg w31 hbox hb; have BK309 := Aside0.mk (hbox); have GW309 := gS HB hg; have GE309 := gS HB hg; have NB307_309 := nL BK307 hg; have NB309_307 := nG BK307 hg; replace BK307 := bS BK307 hb; replace HB := hS HB hb; clear hb hbox hg; have hnb32 := NB309_307.out; have hnc32 := NB307_309.out; have hcz33_0 := cz BK309 0; have hcz33_1 := cz BK309 1; have hfz33_0 := fz BK309 0; have hfz33_1 := fz BK309 1))
             have n0_ : Aside0 (((w31.setCell ⟨gb309, 0, none⟩ (.int .i64 ((rd_T105 l0_1 x8_1).f0))).setCell ⟨gb309, 1, none⟩ (.int .i64 ((rd_T105 l0_1 x8_1).f1))).heap[gb307]? = some (.cells #[.int .i64 a0_0, .slice (some ad308) l0_1.length c0_1] 33 (0, 0))) := ⟨by (with_reducible repeat (first | refine blk_drewN ?_ _ | refine blk_drew ?_ | refine blk_alloc ?_ _)); refine blk_far ?_ NB307_309.out _; (with_reducible repeat (first | refine blk_drewN ?_ _ | refine blk_drew ?_ | refine blk_alloc ?_ _)); refine blk_far ?_ NB307_309.out _; (with_reducible repeat (first | refine blk_drewN ?_ _ | refine blk_drew ?_ | refine blk_alloc ?_ _)); exact BK307.out⟩
             have n1_ : Aside0 (((w31.setCell ⟨gb309, 0, none⟩ (.int .i64 ((rd_T105 l0_1 x8_1).f0))).setCell ⟨gb309, 1, none⟩ (.int .i64 ((rd_T105 l0_1 x8_1).f1))).heap[gb309]? = some (.cells #[.int .i64 ((rd_T105 l0_1 x8_1).f0), .int .i64 ((rd_T105 l0_1 x8_1).f1)] 105 (0, 0))) := ⟨by (with_reducible repeat (first | refine blk_drewN ?_ _ | refine blk_drew ?_ | refine blk_alloc ?_ _)); refine blk_put (cs := #[.int .i64 ((rd_T105 l0_1 x8_1).f0), .int .i64 0]) ?_ 1 _ rfl; (with_reducible repeat (first | refine blk_drewN ?_ _ | refine blk_drew ?_ | refine blk_alloc ?_ _)); refine blk_put (cs := #[.int .i64 0, .int .i64 0]) ?_ 0 _ rfl; (with_reducible repeat (first | refine blk_drewN ?_ _ | refine blk_drew ?_ | refine blk_alloc ?_ _)); exact BK309.out⟩
             have n2_ : Aside0 (Below w.heap.size w ((w31.setCell ⟨gb309, 0, none⟩ (.int .i64 ((rd_T105 l0_1 x8_1).f0))).setCell ⟨gb309, 1, none⟩ (.int .i64 ((rd_T105 l0_1 x8_1).f1)))) := ⟨hB⟩
             (try clear BK307)
             (try clear BK309)
             (try clear HB)
             generalize ((w31.setCell ⟨gb309, 0, none⟩ (.int .i64 ((rd_T105 l0_1 x8_1).f0))).setCell ⟨gb309, 1, none⟩ (.int .i64 ((rd_T105 l0_1 x8_1).f1))) = w34 at n0_ n1_ n2_ ⊢
             have BK307 := n0_
             have BK309 := n1_
             have HB := n2_
             clear n0_ n1_ n2_
             replace BK307 := Aside0.mk (blk_drew BK307.out)
             replace BK309 := Aside0.mk (blk_drew BK309.out)
             replace HB := Aside0.mk (below_drew1 HB.out)
             have p310 : 0 ≤ ((ji26) : Int) := of_decide_eq_true (by first | (with_reducible assumption) | assumption)
             have q310 : (ji26) < (l0_1.length : Int) := of_decide_eq_true (by first | (with_reducible assumption) | assumption)
             obtain ⟨ad310, e310, hx310_0, hx310_1⟩ := at_T105 HR0_1.out (ji26) p310 q310
             have hw310_1 := hx310_1
             have hw310_0 := hx310_0
             obtain rfl : ad308 = ad310 := (by injection e310)
             replace hx310_0 := (HB.out.cell (World.block_lt_of_cell? w _ hx310_0)).trans hx310_0
             replace hx310_1 := (HB.out.cell (World.block_lt_of_cell? w _ hx310_1)).trans hx310_1
             replace p310 := eq_true p310
             replace q310 := eq_true q310
             refine start_ (n := 32) (S := fun w' => w'.cell? ⟨gb309, 0, none⟩ = some (.int .i64 ((rd_T105 l0_1 x8_1).f0)) ∧ w'.cell? ⟨gb309, 1, none⟩ = some (.int .i64 ((rd_T105 l0_1 x8_1).f1)) ∧ w'.cell? ⟨gb307, 0, none⟩ = some (.int .i64 a0_0) ∧ w'.cell? ⟨gb307, 1, none⟩ = some (.slice (some ad308) l0_1.length c0_1) ∧ w'.cell? (ad308.add (((ji26)).toNat * 2)) = some (.int .i64 ((rd_T105 l0_1 (ji26)).f0)) ∧ w'.cell? ⟨(ad308.add (((ji26)).toNat * 2)).block, (ad308.add (((ji26)).toNat * 2)).off + 1, none⟩ = some (.int .i64 ((rd_T105 l0_1 (ji26)).f1))) (ds := []) (bz 32 0) (by kernel_rfl) rfl rfl ⟨(blk_cell BK309.out 0).trans rfl, (blk_cell BK309.out 1).trans rfl, (blk_cell BK307.out 0).trans rfl, (blk_cell BK307.out 1).trans rfl, ((HB.out.cell (World.block_lt_of_cell? w _ hw310_0)).trans hw310_0), ((HB.out.cell (World.block_lt_of_cell? w _ hw310_1)).trans hw310_1)⟩ (fun hHeld => ?_); refine with_tabW impl_IsParty.tab4 impl_IsParty.bits4 (fun HT_ HW_ => ?_)
             generalize w34.drew = w35 at BK307 BK309 HB hx310_0 hx310_1 hHeld ⊢
             refine run_ [(0, 0, 1, some 13), (1, 1, 3, some 14), (0, 2, 7, some 15), (0, 3, 15, some 16), (0, 4, 31, some 17), (0, 6, 95, some 19), (1, 5, 127, some 18), (1, 7, 255, some 20), (0, 8, 511, some 21), (0, 9, 1023, some 22), (0, 10, 2047, some 23), (0, 11, 4095, some 24), (0, 13, 12287, some 26), (1, 12, 16383, some 25), (1, 14, 32767, some 27), (0, 15, 65535, some 28), (0, 16, 131071, some 29), (0, 17, 262143, some 30), (0, 18, 524287, some 31), (0, 19, 1048575, some 32), (0, 20, 2097151, some 33), (0, 21, 4194303, some 34), (0, 23, 12582911, some 36), (0, 24, 29360127, some 37), (1, 22, 33554431, some 35), (0, 25, 67108863, some 38), (1, 26, 134217727, some 39), (1, 27, 268435455, some 40)] ?_
             repeat (first | (apply tag0; refine run_p (v := ?_) (a' := ?_) rfl rfl (any_of HT_.out (by kernel_rfl)) (fun _ _ _ h => h) (by rfl) ?_ ?_ ?_; rotate_left 2; (intro w'; go_simp; with_reducible rfl); (first | (simp only [Act.put, List.setIfInBounds_toArray, List.set_cons_zero, List.set_cons_succ, i64_w, i32_w]; rfl) | rfl)) | (apply tag1; refine run_t (v := ?_) (a' := ?_) rfl rfl (take_ofW HT_.out HW_.out (by kernel_rfl)) (fun _ _ _ h => h) (by rfl) ?_ hHeld ?_ ?_; rotate_left 2; (rintro w' ⟨s0, s1, s2, s3, s4, s5⟩; go_simp; with_reducible rfl); (first | (simp only [Act.put, List.setIfInBounds_toArray, List.set_cons_zero, List.set_cons_succ, i64_w, i32_w]; rfl) | rfl)))
             refine run_nil ?_
             refine one_ (i := 28) (N := some 41) (bz 32 536870911) rfl rfl (one_of HT_.out (by kernel_rfl)) (by decide) (fun K hK => ?_)
             refine goes_ Tryd.func119 (by kernel_rfl) rfl #[.agg #[.int .i64 ((rd_T105 l0_1 (ji26)).f0), .int .i64 ((rd_T105 l0_1 (ji26)).f1)], .agg #[.int .i64 ((rd_T105 l0_1 x8_1).f0), .int .i64 ((rd_T105 l0_1 x8_1).f1)]] (by rfl) rfl rfl (by (try simp only [List.map_toArray, List.map_cons, List.map_nil]); first | done | (simp only [hji26]; rfl) | rfl | (simp only [List.length_drop, List.length_take]; rfl)) ?_
             with_reducible refine (impl_comparePairs.calls k1 ((rd_T105 l0_1 (ji26)).f0) ((rd_T105 l0_1 (ji26)).f1) ((rd_T105 l0_1 x8_1).f0) ((rd_T105 l0_1 x8_1).f1) t311 _ A29.out).mono ?_
             rintro e w36 ⟨rfl, hb⟩
             refine ⟨_, rfl, ?_⟩
             replace BK307 := bS BK307 hb
             replace BK309 := bS BK309 hb
             replace HB := hS HB hb
             (try clear hb)
             (try clear hb2)
             (try clear hk)
             (try clear hi)
             refine hK.out _ _ ⟨(blk_cell BK309.out 0).trans rfl, (blk_cell BK309.out 1).trans rfl, (blk_cell BK307.out 0).trans rfl, (blk_cell BK307.out 1).trans rfl, ((HB.out.cell (World.block_lt_of_cell? w _ hw310_0)).trans hw310_0), ((HB.out.cell (World.block_lt_of_cell? w _ hw310_1)).trans hw310_1)⟩ (fun hHeld => ?_)
             clear hK K
             refine norm_ (a' := ?_) ?_ ?_
             rotate_left
             ·show Act.put _ (some 41) _ = _
              simp only [Act.put, List.setIfInBounds_toArray, List.set_cons_zero, List.set_cons_succ, i64_w, i32_w]
              rfl
             refine run_ [(0, 29, 1073741823, some 42), (0, 30, 2147483647, some 43), (0, 31, 4294967295, some 44)] ?_
             repeat ((apply tag0; refine run_p (v := ?_) (a' := ?_) rfl rfl (any_of HT_.out (by kernel_rfl)) (fun _ _ _ h => h) (by rfl) ?_ ?_ ?_; rotate_left 2; (intro w'; go_simp; with_reducible rfl); (first | (simp only [Act.put, List.setIfInBounds_toArray, List.set_cons_zero, List.set_cons_succ, i64_w, i32_w]; rfl) | rfl)))
             refine run_nil ?_
             refine done_ (done_of HT_.out (by kernel_rfl)) ?_
             try go_wp2
             go_ret
             exact ⟨by first | rfl | (simp [errW_none, errW_some] <;> rfl) | (simp only [← hji26]; first | rfl | (simp [errW_none, errW_some] <;> rfl)) | (simp [*, errW_none, errW_some] <;> rfl), hB⟩
            ·rw [if_neg c30] at H
             have c30b0 : decide (0 ≤ t311) = false := decide_eq_false c30
             clear c30
             have H' := Aside0.mk H
             clear H
             have p308 : 0 ≤ (x8_1 : Int) := of_decide_eq_true (by first | (with_reducible assumption) | assumption)
             have q308 : x8_1 < (l0_1.length : Int) := of_decide_eq_true (by first | (with_reducible assumption) | assumption)
             obtain ⟨ad308, e308, hx308_0, hx308_1⟩ := at_T105 HR0_1.out x8_1 p308 q308
             cases e308
             replace hx308_0 := (HB.out.cell (World.block_lt_of_cell? w _ hx308_0)).trans hx308_0
             replace hx308_1 := (HB.out.cell (World.block_lt_of_cell? w _ hx308_1)).trans hx308_1
             replace p308 := eq_true p308
             replace q308 := eq_true q308
             try go_wp2_with (first | ((with_reducible refine gate_dst (N := 4) rfl ?_); refine bxE 4 #[.int .i64 0, .int .i64 0] 105 rfl ?_; intro gb309 hg w37 hbox hb; have BK309 := Aside0.mk (hbox); have GW309 := gS HB hg; have GE309 := gS HB hg; have NB307_309 := nL BK307 hg; have NB309_307 := nG BK307 hg; replace BK307 := bS BK307 hb; replace HB := hS HB hb; clear hb hbox hg; have hnb38 := NB309_307.out; have hnc38 := NB307_309.out; have hcz39_0 := cz BK309 0; have hcz39_1 := cz BK309 1; have hfz39_0 := fz BK309 0; have hfz39_1 := fz BK309 1))
             have n0_ : Aside0 (((w37.setCell ⟨gb309, 0, none⟩ (.int .i64 ((rd_T105 l0_1 x8_1).f0))).setCell ⟨gb309, 1, none⟩ (.int .i64 ((rd_T105 l0_1 x8_1).f1))).heap[gb307]? = some (.cells #[.int .i64 a0_0, .slice (some ad308) l0_1.length c0_1] 33 (0, 0))) := ⟨by (with_reducible repeat (first | refine blk_drewN ?_ _ | refine blk_drew ?_ | refine blk_alloc ?_ _)); refine blk_far ?_ NB307_309.out _; (with_reducible repeat (first | refine blk_drewN ?_ _ | refine blk_drew ?_ | refine blk_alloc ?_ _)); refine blk_far ?_ NB307_309.out _; (with_reducible repeat (first | refine blk_drewN ?_ _ | refine blk_drew ?_ | refine blk_alloc ?_ _)); exact BK307.out⟩
             have n1_ : Aside0 (((w37.setCell ⟨gb309, 0, none⟩ (.int .i64 ((rd_T105 l0_1 x8_1).f0))).setCell ⟨gb309, 1, none⟩ (.int .i64 ((rd_T105 l0_1 x8_1).f1))).heap[gb309]? = some (.cells #[.int .i64 ((rd_T105 l0_1 x8_1).f0), .int .i64 ((rd_T105 l0_1 x8_1).f1)] 105 (0, 0))) := ⟨by (with_reducible repeat (first | refine blk_drewN ?_ _ | refine blk_drew ?_ | refine blk_alloc ?_ _)); refine blk_put (cs := #[.int .i64 ((rd_T105 l0_1 x8_1).f0), .int .i64 0]) ?_ 1 _ rfl; (with_reducible repeat (first | refine blk_drewN ?_ _ | refine blk_drew ?_ | refine blk_alloc ?_ _)); refine blk_put (cs := #[.int .i64 0, .int .i64 0]) ?_ 0 _ rfl; (with_reducible repeat (first | refine blk_drewN ?_ _ | refine blk_drew ?_ | refine blk_alloc ?_ _)); exact BK309.out⟩
             have n2_ : Aside0 (Below w.heap.size w ((w37.setCell ⟨gb309, 0, none⟩ (.int .i64 ((rd_T105 l0_1 x8_1).f0))).setCell ⟨gb309, 1, none⟩ (.int .i64 ((rd_T105 l0_1 x8_1).f1)))) := ⟨hB⟩
             (try clear BK307)
             (try clear BK309)
             (try clear HB)
             generalize ((w37.setCell ⟨gb309, 0, none⟩ (.int .i64 ((rd_T105 l0_1 x8_1).f0))).setCell ⟨gb309, 1, none⟩ (.int .i64 ((rd_T105 l0_1 x8_1).f1))) = w40 at n0_ n1_ n2_ ⊢
             have BK307 := n0_
             have BK309 := n1_
             have HB := n2_
             clear n0_ n1_ n2_
             replace BK307 := Aside0.mk (blk_drew BK307.out)
             replace BK309 := Aside0.mk (blk_drew BK309.out)
             replace HB := Aside0.mk (below_drew1 HB.out)
             have p310 : 0 ≤ ((ji26) : Int) := of_decide_eq_true (by first | (with_reducible assumption) | assumption)
             have q310 : (ji26) < (l0_1.length : Int) := of_decide_eq_true (by first | (with_reducible assumption) | assumption)
             obtain ⟨ad310, e310, hx310_0, hx310_1⟩ := at_T105 HR0_1.out (ji26) p310 q310
             have hw310_1 := hx310_1
             have hw310_0 := hx310_0
             obtain rfl : ad308 = ad310 := (by injection e310)
             replace hx310_0 := (HB.out.cell (World.block_lt_of_cell? w _ hx310_0)).trans hx310_0
             replace hx310_1 := (HB.out.cell (World.block_lt_of_cell? w _ hx310_1)).trans hx310_1
             replace p310 := eq_true p310
             replace q310 := eq_true q310
             refine start_ (n := 32) (S := fun w' => w'.cell? ⟨gb309, 0, none⟩ = some (.int .i64 ((rd_T105 l0_1 x8_1).f0)) ∧ w'.cell? ⟨gb309, 1, none⟩ = some (.int .i64 ((rd_T105 l0_1 x8_1).f1)) ∧ w'.cell? ⟨gb307, 0, none⟩ = some (.int .i64 a0_0) ∧ w'.cell? ⟨gb307, 1, none⟩ = some (.slice (some ad308) l0_1.length c0_1) ∧ w'.cell? (ad308.add (((ji26)).toNat * 2)) = some (.int .i64 ((rd_T105 l0_1 (ji26)).f0)) ∧ w'.cell? ⟨(ad308.add (((ji26)).toNat * 2)).block, (ad308.add (((ji26)).toNat * 2)).off + 1, none⟩ = some (.int .i64 ((rd_T105 l0_1 (ji26)).f1))) (ds := []) (bz 32 0) (by kernel_rfl) rfl rfl ⟨(blk_cell BK309.out 0).trans rfl, (blk_cell BK309.out 1).trans rfl, (blk_cell BK307.out 0).trans rfl, (blk_cell BK307.out 1).trans rfl, ((HB.out.cell (World.block_lt_of_cell? w _ hw310_0)).trans hw310_0), ((HB.out.cell (World.block_lt_of_cell? w _ hw310_1)).trans hw310_1)⟩ (fun hHeld => ?_); refine with_tabW impl_IsParty.tab4 impl_IsParty.bits4 (fun HT_ HW_ => ?_)
             generalize w40.drew = w41 at BK307 BK309 HB hx310_0 hx310_1 hHeld ⊢
             refine run_ [(0, 0, 1, some 13), (1, 1, 3, some 14), (0, 2, 7, some 15), (0, 3, 15, some 16), (0, 4, 31, some 17), (0, 6, 95, some 19), (1, 5, 127, some 18), (1, 7, 255, some 20), (0, 8, 511, some 21), (0, 9, 1023, some 22), (0, 10, 2047, some 23), (0, 11, 4095, some 24), (0, 13, 12287, some 26), (1, 12, 16383, some 25), (1, 14, 32767, some 27), (0, 15, 65535, some 28), (0, 16, 131071, some 29), (0, 17, 262143, some 30), (0, 18, 524287, some 31), (0, 19, 1048575, some 32), (0, 20, 2097151, some 33), (0, 21, 4194303, some 34), (0, 23, 12582911, some 36), (0, 24, 29360127, some 37), (1, 22, 33554431, some 35), (0, 25, 67108863, some 38), (1, 26, 134217727, some 39), (1, 27, 268435455, some 40)] ?_
             repeat (first | (apply tag0; refine run_p (v := ?_) (a' := ?_) rfl rfl (any_of HT_.out (by kernel_rfl)) (fun _ _ _ h => h) (by rfl) ?_ ?_ ?_; rotate_left 2; (intro w'; go_simp; with_reducible rfl); (first | (simp only [Act.put, List.setIfInBounds_toArray, List.set_cons_zero, List.set_cons_succ, i64_w, i32_w]; rfl) | rfl)) | (apply tag1; refine run_t (v := ?_) (a' := ?_) rfl rfl (take_ofW HT_.out HW_.out (by kernel_rfl)) (fun _ _ _ h => h) (by rfl) ?_ hHeld ?_ ?_; rotate_left 2; (rintro w' ⟨s0, s1, s2, s3, s4, s5⟩; go_simp; with_reducible rfl); (first | (simp only [Act.put, List.setIfInBounds_toArray, List.set_cons_zero, List.set_cons_succ, i64_w, i32_w]; rfl) | rfl)))
             refine run_nil ?_
             refine one_ (i := 28) (N := some 41) (bz 32 536870911) rfl rfl (one_of HT_.out (by kernel_rfl)) (by decide) (fun K hK => ?_)
             refine goes_ Tryd.func119 (by kernel_rfl) rfl #[.agg #[.int .i64 ((rd_T105 l0_1 (ji26)).f0), .int .i64 ((rd_T105 l0_1 (ji26)).f1)], .agg #[.int .i64 ((rd_T105 l0_1 x8_1).f0), .int .i64 ((rd_T105 l0_1 x8_1).f1)]] (by rfl) rfl rfl (by (try simp only [List.map_toArray, List.map_cons, List.map_nil]); first | done | (simp only [hji26]; rfl) | rfl | (simp only [List.length_drop, List.length_take]; rfl)) ?_
             with_reducible refine (impl_comparePairs.calls k1 ((rd_T105 l0_1 (ji26)).f0) ((rd_T105 l0_1 (ji26)).f1) ((rd_T105 l0_1 x8_1).f0) ((rd_T105 l0_1 x8_1).f1) t311 _ A29.out).mono ?_
             rintro e w42 ⟨rfl, hb⟩
             refine ⟨_, rfl, ?_⟩
             replace BK307 := bS BK307 hb
             replace BK309 := bS BK309 hb
             replace HB := hS HB hb
             (try clear hb)
             (try clear hb2)
             (try clear hk)
             (try clear hi)
             refine hK.out _ _ ⟨(blk_cell BK309.out 0).trans rfl, (blk_cell BK309.out 1).trans rfl, (blk_cell BK307.out 0).trans rfl, (blk_cell BK307.out 1).trans rfl, ((HB.out.cell (World.block_lt_of_cell? w _ hw310_0)).trans hw310_0), ((HB.out.cell (World.block_lt_of_cell? w _ hw310_1)).trans hw310_1)⟩ (fun hHeld => ?_)
             clear hK K
             refine norm_ (a' := ?_) ?_ ?_
             rotate_left
             ·show Act.put _ (some 41) _ = _
              simp only [Act.put, List.setIfInBounds_toArray, List.set_cons_zero, List.set_cons_succ, i64_w, i32_w]
              rfl
             refine run_ [(0, 29, 1073741823, some 42), (0, 30, 2147483647, some 43), (0, 31, 4294967295, some 44)] ?_
             repeat ((apply tag0; refine run_p (v := ?_) (a' := ?_) rfl rfl (any_of HT_.out (by kernel_rfl)) (fun _ _ _ h => h) (by rfl) ?_ ?_ ?_; rotate_left 2; (intro w'; go_simp; with_reducible rfl); (first | (simp only [Act.put, List.setIfInBounds_toArray, List.set_cons_zero, List.set_cons_succ, i64_w, i32_w]; rfl) | rfl)))
             refine run_nil ?_
             refine done_ (done_of HT_.out (by kernel_rfl)) ?_
             try go_wp2
             go_roundg k1
             case measure => have := HK1.out; omega
             case rel => exact ⟨(wrap64 (x8_1 + 1)), (by first | rfl | (simp; done) | (simp [*]; done)), H', ⟨by have := HK1.out; omega⟩, ⟨bK⟩, ⟨hB⟩⟩
           ·rw [if_neg c28] at H
            exact absurd H (by simp)
          ·rw [if_neg c27] at H
           exact absurd H (by simp)
         ·rw [if_neg c25] at H
          have c25b0 : decide (0 < x8_1) = false := decide_eq_false c25
          clear c25
          have H' := Aside0.mk H
          clear H
          have p308 : 0 ≤ (x8_1 : Int) := of_decide_eq_true (by first | (with_reducible assumption) | assumption)
          have q308 : x8_1 < (l0_1.length : Int) := of_decide_eq_true (by first | (with_reducible assumption) | assumption)
          obtain ⟨ad308, e308, hx308_0, hx308_1⟩ := at_T105 HR0_1.out x8_1 p308 q308
          cases e308
          replace hx308_0 := (HB.out.cell (World.block_lt_of_cell? w _ hx308_0)).trans hx308_0
          replace hx308_1 := (HB.out.cell (World.block_lt_of_cell? w _ hx308_1)).trans hx308_1
          replace p308 := eq_true p308
          replace q308 := eq_true q308
          try go_wp2_with (first | ((with_reducible refine gate_dst (N := 4) rfl ?_); refine bxE 4 #[.int .i64 0, .int .i64 0] 105 rfl ?_; intro gb309 hg w43 hbox hb; have BK309 := Aside0.mk (hbox); have GW309 := gS HB hg; have GE309 := gS HB hg; have NB307_309 := nL BK307 hg; have NB309_307 := nG BK307 hg; replace BK307 := bS BK307 hb; replace HB := hS HB hb; clear hb hbox hg; have hnb44 := NB309_307.out; have hnc44 := NB307_309.out; have hcz45_0 := cz BK309 0; have hcz45_1 := cz BK309 1; have hfz45_0 := fz BK309 0; have hfz45_1 := fz BK309 1))
          have n0_ : Aside0 (((w43.setCell ⟨gb309, 0, none⟩ (.int .i64 ((rd_T105 l0_1 x8_1).f0))).setCell ⟨gb309, 1, none⟩ (.int .i64 ((rd_T105 l0_1 x8_1).f1))).heap[gb307]? = some (.cells #[.int .i64 a0_0, .slice (some ad308) l0_1.length c0_1] 33 (0, 0))) := ⟨by (with_reducible repeat (first | refine blk_drewN ?_ _ | refine blk_drew ?_ | refine blk_alloc ?_ _)); refine blk_far ?_ NB307_309.out _; (with_reducible repeat (first | refine blk_drewN ?_ _ | refine blk_drew ?_ | refine blk_alloc ?_ _)); refine blk_far ?_ NB307_309.out _; (with_reducible repeat (first | refine blk_drewN ?_ _ | refine blk_drew ?_ | refine blk_alloc ?_ _)); exact BK307.out⟩
          have n1_ : Aside0 (((w43.setCell ⟨gb309, 0, none⟩ (.int .i64 ((rd_T105 l0_1 x8_1).f0))).setCell ⟨gb309, 1, none⟩ (.int .i64 ((rd_T105 l0_1 x8_1).f1))).heap[gb309]? = some (.cells #[.int .i64 ((rd_T105 l0_1 x8_1).f0), .int .i64 ((rd_T105 l0_1 x8_1).f1)] 105 (0, 0))) := ⟨by (with_reducible repeat (first | refine blk_drewN ?_ _ | refine blk_drew ?_ | refine blk_alloc ?_ _)); refine blk_put (cs := #[.int .i64 ((rd_T105 l0_1 x8_1).f0), .int .i64 0]) ?_ 1 _ rfl; (with_reducible repeat (first | refine blk_drewN ?_ _ | refine blk_drew ?_ | refine blk_alloc ?_ _)); refine blk_put (cs := #[.int .i64 0, .int .i64 0]) ?_ 0 _ rfl; (with_reducible repeat (first | refine blk_drewN ?_ _ | refine blk_drew ?_ | refine blk_alloc ?_ _)); exact BK309.out⟩
          have n2_ : Aside0 (Below w.heap.size w ((w43.setCell ⟨gb309, 0, none⟩ (.int .i64 ((rd_T105 l0_1 x8_1).f0))).setCell ⟨gb309, 1, none⟩ (.int .i64 ((rd_T105 l0_1 x8_1).f1)))) := ⟨hB⟩
          (try clear BK307)
          (try clear BK309)
          (try clear HB)
          generalize ((w43.setCell ⟨gb309, 0, none⟩ (.int .i64 ((rd_T105 l0_1 x8_1).f0))).setCell ⟨gb309, 1, none⟩ (.int .i64 ((rd_T105 l0_1 x8_1).f1))) = w46 at n0_ n1_ n2_ ⊢
          have BK307 := n0_
          have BK309 := n1_
          have HB := n2_
          clear n0_ n1_ n2_
          replace BK307 := Aside0.mk (blk_drew BK307.out)
          replace BK309 := Aside0.mk (blk_drew BK309.out)
          replace HB := Aside0.mk (below_drew1 HB.out)
          refine start_ (n := 32) (S := fun w' => w'.cell? ⟨gb309, 0, none⟩ = some (.int .i64 ((rd_T105 l0_1 x8_1).f0)) ∧ w'.cell? ⟨gb309, 1, none⟩ = some (.int .i64 ((rd_T105 l0_1 x8_1).f1)) ∧ w'.cell? ⟨gb307, 0, none⟩ = some (.int .i64 a0_0) ∧ w'.cell? ⟨gb307, 1, none⟩ = some (.slice (some ad308) l0_1.length c0_1)) (ds := []) (bz 32 0) (by kernel_rfl) rfl rfl ⟨(blk_cell BK309.out 0).trans rfl, (blk_cell BK309.out 1).trans rfl, (blk_cell BK307.out 0).trans rfl, (blk_cell BK307.out 1).trans rfl⟩ (fun hHeld => ?_); refine with_tabW impl_IsParty.tab4 impl_IsParty.bits4 (fun HT_ HW_ => ?_)
          generalize w46.drew = w47 at BK307 BK309 HB hHeld ⊢
          refine run_ [(0, 0, 1, some 13), (1, 1, 3, some 14), (0, 2, 7, some 15), (0, 3, 15, some 16), (0, 4, 31, some 17), (0, 6, 95, some 19), (1, 5, 127, some 18), (1, 7, 255, some 20), (0, 8, 511, some 21), (0, 9, 1023, some 22), (0, 10, 2047, some 23), (0, 11, 4095, some 24), (0, 13, 12287, some 26), (1, 12, 16383, some 25), (1, 14, 32767, some 27), (0, 15, 65535, some 28), (0, 16, 131071, some 29), (0, 17, 262143, some 30), (0, 18, 524287, some 31), (0, 19, 1048575, some 32), (0, 20, 2097151, some 33), (2, 21, 4194303, some 34), (2, 22, 8388607, some 35), (2, 23, 16777215, some 36), (2, 24, 33554431, some 37), (2, 25, 67108863, some 38), (2, 26, 134217727, some 39), (2, 27, 268435455, some 40), (2, 28, 536870911, some 41), (2, 29, 1073741823, some 42), (0, 30, 2147483647, some 43), (0, 31, 4294967295, some 44)] ?_
          repeat (first | (apply tag0; refine run_p (v := ?_) (a' := ?_) rfl rfl (any_of HT_.out (by kernel_rfl)) (fun _ _ _ h => h) (by rfl) ?_ ?_ ?_; rotate_left 2; (intro w'; go_simp; with_reducible rfl); (first | (simp only [Act.put, List.setIfInBounds_toArray, List.set_cons_zero, List.set_cons_succ, i64_w, i32_w]; rfl) | rfl)) | (apply tag1; refine run_t (v := ?_) (a' := ?_) rfl rfl (take_ofW HT_.out HW_.out (by kernel_rfl)) (fun _ _ _ h => h) (by rfl) ?_ hHeld ?_ ?_; rotate_left 2; (rintro w' ⟨s0, s1, s2, s3⟩; go_simp; with_reducible rfl); (first | (simp only [Act.put, List.setIfInBounds_toArray, List.set_cons_zero, List.set_cons_succ, i64_w, i32_w]; rfl) | rfl)) | (apply tag2; refine run_o (a' := ?_) rfl rfl (any_of HT_.out (by kernel_rfl)) (fun _ _ _ h => h) (by rfl) ?_ ?_; rotate_left; (first | (simp only [Act.put, List.setIfInBounds_toArray, List.set_cons_zero, List.set_cons_succ, i64_w, i32_w]; rfl) | rfl)))
          refine run_nil ?_
          refine done_ (done_of HT_.out (by kernel_rfl)) ?_
          try go_wp2
          go_roundg k1
          case measure => have := HK1.out; omega
          case rel => exact ⟨(wrap64 (x8_1 + 1)), (by first | rfl | (simp; done) | (simp [*]; done)), H', ⟨by have := HK1.out; omega⟩, ⟨bK⟩, ⟨hB⟩⟩
     ·rw [if_neg c6] at H
      exact absurd H (by simp)
    ·rw [if_neg c5] at H
     exact absurd H (by simp)
   ·rw [if_neg c4] at H
    have c4b0 : decide (x8_1 < (l0_1.length : Int)) = false := decide_eq_false c4
    clear c4
    replace H := Option.bind_eq_some_iff.mp H
    obtain ⟨t312, A480, H⟩ := H
    replace H : (some t312) = some r := H
    have A48 := Aside0.mk A480
    clear A480
    obtain rfl := Option.some.inj H
    have hcz49_0 := cz BK307 0
    have hcz49_1 := cz BK307 1
    have hfz49_0 := fz BK307 0
    have hfz49_1 := fz BK307 1
    go_wp2_with (first | ((with_reducible refine gate_callee (f := 120) rfl ?_); refine goC (N := some 48) Tryd.func120 #[.int .i64 a0_0] rfl ?_; (with_reducible refine (impl_areCrowd.calls a0_0 t312 _ A48.out).mono ?_); rintro e w' ⟨rfl, ⟨nd, rfl⟩⟩; refine ⟨_, rfl, ?_⟩))
    go_ret
    exact ⟨by first | rfl | (simp [errW_none, errW_some] <;> rfl) | (simp [*, errW_none, errW_some] <;> rfl), hB⟩

/-! ### impl_areGuests: function 103 -/
def impl_areGuests.f (a0 : Int) : Option (Bool) := (impl_within.f a0 1 5).bind fun t313 => (some t313)
set_option maxHeartbeats 8000000 in
set_option maxRecDepth 100000 in
theorem impl_areGuests.calls (a0 : Int) (r : Bool) (w : World) (h : impl_areGuests.f a0 = some r) :
  Calls Tryd.prog 103 #[.int .i64 a0] w fun e w' => e = .returned (.bool r) ∧ Drawn0 w w' := by
 have H : ((impl_within.f a0 1 5).bind fun t313 => (some t313)) = some r := h
 clear h
 replace H := Option.bind_eq_some_iff.mp H
 obtain ⟨t313, A20, H⟩ := H
 replace H : (some t313) = some r := H
 have A2 := Aside0.mk A20
 clear A20
 obtain rfl := Option.some.inj H
 go_enter Tryd.func103, Tryd.ntmps103
 go_wp2_with (first | ((with_reducible refine gate_callee (f := 60) rfl ?_); refine goC (N := some 4) Tryd.func60 #[.int .i64 a0, .int .i64 1, .int .i64 5] rfl ?_; (with_reducible refine (impl_within.calls a0 1 5 t313 _ A2.out).mono ?_); rintro e w' ⟨rfl, ⟨nd, rfl⟩⟩; refine ⟨_, rfl, ?_⟩))
 go_ret
 exact ⟨by first | rfl | (simp; done) | (simp [*]; done), by repeat (first | exact Drawn0.refl _ | apply Drawn0.step)⟩

/-! ### impl_isGuestParty: function 59 -/
def impl_isGuestParty.f (k : Nat) (a0_0 : Int) (l0_1 : List (S105)) : Option (Bool) := (impl_IsParty.f k a0_0 l0_1).bind fun t315 => (if t315 = true then ((impl_areGuests.f a0_0).bind fun t316 => (some t316)) else (some false))
theorem impl_isGuestParty.mono : ∀ a0 a1 k, LeO (impl_isGuestParty.f k a0 a1) (impl_isGuestParty.f (k + 1) a0 a1) := by
 intro a0 a1 k
 unfold impl_isGuestParty.f
 repeat' first
   | (with_reducible exact impl_IsParty.mono _ _ _)
   | (with_reducible exact LeO.refl _)
   | (with_reducible exact LeO.none _)
   | (with_reducible refine LeO.ite ?_ ?_)
   | (with_reducible refine LeO.bind ?_ (fun _ => ?_))
   | exact impl_IsParty.mono _ _ _
   | exact LeO.none _
   | refine LeO.ite ?_ ?_
   | refine LeO.bind ?_ (fun _ => ?_)
set_option maxHeartbeats 8000000 in
set_option maxRecDepth 100000 in
theorem impl_isGuestParty.calls (k : Nat) (a0_0 : Int) (A0_1 : Option Addr) (c0_1 : Nat) (l0_1 : List (S105)) (r : Bool) (w : World) (hr0_1 : Kd.C k105 w A0_1 l0_1.length l0_1) (hc0_1 : l0_1.length ≤ c0_1) (h : impl_isGuestParty.f k a0_0 l0_1 = some r) :
  Calls Tryd.prog 59 #[.agg #[.int .i64 a0_0, .slice A0_1 l0_1.length c0_1]] w fun e w' => e = .returned (.bool r) ∧ Below w.heap.size w w' := by
 have hu33 := Tryd.underlying33
 have HR0_1 := Aside0.mk hr0_1
 have HC0_1 := Aside0.mk hc0_1
 clear hr0_1 hc0_1
 have HB := Aside0.mk (Below.refl w.heap.size w)
 have H : ((impl_IsParty.f k a0_0 l0_1).bind fun t315 => (if t315 = true then ((impl_areGuests.f a0_0).bind fun t316 => (some t316)) else (some false))) = some r := h
 clear h
 replace H := Option.bind_eq_some_iff.mp H
 obtain ⟨t315, A20, H⟩ := H
 try dsimp only at H
 have A2 := Aside0.mk A20
 clear A20
 by_cases c3 : t315 = true
 ·subst c3
  rw [if_pos rfl] at H
  replace H := Option.bind_eq_some_iff.mp H
  obtain ⟨t316, A40, H⟩ := H
  replace H : (some t316) = some r := H
  have A4 := Aside0.mk A40
  clear A40
  obtain rfl := Option.some.inj H
  go_enter Tryd.func59, Tryd.ntmps59
  go_wp2_with (first | ((with_reducible refine gate_dst (N := 1) rfl ?_); refine bxE 1 #[.int .i64 a0_0, .slice A0_1 l0_1.length c0_1] 33 rfl ?_; intro gb314 hg w5 hbox hb; have BK314 := Aside0.mk (hbox); have GW314 := gS HB hg; have GE314 := gS HB hg; replace HB := hS HB hb; clear hb hbox hg; have hcz6_0 := cz BK314 0; have hcz6_1 := cz BK314 1; have hfz6_0 := fz BK314 0; have hfz6_1 := fz BK314 1) | ((with_reducible refine gate_callee (f := 76) rfl ?_); refine goC (N := some 4) Tryd.func76 #[.agg #[.int .i64 a0_0, .slice A0_1 l0_1.length c0_1]] rfl ?_; (with_reducible refine (impl_IsParty.calls k a0_0 _ _ l0_1 true _ ?side1 ?side2 A2.out).mono ?_); (case side1 => exact cS (Kd.C_below HR0_1.out HB.out)); (case side2 => exact HC0_1.out); rintro e w7 ⟨rfl, hb⟩; refine ⟨_, rfl, ?_⟩; replace BK314 := bS BK314 hb; replace HB := hS HB hb; (try clear hb); (try clear hb2); (try clear hk); (try clear hi); have hcz8_0 := cz BK314 0; have hcz8_1 := cz BK314 1; have hfz8_0 := fz BK314 0; have hfz8_1 := fz BK314 1) | (go_at_call 103; (with_reducible refine (impl_areGuests.calls a0_0 t316 _ A4.out).mono ?_); rintro e w' ⟨rfl, ⟨nd, rfl⟩⟩))
  go_ret
  exact ⟨by first | rfl | (simp [errW_none, errW_some] <;> rfl) | (simp [*, errW_none, errW_some] <;> rfl), hB⟩
 ·replace c3 := Bool.eq_false_iff.mpr c3
  subst c3
  have H1 : (some false) = some r := by rw [if_neg (show ¬ (false = true) by decide)] at H; exact H
  clear H
  have H := H1
  clear H1
  obtain rfl := Option.some.inj H
  go_enter Tryd.func59, Tryd.ntmps59
  go_wp2_with (first | ((with_reducible refine gate_dst (N := 1) rfl ?_); refine bxE 1 #[.int .i64 a0_0, .slice A0_1 l0_1.length c0_1] 33 rfl ?_; intro gb314 hg w9 hbox hb; have BK314 := Aside0.mk (hbox); have GW314 := gS HB hg; have GE314 := gS HB hg; replace HB := hS HB hb; clear hb hbox hg; have hcz10_0 := cz BK314 0; have hcz10_1 := cz BK314 1; have hfz10_0 := fz BK314 0; have hfz10_1 := fz BK314 1) | ((with_reducible refine gate_callee (f := 76) rfl ?_); refine goC (N := some 4) Tryd.func76 #[.agg #[.int .i64 a0_0, .slice A0_1 l0_1.length c0_1]] rfl ?_; (with_reducible refine (impl_IsParty.calls k a0_0 _ _ l0_1 false _ ?side1 ?side2 A2.out).mono ?_); (case side1 => exact cS (Kd.C_below HR0_1.out HB.out)); (case side2 => exact HC0_1.out); rintro e w11 ⟨rfl, hb⟩; refine ⟨_, rfl, ?_⟩; replace BK314 := bS BK314 hb; replace HB := hS HB hb; (try clear hb); (try clear hb2); (try clear hk); (try clear hi)))
  go_ret
  exact ⟨by first | rfl | (simp [errW_none, errW_some] <;> rfl) | (simp [*, errW_none, errW_some] <;> rfl), hB⟩

/-! ### impl_Party_table: function 61 -/
def impl_Party_table.l0 : Nat → List Int → List (S105) → Int → Int → Option (List Int)
 | 0, _, _, _, _ => none
 | k + 1, x3, x10, x11, x12 => if x12 < x11 then (if 0 ≤ x12 then (if x12 < (x10.length : Int) then (if 0 ≤ ((rd_T105 x10 x12).f0) then (if ((rd_T105 x10 x12).f0) < (x3.length : Int) then (if 0 ≤ ((rd_T105 x10 x12).f1) then ((some (x3.set (((rd_T105 x10 x12).f0) : Int).toNat (Go.bits .or .u16 (rd x3 ((rd_T105 x10 x12).f0)) (shl .u16 1 ((rd_T105 x10 x12).f1))) : List Int)).bind fun y324 => (if ((rd_T105 x10 x12).f1) < (x3.length : Int) then (impl_Party_table.l0 k (y324.set (((rd_T105 x10 x12).f1) : Int).toNat (Go.bits .or .u16 (rd y324 ((rd_T105 x10 x12).f1)) (shl .u16 1 ((rd_T105 x10 x12).f0)))) x10 x11 (wrap64 (x12 + 1))) else (none))) else (none)) else (none)) else (none)) else (none)) else (none)) else (some x3)
def impl_Party_table.f (k : Nat) (a0_0 : Int) (l0_1 : List (S105)) : Option (List Int) := if 0 ≤ a0_0 then (if (a0_0 : Int).toNat ≤ 140737488355328 then (impl_Party_table.l0 k (List.replicate (a0_0 : Int).toNat 0) l0_1 (l0_1.length : Int) 0) else (none)) else (none)
theorem impl_Party_table.mono_l : ∀ k, (∀ y0 y1 y2 y3, LeO (impl_Party_table.l0 k y0 y1 y2 y3) (impl_Party_table.l0 (k + 1) y0 y1 y2 y3))
 | 0 => fun _ _ _ _ r h => by simp [impl_Party_table.l0] at h
 | k + 1 => by
  have ih0 := impl_Party_table.mono_l k
  ·intro y0 y1 y2 y3
   unfold impl_Party_table.l0
   repeat' first
   | (with_reducible exact ih0 _ _ _ _)
   | (with_reducible exact LeO.refl _)
   | (with_reducible exact LeO.none _)
   | (with_reducible refine LeO.ite ?_ ?_)
   | (with_reducible refine LeO.bind ?_ (fun _ => ?_))
   | exact ih0 _ _ _ _
   | exact LeO.none _
   | refine LeO.ite ?_ ?_
   | refine LeO.bind ?_ (fun _ => ?_)
theorem impl_Party_table.mono : ∀ a0 a1 k, LeO (impl_Party_table.f k a0 a1) (impl_Party_table.f (k + 1) a0 a1) := by
 intro a0 a1 k
 have ih0 := impl_Party_table.mono_l k
 unfold impl_Party_table.f
 repeat' first
   | (with_reducible exact ih0 _ _ _ _)
   | (with_reducible exact LeO.refl _)
   | (with_reducible exact LeO.none _)
   | (with_reducible refine LeO.ite ?_ ?_)
   | (with_reducible refine LeO.bind ?_ (fun _ => ?_))
   | exact ih0 _ _ _ _
   | exact LeO.none _
   | refine LeO.ite ?_ ?_
   | refine LeO.bind ?_ (fun _ => ?_)
def impl_Party_table.T5 : Bool × List (List Nat × List Nat) := (true, [([], []), ([], []), ([1], [1]), ([0, 2], [0, 2]), ([3], [3]), ([], []), ([5], [5]), ([6], [6]), ([4, 7], [4, 7]), ([0, 2, 0, 1, 2, 3, 4, 5, 6, 7, 8], [0, 2]), ([9, 8, 0, 1, 2, 3, 4, 5, 6, 7, 8], [8, 9])])
def impl_Party_table.B5 : List Nat := [0, 0, 2, 7, 15, 0, 32, 96, 255, 511, 1023]
theorem impl_Party_table.tab5 : rtab .any (opsOf Tryd.f61 5) = impl_Party_table.T5 := by kernel_rfl
theorem impl_Party_table.bits5 : waitsOk impl_Party_table.T5.2 impl_Party_table.B5 = true := by kernel_rfl
def impl_Party_table.T6 : Bool × List (List Nat × List Nat) := (true, [([], []), ([], []), ([1], [1]), ([0, 2], [0, 2]), ([3], [3]), ([], []), ([5], [5]), ([6], [6]), ([4, 7], [4, 7]), ([0, 2, 0, 1, 2, 3, 4, 5, 6, 7, 8], [0, 2]), ([9, 8, 0, 1, 2, 3, 4, 5, 6, 7, 8], [8, 9])])
def impl_Party_table.B6 : List Nat := [0, 0, 2, 7, 15, 0, 32, 96, 255, 511, 1023]
theorem impl_Party_table.tab6 : rtab .any (opsOf Tryd.f61 6) = impl_Party_table.T6 := by kernel_rfl
theorem impl_Party_table.bits6 : waitsOk impl_Party_table.T6.2 impl_Party_table.B6 = true := by kernel_rfl
set_option maxHeartbeats 8000000 in
set_option maxRecDepth 100000 in
theorem impl_Party_table.calls (k : Nat) (a0_0 : Int) (A0_1 : Option Addr) (c0_1 : Nat) (l0_1 : List (S105)) (r : List Int) (w : World) (hr0_1 : Kd.C k105 w A0_1 l0_1.length l0_1) (hc0_1 : l0_1.length ≤ c0_1) (h : impl_Party_table.f k a0_0 l0_1 = some r) :
  Calls Tryd.prog 61 #[.agg #[.int .i64 a0_0, .slice A0_1 l0_1.length c0_1]] w fun e w' => ∃ v0_ : Value, e = .returned (v0_) ∧ Kd.R (Kd.int .u16) 97 w' w.heap.size (fun _ => True) v0_ r ∧ Below w.heap.size w w' := by
 have hu33 := Tryd.underlying33
 have hu105 := Tryd.underlying105
 have HR0_1 := Aside0.mk hr0_1
 have HC0_1 := Aside0.mk hc0_1
 clear hr0_1 hc0_1
 have HB := Aside0.mk (Below.refl w.heap.size w)
 have H : (if 0 ≤ a0_0 then (if (a0_0 : Int).toNat ≤ 140737488355328 then (impl_Party_table.l0 k (List.replicate (a0_0 : Int).toNat 0) l0_1 (l0_1.length : Int) 0) else (none)) else (none)) = some r := h
 clear h
 by_cases c2 : 0 ≤ a0_0
 ·rw [if_pos c2] at H
  have c2b0 := eq_true c2
  have c2b1 : decide (0 ≤ a0_0) = true := decide_eq_true c2
  clear c2
  by_cases c3 : (a0_0 : Int).toNat ≤ 140737488355328
  ·rw [if_pos c3] at H
   have c3b0 := eq_true c3
   have c3b1 : decide ((a0_0 : Int).toNat ≤ 140737488355328) = true := decide_eq_true c3
   clear c3
   obtain ⟨y318, hy318⟩ : ∃ y_ : List Int, y_ = (List.replicate (a0_0 : Int).toNat 0) := ⟨_, rfl⟩
   replace H : (impl_Party_table.l0 k y318 l0_1 (l0_1.length : Int) 0) = some r := by first | (rw [hy318]; with_reducible exact H) | (have H2_ := (Option.bind_some _ _).symm.trans H; rw [hy318]; with_reducible exact H2_) | (have H2_ := (Option.bind_some _ _).symm.trans H; with_reducible exact H2_) | with_reducible exact H | (rw [hy318]; exact H) | exact H
   have Ny318 := Aside0.mk hy318
   clear hy318
   have H' := Aside0.mk H
   clear H
   go_enter Tryd.func61, Tryd.ntmps61
   go_wp2_with (first | ((with_reducible refine gate_dst (N := 1) rfl ?_); refine bxE 1 #[.int .i64 a0_0, .slice A0_1 l0_1.length c0_1] 33 rfl ?_; intro gb317 hg w4 hbox hb; have BK317 := Aside0.mk (hbox); have GW317 := gS HB hg; have GE317 := gS HB hg; replace HB := hS HB hb; clear hb hbox hg; have hcz5_0 := cz BK317 0; have hcz5_1 := cz BK317 1; have hfz5_0 := fz BK317 0; have hfz5_1 := fz BK317 1) | ((with_reducible refine gate_dst (N := 8) rfl ?_); refine Kd.R_make (Kd.int .u16) _ 97 rfl (N := 8) rfl 81 _ _ rfl a0_0 rfl rfl Tryd.underlying81 (.int .u16 0) 2 info97 rfl (by decide) (by omega) 0 (ok := fun _ => True) (okp := fun _ => True) rfl (fun _ hk => hk) trivial (of_decide_eq_true (by first | (with_reducible assumption) | assumption)) (Nat.le_trans (Nat.mul_le_mul_right _ (of_decide_eq_true (by first | (with_reducible assumption) | assumption) : a0_0.toNat ≤ 140737488355328)) (by omega)) (Below.refl _ _) (Nat.le_refl _) ?_; intro v319 w6 ho7 hb hg_ hnew_; clear hg_ hnew_; (first | rw [← Ny318.out] at ho7 | (simp only [Int.reduceToNat] at ho7; rw [← Ny318.out] at ho7)); have HO320 := Aside0.mk (Kd.R_lower ho7 (below_size hB)); replace BK317 := bS BK317 hb; replace HB := hS HB hb; clear hb ho7; have hcz8_0 := cz BK317 0; have hcz8_1 := cz BK317 1; have hfz8_0 := fz BK317 0; have hfz8_1 := fz BK317 1))
   go_loopg [12] k (fun kq v12 w' => ∃ (x3_1 : List Int) (x12_1 : Int), v12 = .int .i64 x12_1 ∧ Aside0 (impl_Party_table.l0 kq x3_1 l0_1 (l0_1.length : Int) x12_1 = some r) ∧ Aside0 (kq ≤ k) ∧ Aside0 (Kd.R (Kd.int .u16) 97 w' w.heap.size (fun _ => True) v319 x3_1) ∧ Aside0 (w'.heap[gb317]? = some (.cells #[.int .i64 a0_0, (.slice A0_1 l0_1.length c0_1)] 33 (0, 0))) ∧ Aside0 (Below w.heap.size w w'))
   case atStart => exact ⟨(y318), (0), (by first | rfl | (simp; done) | (simp [*]; done)), H', ⟨Nat.le_refl _⟩, ⟨rU HO320⟩, ⟨bK⟩, ⟨hB⟩⟩
   case round =>
    clear H'
    try clear c2
    try clear c2b0
    try clear c2b1
    try clear p2
    try clear c3
    try clear c3b0
    try clear c3b1
    try clear c6
    try clear hcz5_0
    try clear hcz5_1
    try clear hcz8_0
    try clear hcz8_1
    try clear hfz5_0
    try clear hfz5_1
    try clear hfz8_0
    try clear hfz8_1
    obtain ⟨x3_1, x12_1, rfl, HA, HK1, HO_3, BK317, HB⟩ := hrel
    cases gk with
    | zero => exact absurd HA.out (by simp [impl_Party_table.l0])
    | succ k1 =>
     have H := HA.out
     clear HA
     simp only [impl_Party_table.l0] at H
     by_cases c9 : x12_1 < (l0_1.length : Int)
     ·rw [if_pos c9] at H
      have c9b0 : decide (x12_1 < (l0_1.length : Int)) = true := decide_eq_true c9
      clear c9
      by_cases c10 : 0 ≤ x12_1
      ·rw [if_pos c10] at H
       have c10b0 : decide (0 ≤ x12_1) = true := decide_eq_true c10
       clear c10
       by_cases c11 : x12_1 < (l0_1.length : Int)
       ·rw [if_pos c11] at H
        have c11b0 : decide (x12_1 < (l0_1.length : Int)) = true := decide_eq_true c11
        clear c11
        by_cases c12 : 0 ≤ ((rd_T105 l0_1 x12_1).f0)
        ·rw [if_pos c12] at H
         have c12b0 : decide (0 ≤ ((rd_T105 l0_1 x12_1).f0)) = true := decide_eq_true c12
         clear c12
         by_cases c13 : ((rd_T105 l0_1 x12_1).f0) < (x3_1.length : Int)
         ·rw [if_pos c13] at H
          have c13b0 : decide (((rd_T105 l0_1 x12_1).f0) < (x3_1.length : Int)) = true := decide_eq_true c13
          clear c13
          by_cases c14 : 0 ≤ ((rd_T105 l0_1 x12_1).f1)
          ·rw [if_pos c14] at H
           have c14b0 := eq_true c14
           have c14b1 : decide (0 ≤ ((rd_T105 l0_1 x12_1).f1)) = true := decide_eq_true c14
           clear c14
           obtain ⟨ji15, hji15⟩ : ∃ j_ : Int, (shl .u16 1 ((rd_T105 l0_1 x12_1).f1)) = j_ := ⟨_, rfl⟩
           replace H : ((some (x3_1.set (((rd_T105 l0_1 x12_1).f0) : Int).toNat (Go.bits .or .u16 (rd x3_1 ((rd_T105 l0_1 x12_1).f0)) (ji15)) : List Int)).bind fun y324 => (if ((rd_T105 l0_1 x12_1).f1) < (x3_1.length : Int) then (impl_Party_table.l0 k1 (y324.set (((rd_T105 l0_1 x12_1).f1) : Int).toNat (Go.bits .or .u16 (rd y324 ((rd_T105 l0_1 x12_1).f1)) (shl .u16 1 ((rd_T105 l0_1 x12_1).f0)))) l0_1 (l0_1.length : Int) (wrap64 (x12_1 + 1))) else (none))) = some r := by first | (rw [hji15] at H; exact H) | (simp only [hji15] at H ⊢; exact H)
           have hji15_ : (IntKind.u16.wrap (1 * 2 ^ min ((rd_T105 l0_1 x12_1).f1).toNat 16)) = ji15 := hji15
           have hji15z : ((rd_T105 l0_1 x12_1).f1) ≤ 16 → (IntKind.u16.wrap (1 * 2 ^ ((rd_T105 l0_1 x12_1).f1).toNat)) = ji15 := shl_small hji15
           have hji15u : (IntKind.u16.wrap (2 ^ min ((rd_T105 l0_1 x12_1).f1).toNat 16)) = ji15 := by have h_ := hji15_; rw [Int.one_mul] at h_; exact h_
           have hji15v : ((rd_T105 l0_1 x12_1).f1) ≤ 16 → (IntKind.u16.wrap (2 ^ ((rd_T105 l0_1 x12_1).f1).toNat)) = ji15 := fun hle_ => by have h_ := hji15z hle_; rw [Int.one_mul] at h_; exact h_
           obtain ⟨y324, hy324⟩ : ∃ y_ : List Int, y_ = (x3_1.set (((rd_T105 l0_1 x12_1).f0) : Int).toNat (Go.bits .or .u16 (rd x3_1 ((rd_T105 l0_1 x12_1).f0)) (ji15))) := ⟨_, rfl⟩
           replace H : (if ((rd_T105 l0_1 x12_1).f1) < (x3_1.length : Int) then (impl_Party_table.l0 k1 (y324.set (((rd_T105 l0_1 x12_1).f1) : Int).toNat (Go.bits .or .u16 (rd y324 ((rd_T105 l0_1 x12_1).f1)) (shl .u16 1 ((rd_T105 l0_1 x12_1).f0)))) l0_1 (l0_1.length : Int) (wrap64 (x12_1 + 1))) else (none)) = some r := by first | (rw [hy324]; with_reducible exact H) | (have H2_ := (Option.bind_some _ _).symm.trans H; rw [hy324]; with_reducible exact H2_) | (have H2_ := (Option.bind_some _ _).symm.trans H; with_reducible exact H2_) | with_reducible exact H | (rw [hy324]; exact H) | exact H
           have Ny324 := Aside0.mk hy324
           clear hy324
           by_cases c17 : ((rd_T105 l0_1 x12_1).f1) < (x3_1.length : Int)
           ·rw [if_pos c17] at H
            have c17b0 : decide (((rd_T105 l0_1 x12_1).f1) < (x3_1.length : Int)) = true := decide_eq_true c17
            clear c17
            have c18b0 := eq_true (of_decide_eq_true (by first | (with_reducible assumption) | assumption) : 0 ≤ ((rd_T105 l0_1 x12_1).f0))
            obtain ⟨ji19, hji19⟩ : ∃ j_ : Int, (shl .u16 1 ((rd_T105 l0_1 x12_1).f0)) = j_ := ⟨_, rfl⟩
            replace H : (impl_Party_table.l0 k1 (y324.set (((rd_T105 l0_1 x12_1).f1) : Int).toNat (Go.bits .or .u16 (rd y324 ((rd_T105 l0_1 x12_1).f1)) (ji19))) l0_1 (l0_1.length : Int) (wrap64 (x12_1 + 1))) = some r := by first | (rw [hji19] at H; exact H) | (simp only [hji19] at H ⊢; exact H)
            have hji19_ : (IntKind.u16.wrap (1 * 2 ^ min ((rd_T105 l0_1 x12_1).f0).toNat 16)) = ji19 := hji19
            have hji19z : ((rd_T105 l0_1 x12_1).f0) ≤ 16 → (IntKind.u16.wrap (1 * 2 ^ ((rd_T105 l0_1 x12_1).f0).toNat)) = ji19 := shl_small hji19
            have hji19u : (IntKind.u16.wrap (2 ^ min ((rd_T105 l0_1 x12_1).f0).toNat 16)) = ji19 := by have h_ := hji19_; rw [Int.one_mul] at h_; exact h_
            have hji19v : ((rd_T105 l0_1 x12_1).f0) ≤ 16 → (IntKind.u16.wrap (2 ^ ((rd_T105 l0_1 x12_1).f0).toNat)) = ji19 := fun hle_ => by have h_ := hji19z hle_; rw [Int.one_mul] at h_; exact h_
            obtain ⟨y326, hy326⟩ : ∃ y_ : List Int, y_ = (y324.set (((rd_T105 l0_1 x12_1).f1) : Int).toNat (Go.bits .or .u16 (rd y324 ((rd_T105 l0_1 x12_1).f1)) (ji19))) := ⟨_, rfl⟩
            replace H : (impl_Party_table.l0 k1 y326 l0_1 (l0_1.length : Int) (wrap64 (x12_1 + 1))) = some r := by first | (rw [hy326]; with_reducible exact H) | (have H2_ := (Option.bind_some _ _).symm.trans H; rw [hy326]; with_reducible exact H2_) | (have H2_ := (Option.bind_some _ _).symm.trans H; with_reducible exact H2_) | with_reducible exact H | (rw [hy326]; exact H) | exact H
            have Ny326 := Aside0.mk hy326
            clear hy326
            have H' := Aside0.mk H
            clear H
            have p321 : 0 ≤ (x12_1 : Int) := of_decide_eq_true (by first | (with_reducible assumption) | assumption)
            have q321 : x12_1 < (l0_1.length : Int) := of_decide_eq_true (by first | (with_reducible assumption) | assumption)
            obtain ⟨ad321, e321, hx321_0, hx321_1⟩ := at_T105 HR0_1.out x12_1 p321 q321
            cases e321
            replace hx321_0 := (HB.out.cell (World.block_lt_of_cell? w _ hx321_0)).trans hx321_0
            replace hx321_1 := (HB.out.cell (World.block_lt_of_cell? w _ hx321_1)).trans hx321_1
            replace p321 := eq_true p321
            replace q321 := eq_true q321
            try go_wp2_with (first | ((with_reducible refine gate_dst (N := 5) rfl ?_); refine bxE 5 #[.int .i64 0, .int .i64 0] 105 rfl ?_; intro gb322 hg w21 hbox hb; have BK322 := Aside0.mk (hbox); have GW322 := gS HB hg; have GE322 := gS HB hg; have NB317_322 := nL BK317 hg; have NB322_317 := nG BK317 hg; replace HO_3 := Aside0.mk (Kd.R_below (rU HO_3) hb); replace BK317 := bS BK317 hb; replace HB := hS HB hb; clear hb hbox hg; have hnb22 := NB322_317.out; have hnc22 := NB317_322.out; have hcz23_0 := cz BK322 0; have hcz23_1 := cz BK322 1; have hfz23_0 := fz BK322 0; have hfz23_1 := fz BK322 1))
            have n0_ : Aside0 (Kd.R (Kd.int .u16) 97 ((w21.setCell ⟨gb322, 0, none⟩ (.int .i64 ((rd_T105 l0_1 x12_1).f0))).setCell ⟨gb322, 1, none⟩ (.int .i64 ((rd_T105 l0_1 x12_1).f1))) w.heap.size (fun _ => True) v319 x3_1) := ⟨by (with_reducible repeat (first | apply Kd.R_alloc | apply Kd.R_drewN | apply Kd.R_drew)); exact Kd.R_mono (Kd.R_far (p := ⟨gb322, 1, none⟩) (Kd.R_far (p := ⟨gb322, 0, none⟩) (Kd.R_types HO_3.out BK322.out (by decide)) (fun _ hk => hk.2) (.int .i64 ((rd_T105 l0_1 x12_1).f0))) (fun _ hk => hk.2) (.int .i64 ((rd_T105 l0_1 x12_1).f1))) (fun _ hk => trivial)⟩
            have n1_ : Aside0 (((w21.setCell ⟨gb322, 0, none⟩ (.int .i64 ((rd_T105 l0_1 x12_1).f0))).setCell ⟨gb322, 1, none⟩ (.int .i64 ((rd_T105 l0_1 x12_1).f1))).heap[gb317]? = some (.cells #[.int .i64 a0_0, .slice (some ad321) l0_1.length c0_1] 33 (0, 0))) := ⟨by (with_reducible repeat (first | refine blk_drewN ?_ _ | refine blk_drew ?_ | refine blk_alloc ?_ _)); refine blk_far ?_ NB317_322.out _; (with_reducible repeat (first | refine blk_drewN ?_ _ | refine blk_drew ?_ | refine blk_alloc ?_ _)); refine blk_far ?_ NB317_322.out _; (with_reducible repeat (first | refine blk_drewN ?_ _ | refine blk_drew ?_ | refine blk_alloc ?_ _)); exact BK317.out⟩
            have n2_ : Aside0 (((w21.setCell ⟨gb322, 0, none⟩ (.int .i64 ((rd_T105 l0_1 x12_1).f0))).setCell ⟨gb322, 1, none⟩ (.int .i64 ((rd_T105 l0_1 x12_1).f1))).heap[gb322]? = some (.cells #[.int .i64 ((rd_T105 l0_1 x12_1).f0), .int .i64 ((rd_T105 l0_1 x12_1).f1)] 105 (0, 0))) := ⟨by (with_reducible repeat (first | refine blk_drewN ?_ _ | refine blk_drew ?_ | refine blk_alloc ?_ _)); refine blk_put (cs := #[.int .i64 ((rd_T105 l0_1 x12_1).f0), .int .i64 0]) ?_ 1 _ rfl; (with_reducible repeat (first | refine blk_drewN ?_ _ | refine blk_drew ?_ | refine blk_alloc ?_ _)); refine blk_put (cs := #[.int .i64 0, .int .i64 0]) ?_ 0 _ rfl; (with_reducible repeat (first | refine blk_drewN ?_ _ | refine blk_drew ?_ | refine blk_alloc ?_ _)); exact BK322.out⟩
            have n3_ : Aside0 (Below w.heap.size w ((w21.setCell ⟨gb322, 0, none⟩ (.int .i64 ((rd_T105 l0_1 x12_1).f0))).setCell ⟨gb322, 1, none⟩ (.int .i64 ((rd_T105 l0_1 x12_1).f1)))) := ⟨hB⟩
            (try clear HO_3)
            (try clear BK317)
            (try clear BK322)
            (try clear HB)
            generalize ((w21.setCell ⟨gb322, 0, none⟩ (.int .i64 ((rd_T105 l0_1 x12_1).f0))).setCell ⟨gb322, 1, none⟩ (.int .i64 ((rd_T105 l0_1 x12_1).f1))) = w24 at n0_ n1_ n2_ n3_ ⊢
            have HO_3 := n0_
            have BK317 := n1_
            have BK322 := n2_
            have HB := n3_
            clear n0_ n1_ n2_ n3_
            replace HO_3 := Aside0.mk (Kd.R_drew HO_3.out)
            replace BK317 := Aside0.mk (blk_drew BK317.out)
            replace BK322 := Aside0.mk (blk_drew BK322.out)
            replace HB := Aside0.mk (below_drew1 HB.out)
            obtain ⟨Ao26, co26, eo26⟩ := Kd.R_slice HO_3.out
            (first | subst eo26 | (injection eo26 with f1_ f2_ f3_; have f4_ := f1_.symm; have f5_ := f3_.symm; clear f1_ f2_ f3_; subst f4_; subst f5_))
            have p323 : 0 ≤ (((rd_T105 l0_1 x12_1).f0) : Int) := of_decide_eq_true (by first | (with_reducible assumption) | assumption)
            have q323 : ((rd_T105 l0_1 x12_1).f0) < (x3_1.length : Int) := of_decide_eq_true (by first | (with_reducible assumption) | assumption)
            obtain ⟨ad323, e323, hx323_0⟩ := Kd.at_int (Kd.R_reads' HO_3.out).2.2 ((rd_T105 l0_1 x12_1).f0) p323 q323
            cases e323
            replace p323 := eq_true p323
            replace q323 := eq_true q323
            have p16 : 0 ≤ (((rd_T105 l0_1 x12_1).f0) : Int) := of_decide_eq_true (by first | (with_reducible assumption) | assumption)
            have q16 : (((rd_T105 l0_1 x12_1).f0) : Int) < ((x3_1.length : Int) : Int) := of_decide_eq_true (by first | (with_reducible assumption) | assumption)
            obtain ⟨go16, co16, eo16, gb16, gl16, cl16, HG16⟩ := Kd.R_form HO_3.out (by omega)
            (first | cases eo16 | (injection eo16 with ea_ en_ ec_; (first | subst ea_ | (injection ea_ with ea_; subst ea_)); subst ec_; clear en_))
            have GB16 := Aside0.mk gb16
            have GG16 := Aside0.mk HG16
            clear gb16 gl16 HG16
            (first | simp only [add_plain] at hx323_0 | skip)
            obtain ⟨hx16_0, hf16_0⟩ := Kd.R_celln 0 HO_3.out (((rd_T105 l0_1 x12_1).f0) : Int) p16 q16
            replace p16 := eq_true p16
            replace q16 := eq_true q16
            have HP27 := Kd.R_putn HO_3.out (((rd_T105 l0_1 x12_1).f0) : Int) (Go.bits .or .u16 (rd x3_1 ((rd_T105 l0_1 x12_1).f0)) (ji15))
            rw [← Ny324.out] at HP27
            have HQ27 := Aside0.mk HP27
            clear HP27
            refine start_ (n := 11) (S := fun w' => w'.cell? ⟨gb322, 0, none⟩ = some (.int .i64 ((rd_T105 l0_1 x12_1).f0)) ∧ w'.cell? ⟨gb322, 1, none⟩ = some (.int .i64 ((rd_T105 l0_1 x12_1).f1)) ∧ w'.cell? ⟨go16, (((rd_T105 l0_1 x12_1).f0)).toNat, none⟩ = some (.int .u16 (rd x3_1 ((rd_T105 l0_1 x12_1).f0)))) (ds := [10]) (bz 11 0) (by kernel_rfl) rfl rfl ⟨(blk_cell BK322.out 0).trans rfl, (blk_cell BK322.out 1).trans rfl, hx323_0⟩ (fun hHeld => ?_); refine with_tabW impl_Party_table.tab5 impl_Party_table.bits5 (fun HT_ HW_ => ?_)
            generalize w24.drew = w25 at HO_3 BK317 BK322 HB GG16 HQ27 hf16_0 hx16_0 hx323_0 hHeld ⊢
            refine run_ [(0, 0, 1, some 16), (0, 1, 3, some 17), (0, 5, 35, some 21), (1, 2, 39, some 18), (0, 3, 47, some 19), (1, 4, 63, some 20), (1, 6, 127, some 22), (0, 7, 255, some 23), (0, 8, 511, some 24), (0, 9, 1023, some 25)] ?_
            repeat (first | (apply tag0; refine run_p (v := ?_) (a' := ?_) rfl rfl (any_of HT_.out (by kernel_rfl)) (fun _ _ _ h => h) (by rfl) ?_ ?_ ?_; rotate_left 2; (intro w'; go_simp; with_reducible rfl); (first | (simp only [Act.put, List.setIfInBounds_toArray, List.set_cons_zero, List.set_cons_succ, i64_w, i32_w]; rfl) | rfl)) | (apply tag1; refine run_t (v := ?_) (a' := ?_) rfl rfl (take_ofW HT_.out HW_.out (by kernel_rfl)) (fun _ _ _ h => h) (by rfl) ?_ hHeld ?_ ?_; rotate_left 2; (rintro w' ⟨s0, s1, s2⟩; go_simp; with_reducible rfl); (first | (simp only [Act.put, List.setIfInBounds_toArray, List.set_cons_zero, List.set_cons_succ, i64_w, i32_w]; rfl) | rfl)))
            refine run_nil ?_
            refine last_ (i := 10) (N := none) (bz 11 2047) rfl rfl (one_of HT_.out (by kernel_rfl)) (by decide) (fun K hK => ?_)
            refine skip_ (w1 := ?_) (by rfl) rfl ?_ ?_
            rotate_left
            ·go_simp
             rfl
            refine hK.out _ _ ?_
            clear hK K
            refine done_ (done_of HT_.out (by kernel_rfl)) ?_
            try go_wp2
            have n0_ : Aside0 (Kd.R (Kd.int .u16) 97 (w25.setCell ⟨go16, (((rd_T105 l0_1 x12_1).f0) : Int).toNat, none⟩ (.int .u16 (Go.bits .or .u16 (rd x3_1 ((rd_T105 l0_1 x12_1).f0)) (ji15)))) w.heap.size (fun _ => True) (.slice (some ⟨go16, 0, none⟩) x3_1.length co26) y324) := ⟨by (with_reducible repeat (first | apply Kd.R_alloc | apply Kd.R_drewN | apply Kd.R_drew)); exact HQ27.out⟩
            have n1_ : Aside0 ((w25.setCell ⟨go16, (((rd_T105 l0_1 x12_1).f0) : Int).toNat, none⟩ (.int .u16 (Go.bits .or .u16 (rd x3_1 ((rd_T105 l0_1 x12_1).f0)) (ji15)))).heap[gb317]? = some (.cells #[.int .i64 a0_0, .slice (some ad321) l0_1.length c0_1] 33 (0, 0))) := ⟨by (with_reducible repeat (first | refine blk_drewN ?_ _ | refine blk_drew ?_ | refine blk_alloc ?_ _)); refine blk_far ?_ (by have h_ := Kd.R_ne HO_3.out BK317.out (by decide); intro e_; exact h_ (by rw [e_]; rfl)) _; (with_reducible repeat (first | refine blk_drewN ?_ _ | refine blk_drew ?_ | refine blk_alloc ?_ _)); exact BK317.out⟩
            have n2_ : Aside0 ((w25.setCell ⟨go16, (((rd_T105 l0_1 x12_1).f0) : Int).toNat, none⟩ (.int .u16 (Go.bits .or .u16 (rd x3_1 ((rd_T105 l0_1 x12_1).f0)) (ji15)))).heap[gb322]? = some (.cells #[.int .i64 ((rd_T105 l0_1 x12_1).f0), .int .i64 ((rd_T105 l0_1 x12_1).f1)] 105 (0, 0))) := ⟨by (with_reducible repeat (first | refine blk_drewN ?_ _ | refine blk_drew ?_ | refine blk_alloc ?_ _)); refine blk_far ?_ (by have h_ := Kd.R_ne HO_3.out BK322.out (by decide); intro e_; exact h_ (by rw [e_]; rfl)) _; (with_reducible repeat (first | refine blk_drewN ?_ _ | refine blk_drew ?_ | refine blk_alloc ?_ _)); exact BK322.out⟩
            have n3_ : Aside0 (Below w.heap.size w (w25.setCell ⟨go16, (((rd_T105 l0_1 x12_1).f0) : Int).toNat, none⟩ (.int .u16 (Go.bits .or .u16 (rd x3_1 ((rd_T105 l0_1 x12_1).f0)) (ji15))))) := ⟨by repeat (first | (with_reducible first | exact HB.out | apply below_alloc | apply pw_below_drewN | apply below_drew1 | refine below_set ?_ GB16.out | refine below_set ?_ GE317.out | refine below_set ?_ GE322.out) | exact HB.out)⟩
            (try clear HO_3)
            (try clear BK317)
            (try clear BK322)
            (try clear HB)
            generalize (w25.setCell ⟨go16, (((rd_T105 l0_1 x12_1).f0) : Int).toNat, none⟩ (.int .u16 (Go.bits .or .u16 (rd x3_1 ((rd_T105 l0_1 x12_1).f0)) (ji15)))) = w28 at n0_ n1_ n2_ n3_ ⊢
            have HO_3 := n0_
            have BK317 := n1_
            have BK322 := n2_
            have HB := n3_
            clear n0_ n1_ n2_ n3_
            replace HO_3 := Aside0.mk (Kd.R_drew HO_3.out)
            replace BK317 := Aside0.mk (blk_drew BK317.out)
            replace BK322 := Aside0.mk (blk_drew BK322.out)
            replace HB := Aside0.mk (below_drew1 HB.out)
            have p325 : 0 ≤ (((rd_T105 l0_1 x12_1).f1) : Int) := of_decide_eq_true (by first | (with_reducible assumption) | assumption)
            have q325 : ((rd_T105 l0_1 x12_1).f1) < (y324.length : Int) := (by have h_ : (((rd_T105 l0_1 x12_1).f1) : Int) < ((x3_1.length : Int) : Int) := of_decide_eq_true (by first | (with_reducible assumption) | assumption); first | (have e_ := (Kd.R_reads' HO_3.out).1; omega) | simpa only [Ny324.out, List.length_set] using h_)
            have ql325 : ((((rd_T105 l0_1 x12_1).f1) : Int) < ((x3_1.length : Int) : Int)) = True := eq_true (of_decide_eq_true (by first | (with_reducible assumption) | assumption))
            obtain ⟨ad325, e325, hx325_0⟩ := Kd.at_int (Kd.R_reads' HO_3.out).2.2 ((rd_T105 l0_1 x12_1).f1) p325 q325
            obtain rfl : (⟨go16, 0, none⟩ : Addr) = ad325 := (by injection e325)
            (first | simp only [add_plain] at hx325_0 | simp only [add_at] at hx325_0 | simp only [Addr.add, Nat.zero_add] at hx325_0 | skip)
            replace p325 := eq_true p325
            replace q325 := eq_true q325
            have p20 : 0 ≤ (((rd_T105 l0_1 x12_1).f1) : Int) := of_decide_eq_true (by first | (with_reducible assumption) | assumption)
            have q20 : (((rd_T105 l0_1 x12_1).f1) : Int) < ((x3_1.length : Int) : Int) := of_decide_eq_true (by first | (with_reducible assumption) | assumption)
            obtain ⟨hx20_0, hf20_0⟩ := Kd.R_celln 0 HO_3.out (((rd_T105 l0_1 x12_1).f1) : Int) p20 q20
            replace p20 := eq_true p20
            replace q20 := eq_true q20
            have HP30 := Kd.R_putn HO_3.out (((rd_T105 l0_1 x12_1).f1) : Int) (Go.bits .or .u16 (rd y324 ((rd_T105 l0_1 x12_1).f1)) (ji19))
            rw [← Ny326.out] at HP30
            have HQ30 := Aside0.mk HP30
            clear HP30
            refine start_ (n := 11) (S := fun w' => w'.cell? ⟨gb322, 0, none⟩ = some (.int .i64 ((rd_T105 l0_1 x12_1).f0)) ∧ w'.cell? ⟨gb322, 1, none⟩ = some (.int .i64 ((rd_T105 l0_1 x12_1).f1)) ∧ w'.cell? ⟨go16, (((rd_T105 l0_1 x12_1).f1)).toNat, none⟩ = some (.int .u16 (rd y324 ((rd_T105 l0_1 x12_1).f1)))) (ds := [10]) (bz 11 0) (by kernel_rfl) rfl rfl ⟨(blk_cell BK322.out 0).trans rfl, (blk_cell BK322.out 1).trans rfl, hx325_0⟩ (fun hHeld => ?_); refine with_tabW impl_Party_table.tab6 impl_Party_table.bits6 (fun HT_ HW_ => ?_)
            generalize w28.drew = w29 at HO_3 BK317 BK322 HB HQ27 HQ30 hf20_0 hx20_0 hx325_0 hHeld ⊢
            refine run_ [(0, 0, 1, some 26), (0, 1, 3, some 27), (0, 5, 35, some 31), (1, 2, 39, some 28), (0, 3, 47, some 29), (1, 4, 63, some 30), (1, 6, 127, some 32), (0, 7, 255, some 33), (0, 8, 511, some 34), (0, 9, 1023, some 35)] ?_
            repeat (first | (apply tag0; refine run_p (v := ?_) (a' := ?_) rfl rfl (any_of HT_.out (by kernel_rfl)) (fun _ _ _ h => h) (by rfl) ?_ ?_ ?_; rotate_left 2; (intro w'; go_simp; with_reducible rfl); (first | (simp only [Act.put, List.setIfInBounds_toArray, List.set_cons_zero, List.set_cons_succ, i64_w, i32_w]; rfl) | rfl)) | (apply tag1; refine run_t (v := ?_) (a' := ?_) rfl rfl (take_ofW HT_.out HW_.out (by kernel_rfl)) (fun _ _ _ h => h) (by rfl) ?_ hHeld ?_ ?_; rotate_left 2; (rintro w' ⟨s0, s1, s2⟩; go_simp; with_reducible rfl); (first | (simp only [Act.put, List.setIfInBounds_toArray, List.set_cons_zero, List.set_cons_succ, i64_w, i32_w]; rfl) | rfl)))
            refine run_nil ?_
            refine last_ (i := 10) (N := none) (bz 11 2047) rfl rfl (one_of HT_.out (by kernel_rfl)) (by decide) (fun K hK => ?_)
            refine skip_ (w1 := ?_) (by rfl) rfl ?_ ?_
            rotate_left
            ·go_simp
             rfl
            refine hK.out _ _ ?_
            clear hK K
            refine done_ (done_of HT_.out (by kernel_rfl)) ?_
            try go_wp2
            go_roundg k1
            case measure => have := HK1.out; omega
            case rel => exact ⟨(y326), (wrap64 (x12_1 + 1)), (by first | rfl | (simp; done) | (simp [*]; done)), H', ⟨by have := HK1.out; omega⟩, ⟨by (with_reducible repeat (first | apply Kd.R_alloc | apply Kd.R_drewN | apply Kd.R_drew)); exact HQ30.out⟩, ⟨by (with_reducible repeat (first | refine blk_drewN ?_ _ | refine blk_drew ?_ | refine blk_alloc ?_ _)); refine blk_far ?_ (by have h_ := Kd.R_ne HO_3.out BK317.out (by decide); intro e_; exact h_ (by rw [e_]; rfl)) _; (with_reducible repeat (first | refine blk_drewN ?_ _ | refine blk_drew ?_ | refine blk_alloc ?_ _)); exact BK317.out⟩, ⟨by repeat (first | (with_reducible first | exact HB.out | apply below_alloc | apply pw_below_drewN | apply below_drew1 | refine below_set ?_ GB16.out | refine below_set ?_ GE317.out | refine below_set ?_ GE322.out) | exact HB.out)⟩⟩
           ·rw [if_neg c17] at H
            exact absurd H (by simp)
          ·rw [if_neg c14] at H
           exact absurd H (by simp)
         ·rw [if_neg c13] at H
          exact absurd H (by simp)
        ·rw [if_neg c12] at H
         exact absurd H (by simp)
       ·rw [if_neg c11] at H
        exact absurd H (by simp)
      ·rw [if_neg c10] at H
       exact absurd H (by simp)
     ·rw [if_neg c9] at H
      have c9b0 : decide (x12_1 < (l0_1.length : Int)) = false := decide_eq_false c9
      clear c9
      obtain rfl := Option.some.inj H
      go_wp2
      go_ret
      exact ⟨_, by first | rfl | (simp [errW_none, errW_some] <;> rfl) | (simp [*, errW_none, errW_some] <;> rfl), rU HO_3, hB⟩
  ·rw [if_neg c3] at H
   exact absurd H (by simp)
 ·rw [if_neg c2] at H
  exact absurd H (by simp)

/-! ### impl_MakePuzzle_1: function 62 (a text of this session's own) -/
/-- The next number. -/
def nxtI (z : Int) : Int := Int.tmod (wrap64 (wrap64 (z * 173) + 3571)) 10007
theorem impl_MakePuzzle_1.calls (z : Int) (gs : Nat) (W : World) (hw : W.heap[gs]? = some (.cells #[.int .i64 z] 3 (0, 0))) :
    Calls Tryd.prog 62 #[.pointer (some ⟨gs, 0, none⟩)] W fun e w' => e = .returned (.int .i64 (nxtI z)) ∧ w' = W.setCell ⟨gs, 0, none⟩ (.int .i64 (nxtI z)) := by
  have hc : W.cell? ⟨gs, 0, none⟩ = some (.int .i64 z) := (blk_cell hw 0).trans rfl
  have hf := blk_frozen hw 0
  clear hw
  go_enter Tryd.func62, Tryd.ntmps62
  go_wp2
  go_ret
  exact ⟨rfl, rfl⟩

/-! ### impl_bit: function 63 -/
def impl_bit.f (a0 : Bool) : Option (Int) := if a0 = true then (some 1) else (some 0)
set_option maxHeartbeats 8000000 in
set_option maxRecDepth 100000 in
theorem impl_bit.calls (a0 : Bool) (r : Int) (w : World) (h : impl_bit.f a0 = some r) :
  Calls Tryd.prog 63 #[.bool a0] w fun e w' => e = .returned (.int .i64 r) ∧ Drawn0 w w' := by
 have H : (if a0 = true then (some 1) else (some 0)) = some r := h
 clear h
 by_cases c2 : a0 = true
 ·subst c2
  have H1 : (some 1) = some r := by rw [if_pos rfl] at H; exact H
  clear H
  have H := H1
  clear H1
  obtain rfl := Option.some.inj H
  go_enter Tryd.func63, Tryd.ntmps63
  go_wp2
  go_ret
  exact ⟨by first | rfl | (simp; done) | (simp [*]; done), by repeat (first | exact Drawn0.refl _ | apply Drawn0.step)⟩
 ·replace c2 := Bool.eq_false_iff.mpr c2
  subst c2
  have H1 : (some 0) = some r := by rw [if_neg (show ¬ (false = true) by decide)] at H; exact H
  clear H
  have H := H1
  clear H1
  obtain rfl := Option.some.inj H
  go_enter Tryd.func63, Tryd.ntmps63
  go_wp2
  go_ret
  exact ⟨by first | rfl | (simp; done) | (simp [*]; done), by repeat (first | exact Drawn0.refl _ | apply Drawn0.step)⟩

/-! ### impl_table_has: function 64 -/
def impl_table_has.f (l0 : List Int) (a1 : Int) (a2 : Int) : Option (Bool) := if 0 ≤ a1 then (if a1 < (l0.length : Int) then (if 0 ≤ a2 then (some ((Go.bits .and .u16 (shr .u16 (rd l0 a1) a2) 1) == 1)) else (none)) else (none)) else (none)
set_option maxHeartbeats 8000000 in
set_option maxRecDepth 100000 in
theorem impl_table_has.calls (A0 : Option Addr) (c0 : Nat) (l0 : List Int) (a1 : Int) (a2 : Int) (r : Bool) (w : World) (hr0 : Kd.C (Kd.int .u16) w A0 l0.length l0) (hc0 : l0.length ≤ c0) (h : impl_table_has.f l0 a1 a2 = some r) :
  Calls Tryd.prog 64 #[.slice A0 l0.length c0, .int .i64 a1, .int .i64 a2] w fun e w' => e = .returned (.bool r) ∧ Drawn0 w w' := by
 have HR0 := Aside0.mk hr0
 have HC0 := Aside0.mk hc0
 clear hr0 hc0
 have H : (if 0 ≤ a1 then (if a1 < (l0.length : Int) then (if 0 ≤ a2 then (some ((Go.bits .and .u16 (shr .u16 (rd l0 a1) a2) 1) == 1)) else (none)) else (none)) else (none)) = some r := h
 clear h
 by_cases c4 : 0 ≤ a1
 ·rw [if_pos c4] at H
  have c4b0 : decide (0 ≤ a1) = true := decide_eq_true c4
  clear c4
  by_cases c5 : a1 < (l0.length : Int)
  ·rw [if_pos c5] at H
   have c5b0 : decide (a1 < (l0.length : Int)) = true := decide_eq_true c5
   clear c5
   by_cases c6 : 0 ≤ a2
   ·rw [if_pos c6] at H
    have c6b0 := eq_true c6
    have c6b1 : decide (0 ≤ a2) = true := decide_eq_true c6
    clear c6
    obtain ⟨ji7, hji7⟩ : ∃ j_ : Int, (shr .u16 (rd l0 a1) a2) = j_ := ⟨_, rfl⟩
    replace H : (some ((Go.bits .and .u16 (ji7) 1) == 1)) = some r := by first | (rw [hji7] at H; exact H) | (simp only [hji7] at H ⊢; exact H)
    have hji7_ : ((rd l0 a1) / 2 ^ min a2.toNat 16) = ji7 := hji7
    have hji7z : a2 ≤ 16 → ((rd l0 a1) / 2 ^ a2.toNat) = ji7 := shr_small hji7
    obtain rfl := Option.some.inj H
    have p327 : 0 ≤ (a1 : Int) := of_decide_eq_true (by first | (with_reducible assumption) | assumption)
    have q327 : a1 < (l0.length : Int) := of_decide_eq_true (by first | (with_reducible assumption) | assumption)
    obtain ⟨ad327, e327, hx327_0⟩ := Kd.at_int HR0.out a1 p327 q327
    cases e327
    replace p327 := eq_true p327
    replace q327 := eq_true q327
    go_enter Tryd.func64, Tryd.ntmps64
    go_wp2
    go_ret
    exact ⟨by first | rfl | (simp; done) | (simp only [← hji7] <;> (first | rfl | simp)) | (simp [*]; done), by repeat (first | exact Drawn0.refl _ | apply Drawn0.step)⟩
   ·rw [if_neg c6] at H
    exact absurd H (by simp)
  ·rw [if_neg c5] at H
   exact absurd H (by simp)
 ·rw [if_neg c4] at H
  exact absurd H (by simp)

end Go.Proofs.YtjpfbkkikcpmhaaDoor.PFnExactMakePuzzle
