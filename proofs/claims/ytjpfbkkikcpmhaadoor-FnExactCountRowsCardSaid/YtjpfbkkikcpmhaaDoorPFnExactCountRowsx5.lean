-- Of this session's own program wip/gen/gen.py (it drives the kit's print): contracts of the functions that the law reaches.
import Derived.Test.YtjpfbkkikcpmhaaDoorPFnExactCountRowsx0
import Derived.Test.YtjpfbkkikcpmhaaDoorPFnExactCountRowsx4
namespace Go.Proofs.YtjpfbkkikcpmhaaDoor.PFnExactCountRows
open Go.RowKit Go.Proofs.YtjpfbkkikcpmhaaDoorW.PrintWords Go.Proofs.YtjpfbkkikcpmhaaDoorW.PrintLast Go.Proofs.YtjpfbkkikcpmhaaDoorW.PrintMore Go.Proofs.YtjpfbkkikcpmhaaDoor.Base
attribute [local go_sem] max2_int min2_int max_two min_two max_three min_three max_four min_four   -- for this text's walks alone
set_option linter.unusedVariables false
set_option linter.unusedSimpArgs false

/-! ### impl_IsParty: function 76 -/
def impl_IsParty.l0 : Nat → List (S105) → Int → Int → Int → List (S105) → Option (Bool)
 | 0, _, _, _, _, _ => none
 | k + 1, x6, x7, x8, x187000, x187001 => if x8 < x7 then (if 0 ≤ x8 then (if x8 < (x6.length : Int) then (if ((rd_T105 x6 x8).f0) < 0 then (some false) else (if ((rd_T105 x6 x8).f0) ≥ ((rd_T105 x6 x8).f1) then (some false) else (if ((rd_T105 x6 x8).f1) ≥ x187000 then (some false) else (if x8 > 0 then (if 0 ≤ (wrap64 (x8 - 1)) then (if (wrap64 (x8 - 1)) < (x187001.length : Int) then ((impl_comparePairs.f k ((rd_T105 x187001 (wrap64 (x8 - 1))).f0) ((rd_T105 x187001 (wrap64 (x8 - 1))).f1) ((rd_T105 x6 x8).f0) ((rd_T105 x6 x8).f1)).bind fun t190 => (if t190 ≥ 0 then (some false) else (impl_IsParty.l0 k x6 x7 (wrap64 (x8 + 1)) x187000 x187001))) else (none)) else (none)) else (impl_IsParty.l0 k x6 x7 (wrap64 (x8 + 1)) x187000 x187001))))) else (none)) else (none)) else ((impl_areCrowd.f x187000).bind fun t191 => (some t191))
def impl_IsParty.f (k : Nat) (a0_0 : Int) (l0_1 : List (S105)) : Option (Bool) := impl_IsParty.l0 k l0_1 (l0_1.length : Int) 0 a0_0 l0_1
theorem impl_IsParty.mono_l : ∀ k, (∀ y0 y1 y2 y3 y4, LeO (impl_IsParty.l0 k y0 y1 y2 y3 y4) (impl_IsParty.l0 (k + 1) y0 y1 y2 y3 y4))
 | 0 => fun _ _ _ _ _ r h => by simp [impl_IsParty.l0] at h
 | k + 1 => by
  have ih0 := impl_IsParty.mono_l k
  ·intro y0 y1 y2 y3 y4
   unfold impl_IsParty.l0
   repeat' first
   | (with_reducible exact ih0 _ _ _ _ _)
   | (with_reducible exact impl_comparePairs.mono _ _ _ _ _)
   | (with_reducible exact LeO.refl _)
   | (with_reducible exact LeO.none _)
   | (with_reducible refine LeO.ite ?_ ?_)
   | (with_reducible refine LeO.bind ?_ (fun _ => ?_))
   | exact ih0 _ _ _ _ _
   | exact impl_comparePairs.mono _ _ _ _ _
   | exact LeO.none _
   | refine LeO.ite ?_ ?_
   | refine LeO.bind ?_ (fun _ => ?_)
theorem impl_IsParty.mono : ∀ a0 a1 k, LeO (impl_IsParty.f k a0 a1) (impl_IsParty.f (k + 1) a0 a1) := by
 intro a0 a1 k
 have ih0 := impl_IsParty.mono_l k
 unfold impl_IsParty.f
 repeat' first
   | (with_reducible exact ih0 _ _ _ _ _)
   | (with_reducible exact impl_comparePairs.mono _ _ _ _ _)
   | (with_reducible exact LeO.refl _)
   | (with_reducible exact LeO.none _)
   | (with_reducible refine LeO.ite ?_ ?_)
   | (with_reducible refine LeO.bind ?_ (fun _ => ?_))
   | exact ih0 _ _ _ _ _
   | exact impl_comparePairs.mono _ _ _ _ _
   | exact LeO.none _
   | refine LeO.ite ?_ ?_
   | refine LeO.bind ?_ (fun _ => ?_)
def impl_IsParty.T4 : Bool × List (List Nat × List Nat) := (true, [([], []), ([0], [0]), ([1], [1]), ([2], [2]), ([3], [3]), ([4, 3], [3, 4]), ([3], [3]), ([6, 3], [3, 6]), ([5, 7, 3], [3, 5, 7]), ([3, 8], [3, 8]), ([9, 3], [9]), ([10], [10]), ([11, 10], [10, 11]), ([10], [10]), ([13, 10], [10, 13]), ([12, 14, 10], [10, 12, 14]), ([10, 15], [10, 15]), ([16, 10], [16]), ([17], [17]), ([18, 17], [17, 18]), ([19, 17, 17], [17, 19]), ([20], [20]), ([21, 20], [20, 21]), ([20], [20]), ([23, 20], [20, 23]), ([22, 24, 20], [20, 22, 24]), ([25, 20], [20, 25]), ([20], [20]), ([26, 27, 20, 20], [20, 26, 27]), ([28, 20], [20, 28]), ([20, 29, 17], [17, 20, 29]), ([17, 30], [17, 30])])
def impl_IsParty.B4 : List Nat := [0, 1, 3, 7, 15, 31, 15, 79, 255, 511, 1023, 2047, 4095, 2047, 10239, 32767, 65535, 131071, 262143, 524287, 1048575, 2097151, 4194303, 2097151, 10485759, 33554431, 67108863, 2097151, 268435455, 536870911, 1073741823, 2147483647]
theorem impl_IsParty.tab4 : rtab .any (opsOf Tryd.f76 4) = impl_IsParty.T4 := by kernel_rfl
theorem impl_IsParty.bits4 : waitsOk impl_IsParty.T4.2 impl_IsParty.B4 = true := by kernel_rfl
set_option maxHeartbeats 8000000 in
set_option maxRecDepth 100000 in
theorem impl_IsParty.calls (k : Nat) (a0_0 : Int) (A0_1 : Option Addr) (c0_1 : Nat) (l0_1 : List (S105)) (r : Bool) (w : World) (hr0_1 : Kd.C k105 w A0_1 l0_1.length l0_1) (hc0_1 : l0_1.length ≤ c0_1) (h : impl_IsParty.f k a0_0 l0_1 = some r) :
  Calls Tryd.prog 76 #[.agg #[.int .i64 a0_0, .slice A0_1 l0_1.length c0_1]] w fun e w' => e = .returned (.bool r) ∧ Below w.heap.size w w' := by
 have hu33 := Tryd.underlying33
 have hu105 := Tryd.underlying105
 have HR0_1 := Aside0.mk hr0_1
 have HC0_1 := Aside0.mk hc0_1
 clear hr0_1 hc0_1
 have HB := Aside0.mk (Below.refl w.heap.size w)
 have H : (impl_IsParty.l0 k l0_1 (l0_1.length : Int) 0 a0_0 l0_1) = some r := h
 clear h
 have H' := Aside0.mk H
 clear H
 go_enter Tryd.func76, Tryd.ntmps76
 go_wp2_with (first | ((with_reducible refine gate_dst (N := 1) rfl ?_); refine bxE 1 #[.int .i64 a0_0, .slice A0_1 l0_1.length c0_1] 33 rfl ?_; intro gb186 hg w2 hbox hb; have BK186 := Aside0.mk (hbox); have GW186 := gS HB hg; have GE186 := gS HB hg; replace HB := hS HB hb; clear hb hbox hg; have hcz3_0 := cz BK186 0; have hcz3_1 := cz BK186 1; have hfz3_0 := fz BK186 0; have hfz3_1 := fz BK186 1))
 go_loopg [8] k (fun kq v8 w' => ∃ (x8_1 : Int), v8 = .int .i64 x8_1 ∧ Aside0 (impl_IsParty.l0 kq l0_1 (l0_1.length : Int) x8_1 a0_0 l0_1 = some r) ∧ Aside0 (kq ≤ k) ∧ Aside0 (w'.heap[gb186]? = some (.cells #[.int .i64 a0_0, (.slice A0_1 l0_1.length c0_1)] 33 (0, 0))) ∧ Aside0 (Below w.heap.size w w'))
 case atStart => exact ⟨(0), (by first | rfl | (simp; done) | (simp [*]; done)), H', ⟨Nat.le_refl _⟩, ⟨bK⟩, ⟨hB⟩⟩
 case round =>
  clear H'
  try clear p2
  try clear hcz3_0
  try clear hcz3_1
  try clear hfz3_0
  try clear hfz3_1
  obtain ⟨x8_1, rfl, HA, HK1, BK186, HB⟩ := hrel
  cases gk with
  | zero => exact absurd HA.out (by simp [impl_IsParty.l0])
  | succ k1 =>
   have H := HA.out
   clear HA
   simp only [impl_IsParty.l0] at H
   by_cases c4 : x8_1 < (l0_1.length : Int)
   ·rw [if_pos c4] at H
    have c4b0 : decide (x8_1 < (l0_1.length : Int)) = true := decide_eq_true c4
    clear c4
    by_cases c5 : 0 ≤ x8_1
    ·rw [if_pos c5] at H
     have c5b0 : decide (0 ≤ x8_1) = true := decide_eq_true c5
     clear c5
     by_cases c6 : x8_1 < (l0_1.length : Int)
     ·rw [if_pos c6] at H
      have c6b0 : decide (x8_1 < (l0_1.length : Int)) = true := decide_eq_true c6
      clear c6
      by_cases c7 : ((rd_T105 l0_1 x8_1).f0) < 0
      ·rw [if_pos c7] at H
       have c7b0 : decide (((rd_T105 l0_1 x8_1).f0) < 0) = true := decide_eq_true c7
       clear c7
       obtain rfl := Option.some.inj H
       have p187 : 0 ≤ (x8_1 : Int) := of_decide_eq_true (by first | (with_reducible assumption) | assumption)
       have q187 : x8_1 < (l0_1.length : Int) := of_decide_eq_true (by first | (with_reducible assumption) | assumption)
       obtain ⟨ad187, e187, hx187_0, hx187_1⟩ := at_T105 HR0_1.out x8_1 p187 q187
       cases e187
       replace hx187_0 := (HB.out.cell (World.block_lt_of_cell? w _ hx187_0)).trans hx187_0
       replace hx187_1 := (HB.out.cell (World.block_lt_of_cell? w _ hx187_1)).trans hx187_1
       replace p187 := eq_true p187
       replace q187 := eq_true q187
       try go_wp2_with (first | ((with_reducible refine gate_dst (N := 4) rfl ?_); refine bxE 4 #[.int .i64 0, .int .i64 0] 105 rfl ?_; intro gb188 hg w8 hbox hb; have BK188 := Aside0.mk (hbox); have GW188 := gS HB hg; have GE188 := gS HB hg; have NB186_188 := nL BK186 hg; have NB188_186 := nG BK186 hg; replace BK186 := bS BK186 hb; replace HB := hS HB hb; clear hb hbox hg; have hnb9 := NB188_186.out; have hnc9 := NB186_188.out; have hcz10_0 := cz BK188 0; have hcz10_1 := cz BK188 1; have hfz10_0 := fz BK188 0; have hfz10_1 := fz BK188 1))
       have n0_ : Aside0 (((w8.setCell ⟨gb188, 0, none⟩ (.int .i64 ((rd_T105 l0_1 x8_1).f0))).setCell ⟨gb188, 1, none⟩ (.int .i64 ((rd_T105 l0_1 x8_1).f1))).heap[gb186]? = some (.cells #[.int .i64 a0_0, .slice (some ad187) l0_1.length c0_1] 33 (0, 0))) := ⟨by (with_reducible repeat (first | refine blk_drewN ?_ _ | refine blk_drew ?_ | refine blk_alloc ?_ _)); refine blk_far ?_ NB186_188.out _; (with_reducible repeat (first | refine blk_drewN ?_ _ | refine blk_drew ?_ | refine blk_alloc ?_ _)); refine blk_far ?_ NB186_188.out _; (with_reducible repeat (first | refine blk_drewN ?_ _ | refine blk_drew ?_ | refine blk_alloc ?_ _)); exact BK186.out⟩
       have n1_ : Aside0 (((w8.setCell ⟨gb188, 0, none⟩ (.int .i64 ((rd_T105 l0_1 x8_1).f0))).setCell ⟨gb188, 1, none⟩ (.int .i64 ((rd_T105 l0_1 x8_1).f1))).heap[gb188]? = some (.cells #[.int .i64 ((rd_T105 l0_1 x8_1).f0), .int .i64 ((rd_T105 l0_1 x8_1).f1)] 105 (0, 0))) := ⟨by (with_reducible repeat (first | refine blk_drewN ?_ _ | refine blk_drew ?_ | refine blk_alloc ?_ _)); refine blk_put (cs := #[.int .i64 ((rd_T105 l0_1 x8_1).f0), .int .i64 0]) ?_ 1 _ rfl; (with_reducible repeat (first | refine blk_drewN ?_ _ | refine blk_drew ?_ | refine blk_alloc ?_ _)); refine blk_put (cs := #[.int .i64 0, .int .i64 0]) ?_ 0 _ rfl; (with_reducible repeat (first | refine blk_drewN ?_ _ | refine blk_drew ?_ | refine blk_alloc ?_ _)); exact BK188.out⟩
       have n2_ : Aside0 (Below w.heap.size w ((w8.setCell ⟨gb188, 0, none⟩ (.int .i64 ((rd_T105 l0_1 x8_1).f0))).setCell ⟨gb188, 1, none⟩ (.int .i64 ((rd_T105 l0_1 x8_1).f1)))) := ⟨hB⟩
       (try clear BK186)
       (try clear BK188)
       (try clear HB)
       generalize ((w8.setCell ⟨gb188, 0, none⟩ (.int .i64 ((rd_T105 l0_1 x8_1).f0))).setCell ⟨gb188, 1, none⟩ (.int .i64 ((rd_T105 l0_1 x8_1).f1))) = w11 at n0_ n1_ n2_ ⊢
       have BK186 := n0_
       have BK188 := n1_
       have HB := n2_
       clear n0_ n1_ n2_
       replace BK186 := Aside0.mk (blk_drew BK186.out)
       replace BK188 := Aside0.mk (blk_drew BK188.out)
       replace HB := Aside0.mk (below_drew1 HB.out)
       refine start_ (n := 32) (S := fun w' => w'.cell? ⟨gb188, 0, none⟩ = some (.int .i64 ((rd_T105 l0_1 x8_1).f0)) ∧ w'.cell? ⟨gb188, 1, none⟩ = some (.int .i64 ((rd_T105 l0_1 x8_1).f1))) (ds := []) (bz 32 0) (by kernel_rfl) rfl rfl ⟨(blk_cell BK188.out 0).trans rfl, (blk_cell BK188.out 1).trans rfl⟩ (fun hHeld => ?_); refine with_tabW impl_IsParty.tab4 impl_IsParty.bits4 (fun HT_ HW_ => ?_)
       generalize w11.drew = w12 at BK186 BK188 HB hHeld ⊢
       refine run_ [(0, 0, 1, some 13), (1, 1, 3, some 14), (0, 2, 7, some 15), (0, 3, 15, some 16), (2, 4, 31, some 17), (2, 5, 63, some 18), (2, 6, 127, some 19), (2, 7, 255, some 20), (2, 8, 511, some 21), (0, 9, 1023, some 22), (0, 10, 2047, some 23), (2, 11, 4095, some 24), (2, 12, 8191, some 25), (2, 13, 16383, some 26), (2, 14, 32767, some 27), (2, 15, 65535, some 28), (0, 16, 131071, some 29), (0, 17, 262143, some 30), (2, 18, 524287, some 31), (2, 19, 1048575, some 32), (2, 20, 2097151, some 33), (2, 21, 4194303, some 34), (2, 22, 8388607, some 35), (2, 23, 16777215, some 36), (2, 24, 33554431, some 37), (2, 25, 67108863, some 38), (2, 26, 134217727, some 39), (2, 27, 268435455, some 40), (2, 28, 536870911, some 41), (2, 29, 1073741823, some 42), (2, 30, 2147483647, some 43), (0, 31, 4294967295, some 44)] ?_
       repeat (first | (apply tag0; refine run_p (v := ?_) (a' := ?_) rfl rfl (any_of HT_.out (by kernel_rfl)) (fun _ _ _ h => h) (by rfl) ?_ ?_ ?_; rotate_left 2; (intro w'; go_simp; with_reducible rfl); (first | (simp only [Act.put, List.setIfInBounds_toArray, List.set_cons_zero, List.set_cons_succ, i64_w, i32_w]; rfl) | rfl)) | (apply tag1; refine run_t (v := ?_) (a' := ?_) rfl rfl (take_ofW HT_.out HW_.out (by kernel_rfl)) (fun _ _ _ h => h) (by rfl) ?_ hHeld ?_ ?_; rotate_left 2; (rintro w' ⟨s0, s1⟩; go_simp; with_reducible rfl); (first | (simp only [Act.put, List.setIfInBounds_toArray, List.set_cons_zero, List.set_cons_succ, i64_w, i32_w]; rfl) | rfl)) | (apply tag2; refine run_o (a' := ?_) rfl rfl (any_of HT_.out (by kernel_rfl)) (fun _ _ _ h => h) (by rfl) ?_ ?_; rotate_left; (first | (simp only [Act.put, List.setIfInBounds_toArray, List.set_cons_zero, List.set_cons_succ, i64_w, i32_w]; rfl) | rfl)))
       refine run_nil ?_
       refine done_ (done_of HT_.out (by kernel_rfl)) ?_
       try go_wp2
       go_ret
       exact ⟨by first | rfl | (simp [errW_none, errW_some] <;> rfl) | (simp [*, errW_none, errW_some] <;> rfl), hB⟩
      ·rw [if_neg c7] at H
       have c7b0 : decide (((rd_T105 l0_1 x8_1).f0) < 0) = false := decide_eq_false c7
       clear c7
       by_cases c13 : ((rd_T105 l0_1 x8_1).f0) ≥ ((rd_T105 l0_1 x8_1).f1)
       ·rw [if_pos c13] at H
        have c13b0 : decide (((rd_T105 l0_1 x8_1).f1) ≤ ((rd_T105 l0_1 x8_1).f0)) = true := decide_eq_true c13
        clear c13
        obtain rfl := Option.some.inj H
        have p187 : 0 ≤ (x8_1 : Int) := of_decide_eq_true (by first | (with_reducible assumption) | assumption)
        have q187 : x8_1 < (l0_1.length : Int) := of_decide_eq_true (by first | (with_reducible assumption) | assumption)
        obtain ⟨ad187, e187, hx187_0, hx187_1⟩ := at_T105 HR0_1.out x8_1 p187 q187
        cases e187
        replace hx187_0 := (HB.out.cell (World.block_lt_of_cell? w _ hx187_0)).trans hx187_0
        replace hx187_1 := (HB.out.cell (World.block_lt_of_cell? w _ hx187_1)).trans hx187_1
        replace p187 := eq_true p187
        replace q187 := eq_true q187
        try go_wp2_with (first | ((with_reducible refine gate_dst (N := 4) rfl ?_); refine bxE 4 #[.int .i64 0, .int .i64 0] 105 rfl ?_; intro gb188 hg w14 hbox hb; have BK188 := Aside0.mk (hbox); have GW188 := gS HB hg; have GE188 := gS HB hg; have NB186_188 := nL BK186 hg; have NB188_186 := nG BK186 hg; replace BK186 := bS BK186 hb; replace HB := hS HB hb; clear hb hbox hg; have hnb15 := NB188_186.out; have hnc15 := NB186_188.out; have hcz16_0 := cz BK188 0; have hcz16_1 := cz BK188 1; have hfz16_0 := fz BK188 0; have hfz16_1 := fz BK188 1))
        have n0_ : Aside0 (((w14.setCell ⟨gb188, 0, none⟩ (.int .i64 ((rd_T105 l0_1 x8_1).f0))).setCell ⟨gb188, 1, none⟩ (.int .i64 ((rd_T105 l0_1 x8_1).f1))).heap[gb186]? = some (.cells #[.int .i64 a0_0, .slice (some ad187) l0_1.length c0_1] 33 (0, 0))) := ⟨by (with_reducible repeat (first | refine blk_drewN ?_ _ | refine blk_drew ?_ | refine blk_alloc ?_ _)); refine blk_far ?_ NB186_188.out _; (with_reducible repeat (first | refine blk_drewN ?_ _ | refine blk_drew ?_ | refine blk_alloc ?_ _)); refine blk_far ?_ NB186_188.out _; (with_reducible repeat (first | refine blk_drewN ?_ _ | refine blk_drew ?_ | refine blk_alloc ?_ _)); exact BK186.out⟩
        have n1_ : Aside0 (((w14.setCell ⟨gb188, 0, none⟩ (.int .i64 ((rd_T105 l0_1 x8_1).f0))).setCell ⟨gb188, 1, none⟩ (.int .i64 ((rd_T105 l0_1 x8_1).f1))).heap[gb188]? = some (.cells #[.int .i64 ((rd_T105 l0_1 x8_1).f0), .int .i64 ((rd_T105 l0_1 x8_1).f1)] 105 (0, 0))) := ⟨by (with_reducible repeat (first | refine blk_drewN ?_ _ | refine blk_drew ?_ | refine blk_alloc ?_ _)); refine blk_put (cs := #[.int .i64 ((rd_T105 l0_1 x8_1).f0), .int .i64 0]) ?_ 1 _ rfl; (with_reducible repeat (first | refine blk_drewN ?_ _ | refine blk_drew ?_ | refine blk_alloc ?_ _)); refine blk_put (cs := #[.int .i64 0, .int .i64 0]) ?_ 0 _ rfl; (with_reducible repeat (first | refine blk_drewN ?_ _ | refine blk_drew ?_ | refine blk_alloc ?_ _)); exact BK188.out⟩
        have n2_ : Aside0 (Below w.heap.size w ((w14.setCell ⟨gb188, 0, none⟩ (.int .i64 ((rd_T105 l0_1 x8_1).f0))).setCell ⟨gb188, 1, none⟩ (.int .i64 ((rd_T105 l0_1 x8_1).f1)))) := ⟨hB⟩
        (try clear BK186)
        (try clear BK188)
        (try clear HB)
        generalize ((w14.setCell ⟨gb188, 0, none⟩ (.int .i64 ((rd_T105 l0_1 x8_1).f0))).setCell ⟨gb188, 1, none⟩ (.int .i64 ((rd_T105 l0_1 x8_1).f1))) = w17 at n0_ n1_ n2_ ⊢
        have BK186 := n0_
        have BK188 := n1_
        have HB := n2_
        clear n0_ n1_ n2_
        replace BK186 := Aside0.mk (blk_drew BK186.out)
        replace BK188 := Aside0.mk (blk_drew BK188.out)
        replace HB := Aside0.mk (below_drew1 HB.out)
        refine start_ (n := 32) (S := fun w' => w'.cell? ⟨gb188, 0, none⟩ = some (.int .i64 ((rd_T105 l0_1 x8_1).f0)) ∧ w'.cell? ⟨gb188, 1, none⟩ = some (.int .i64 ((rd_T105 l0_1 x8_1).f1))) (ds := []) (bz 32 0) (by kernel_rfl) rfl rfl ⟨(blk_cell BK188.out 0).trans rfl, (blk_cell BK188.out 1).trans rfl⟩ (fun hHeld => ?_); refine with_tabW impl_IsParty.tab4 impl_IsParty.bits4 (fun HT_ HW_ => ?_)
        generalize w17.drew = w18 at BK186 BK188 HB hHeld ⊢
        refine run_ [(0, 0, 1, some 13), (1, 1, 3, some 14), (0, 2, 7, some 15), (0, 3, 15, some 16), (0, 4, 31, some 17), (0, 6, 95, some 19), (1, 5, 127, some 18), (1, 7, 255, some 20), (0, 8, 511, some 21), (0, 9, 1023, some 22), (0, 10, 2047, some 23), (2, 11, 4095, some 24), (2, 12, 8191, some 25), (2, 13, 16383, some 26), (2, 14, 32767, some 27), (2, 15, 65535, some 28), (0, 16, 131071, some 29), (0, 17, 262143, some 30), (2, 18, 524287, some 31), (2, 19, 1048575, some 32), (2, 20, 2097151, some 33), (2, 21, 4194303, some 34), (2, 22, 8388607, some 35), (2, 23, 16777215, some 36), (2, 24, 33554431, some 37), (2, 25, 67108863, some 38), (2, 26, 134217727, some 39), (2, 27, 268435455, some 40), (2, 28, 536870911, some 41), (2, 29, 1073741823, some 42), (2, 30, 2147483647, some 43), (0, 31, 4294967295, some 44)] ?_
        repeat (first | (apply tag0; refine run_p (v := ?_) (a' := ?_) rfl rfl (any_of HT_.out (by kernel_rfl)) (fun _ _ _ h => h) (by rfl) ?_ ?_ ?_; rotate_left 2; (intro w'; go_simp; with_reducible rfl); (first | (simp only [Act.put, List.setIfInBounds_toArray, List.set_cons_zero, List.set_cons_succ, i64_w, i32_w]; rfl) | rfl)) | (apply tag1; refine run_t (v := ?_) (a' := ?_) rfl rfl (take_ofW HT_.out HW_.out (by kernel_rfl)) (fun _ _ _ h => h) (by rfl) ?_ hHeld ?_ ?_; rotate_left 2; (rintro w' ⟨s0, s1⟩; go_simp; with_reducible rfl); (first | (simp only [Act.put, List.setIfInBounds_toArray, List.set_cons_zero, List.set_cons_succ, i64_w, i32_w]; rfl) | rfl)) | (apply tag2; refine run_o (a' := ?_) rfl rfl (any_of HT_.out (by kernel_rfl)) (fun _ _ _ h => h) (by rfl) ?_ ?_; rotate_left; (first | (simp only [Act.put, List.setIfInBounds_toArray, List.set_cons_zero, List.set_cons_succ, i64_w, i32_w]; rfl) | rfl)))
        refine run_nil ?_
        refine done_ (done_of HT_.out (by kernel_rfl)) ?_
        try go_wp2
        go_ret
        exact ⟨by first | rfl | (simp [errW_none, errW_some] <;> rfl) | (simp [*, errW_none, errW_some] <;> rfl), hB⟩
       ·rw [if_neg c13] at H
        have c13b0 : decide (((rd_T105 l0_1 x8_1).f1) ≤ ((rd_T105 l0_1 x8_1).f0)) = false := decide_eq_false c13
        clear c13
        by_cases c19 : ((rd_T105 l0_1 x8_1).f1) ≥ a0_0
        ·rw [if_pos c19] at H
         have c19b0 : decide (a0_0 ≤ ((rd_T105 l0_1 x8_1).f1)) = true := decide_eq_true c19
         clear c19
         obtain rfl := Option.some.inj H
         have p187 : 0 ≤ (x8_1 : Int) := of_decide_eq_true (by first | (with_reducible assumption) | assumption)
         have q187 : x8_1 < (l0_1.length : Int) := of_decide_eq_true (by first | (with_reducible assumption) | assumption)
         obtain ⟨ad187, e187, hx187_0, hx187_1⟩ := at_T105 HR0_1.out x8_1 p187 q187
         cases e187
         replace hx187_0 := (HB.out.cell (World.block_lt_of_cell? w _ hx187_0)).trans hx187_0
         replace hx187_1 := (HB.out.cell (World.block_lt_of_cell? w _ hx187_1)).trans hx187_1
         replace p187 := eq_true p187
         replace q187 := eq_true q187
         try go_wp2_with (first | ((with_reducible refine gate_dst (N := 4) rfl ?_); refine bxE 4 #[.int .i64 0, .int .i64 0] 105 rfl ?_; intro gb188 hg w20 hbox hb; have BK188 := Aside0.mk (hbox); have GW188 := gS HB hg; have GE188 := gS HB hg; have NB186_188 := nL BK186 hg; have NB188_186 := nG BK186 hg; replace BK186 := bS BK186 hb; replace HB := hS HB hb; clear hb hbox hg; have hnb21 := NB188_186.out; have hnc21 := NB186_188.out; have hcz22_0 := cz BK188 0; have hcz22_1 := cz BK188 1; have hfz22_0 := fz BK188 0; have hfz22_1 := fz BK188 1))
         have n0_ : Aside0 (((w20.setCell ⟨gb188, 0, none⟩ (.int .i64 ((rd_T105 l0_1 x8_1).f0))).setCell ⟨gb188, 1, none⟩ (.int .i64 ((rd_T105 l0_1 x8_1).f1))).heap[gb186]? = some (.cells #[.int .i64 a0_0, .slice (some ad187) l0_1.length c0_1] 33 (0, 0))) := ⟨by (with_reducible repeat (first | refine blk_drewN ?_ _ | refine blk_drew ?_ | refine blk_alloc ?_ _)); refine blk_far ?_ NB186_188.out _; (with_reducible repeat (first | refine blk_drewN ?_ _ | refine blk_drew ?_ | refine blk_alloc ?_ _)); refine blk_far ?_ NB186_188.out _; (with_reducible repeat (first | refine blk_drewN ?_ _ | refine blk_drew ?_ | refine blk_alloc ?_ _)); exact BK186.out⟩
         have n1_ : Aside0 (((w20.setCell ⟨gb188, 0, none⟩ (.int .i64 ((rd_T105 l0_1 x8_1).f0))).setCell ⟨gb188, 1, none⟩ (.int .i64 ((rd_T105 l0_1 x8_1).f1))).heap[gb188]? = some (.cells #[.int .i64 ((rd_T105 l0_1 x8_1).f0), .int .i64 ((rd_T105 l0_1 x8_1).f1)] 105 (0, 0))) := ⟨by (with_reducible repeat (first | refine blk_drewN ?_ _ | refine blk_drew ?_ | refine blk_alloc ?_ _)); refine blk_put (cs := #[.int .i64 ((rd_T105 l0_1 x8_1).f0), .int .i64 0]) ?_ 1 _ rfl; (with_reducible repeat (first | refine blk_drewN ?_ _ | refine blk_drew ?_ | refine blk_alloc ?_ _)); refine blk_put (cs := #[.int .i64 0, .int .i64 0]) ?_ 0 _ rfl; (with_reducible repeat (first | refine blk_drewN ?_ _ | refine blk_drew ?_ | refine blk_alloc ?_ _)); exact BK188.out⟩
         have n2_ : Aside0 (Below w.heap.size w ((w20.setCell ⟨gb188, 0, none⟩ (.int .i64 ((rd_T105 l0_1 x8_1).f0))).setCell ⟨gb188, 1, none⟩ (.int .i64 ((rd_T105 l0_1 x8_1).f1)))) := ⟨hB⟩
         (try clear BK186)
         (try clear BK188)
         (try clear HB)
         generalize ((w20.setCell ⟨gb188, 0, none⟩ (.int .i64 ((rd_T105 l0_1 x8_1).f0))).setCell ⟨gb188, 1, none⟩ (.int .i64 ((rd_T105 l0_1 x8_1).f1))) = w23 at n0_ n1_ n2_ ⊢
         have BK186 := n0_
         have BK188 := n1_
         have HB := n2_
         clear n0_ n1_ n2_
         replace BK186 := Aside0.mk (blk_drew BK186.out)
         replace BK188 := Aside0.mk (blk_drew BK188.out)
         replace HB := Aside0.mk (below_drew1 HB.out)
         refine start_ (n := 32) (S := fun w' => w'.cell? ⟨gb188, 0, none⟩ = some (.int .i64 ((rd_T105 l0_1 x8_1).f0)) ∧ w'.cell? ⟨gb188, 1, none⟩ = some (.int .i64 ((rd_T105 l0_1 x8_1).f1)) ∧ w'.cell? ⟨gb186, 0, none⟩ = some (.int .i64 a0_0) ∧ w'.cell? ⟨gb186, 1, none⟩ = some (.slice (some ad187) l0_1.length c0_1)) (ds := []) (bz 32 0) (by kernel_rfl) rfl rfl ⟨(blk_cell BK188.out 0).trans rfl, (blk_cell BK188.out 1).trans rfl, (blk_cell BK186.out 0).trans rfl, (blk_cell BK186.out 1).trans rfl⟩ (fun hHeld => ?_); refine with_tabW impl_IsParty.tab4 impl_IsParty.bits4 (fun HT_ HW_ => ?_)
         generalize w23.drew = w24 at BK186 BK188 HB hHeld ⊢
         refine run_ [(0, 0, 1, some 13), (1, 1, 3, some 14), (0, 2, 7, some 15), (0, 3, 15, some 16), (0, 4, 31, some 17), (0, 6, 95, some 19), (1, 5, 127, some 18), (1, 7, 255, some 20), (0, 8, 511, some 21), (0, 9, 1023, some 22), (0, 10, 2047, some 23), (0, 11, 4095, some 24), (0, 13, 12287, some 26), (1, 12, 16383, some 25), (1, 14, 32767, some 27), (0, 15, 65535, some 28), (0, 16, 131071, some 29), (0, 17, 262143, some 30), (2, 18, 524287, some 31), (2, 19, 1048575, some 32), (2, 20, 2097151, some 33), (2, 21, 4194303, some 34), (2, 22, 8388607, some 35), (2, 23, 16777215, some 36), (2, 24, 33554431, some 37), (2, 25, 67108863, some 38), (2, 26, 134217727, some 39), (2, 27, 268435455, some 40), (2, 28, 536870911, some 41), (2, 29, 1073741823, some 42), (2, 30, 2147483647, some 43), (0, 31, 4294967295, some 44)] ?_
         repeat (first | (apply tag0; refine run_p (v := ?_) (a' := ?_) rfl rfl (any_of HT_.out (by kernel_rfl)) (fun _ _ _ h => h) (by rfl) ?_ ?_ ?_; rotate_left 2; (intro w'; go_simp; with_reducible rfl); (first | (simp only [Act.put, List.setIfInBounds_toArray, List.set_cons_zero, List.set_cons_succ, i64_w, i32_w]; rfl) | rfl)) | (apply tag1; refine run_t (v := ?_) (a' := ?_) rfl rfl (take_ofW HT_.out HW_.out (by kernel_rfl)) (fun _ _ _ h => h) (by rfl) ?_ hHeld ?_ ?_; rotate_left 2; (rintro w' ⟨s0, s1, s2, s3⟩; go_simp; with_reducible rfl); (first | (simp only [Act.put, List.setIfInBounds_toArray, List.set_cons_zero, List.set_cons_succ, i64_w, i32_w]; rfl) | rfl)) | (apply tag2; refine run_o (a' := ?_) rfl rfl (any_of HT_.out (by kernel_rfl)) (fun _ _ _ h => h) (by rfl) ?_ ?_; rotate_left; (first | (simp only [Act.put, List.setIfInBounds_toArray, List.set_cons_zero, List.set_cons_succ, i64_w, i32_w]; rfl) | rfl)))
         refine run_nil ?_
         refine done_ (done_of HT_.out (by kernel_rfl)) ?_
         try go_wp2
         go_ret
         exact ⟨by first | rfl | (simp [errW_none, errW_some] <;> rfl) | (simp [*, errW_none, errW_some] <;> rfl), hB⟩
        ·rw [if_neg c19] at H
         have c19b0 : decide (a0_0 ≤ ((rd_T105 l0_1 x8_1).f1)) = false := decide_eq_false c19
         clear c19
         by_cases c25 : x8_1 > 0
         ·rw [if_pos c25] at H
          have c25b0 : decide (0 < x8_1) = true := decide_eq_true c25
          clear c25
          obtain ⟨ji26, hji26⟩ : ∃ j_ : Int, (wrap64 (x8_1 - 1)) = j_ := ⟨_, rfl⟩
          replace H : (if 0 ≤ (ji26) then (if (ji26) < (l0_1.length : Int) then ((impl_comparePairs.f k1 ((rd_T105 l0_1 (ji26)).f0) ((rd_T105 l0_1 (ji26)).f1) ((rd_T105 l0_1 x8_1).f0) ((rd_T105 l0_1 x8_1).f1)).bind fun t190 => (if t190 ≥ 0 then (some false) else (impl_IsParty.l0 k1 l0_1 (l0_1.length : Int) (wrap64 (x8_1 + 1)) a0_0 l0_1))) else (none)) else (none)) = some r := by first | (rw [hji26] at H; exact H) | (simp only [hji26] at H ⊢; exact H)
          have hji26w : (IntKind.i64.wrap (x8_1 - 1)) = ji26 := (i64_w _).trans hji26
          by_cases c27 : 0 ≤ (ji26)
          ·rw [if_pos c27] at H
           have c27b0 : decide (0 ≤ (ji26)) = true := decide_eq_true c27
           clear c27
           by_cases c28 : (ji26) < (l0_1.length : Int)
           ·rw [if_pos c28] at H
            have c28b0 : decide ((ji26) < (l0_1.length : Int)) = true := decide_eq_true c28
            clear c28
            replace H := Option.bind_eq_some_iff.mp H
            obtain ⟨t190, A290, H⟩ := H
            try dsimp only at H
            have A29 := Aside0.mk A290
            clear A290
            by_cases c30 : t190 ≥ 0
            ·rw [if_pos c30] at H
             have c30b0 : decide (0 ≤ t190) = true := decide_eq_true c30
             clear c30
             obtain rfl := Option.some.inj H
             have p187 : 0 ≤ (x8_1 : Int) := of_decide_eq_true (by first | (with_reducible assumption) | assumption)
             have q187 : x8_1 < (l0_1.length : Int) := of_decide_eq_true (by first | (with_reducible assumption) | assumption)
             obtain ⟨ad187, e187, hx187_0, hx187_1⟩ := at_T105 HR0_1.out x8_1 p187 q187
             cases e187
             replace hx187_0 := (HB.out.cell (World.block_lt_of_cell? w _ hx187_0)).trans hx187_0
             replace hx187_1 := (HB.out.cell (World.block_lt_of_cell? w _ hx187_1)).trans hx187_1
             replace p187 := eq_true p187
             replace q187 := eq_true q187
             try go_wp2_with (first | ((with_reducible refine gate_dst (N := 4) rfl ?_); refine bxE 4 #[.int .i64 0, .int .i64 0] 105 rfl ?_; intro gb188 hg w31 hbox hb; have BK188 := Aside0.mk (hbox); have GW188 := gS HB hg; have GE188 := gS HB hg; have NB186_188 := nL BK186 hg; have NB188_186 := nG BK186 hg; replace BK186 := bS BK186 hb; replace HB := hS HB hb; clear hb hbox hg; have hnb32 := NB188_186.out; have hnc32 := NB186_188.out; have hcz33_0 := cz BK188 0; have hcz33_1 := cz BK188 1; have hfz33_0 := fz BK188 0; have hfz33_1 := fz BK188 1))
             have n0_ : Aside0 (((w31.setCell ⟨gb188, 0, none⟩ (.int .i64 ((rd_T105 l0_1 x8_1).f0))).setCell ⟨gb188, 1, none⟩ (.int .i64 ((rd_T105 l0_1 x8_1).f1))).heap[gb186]? = some (.cells #[.int .i64 a0_0, .slice (some ad187) l0_1.length c0_1] 33 (0, 0))) := ⟨by (with_reducible repeat (first | refine blk_drewN ?_ _ | refine blk_drew ?_ | refine blk_alloc ?_ _)); refine blk_far ?_ NB186_188.out _; (with_reducible repeat (first | refine blk_drewN ?_ _ | refine blk_drew ?_ | refine blk_alloc ?_ _)); refine blk_far ?_ NB186_188.out _; (with_reducible repeat (first | refine blk_drewN ?_ _ | refine blk_drew ?_ | refine blk_alloc ?_ _)); exact BK186.out⟩
             have n1_ : Aside0 (((w31.setCell ⟨gb188, 0, none⟩ (.int .i64 ((rd_T105 l0_1 x8_1).f0))).setCell ⟨gb188, 1, none⟩ (.int .i64 ((rd_T105 l0_1 x8_1).f1))).heap[gb188]? = some (.cells #[.int .i64 ((rd_T105 l0_1 x8_1).f0), .int .i64 ((rd_T105 l0_1 x8_1).f1)] 105 (0, 0))) := ⟨by (with_reducible repeat (first | refine blk_drewN ?_ _ | refine blk_drew ?_ | refine blk_alloc ?_ _)); refine blk_put (cs := #[.int .i64 ((rd_T105 l0_1 x8_1).f0), .int .i64 0]) ?_ 1 _ rfl; (with_reducible repeat (first | refine blk_drewN ?_ _ | refine blk_drew ?_ | refine blk_alloc ?_ _)); refine blk_put (cs := #[.int .i64 0, .int .i64 0]) ?_ 0 _ rfl; (with_reducible repeat (first | refine blk_drewN ?_ _ | refine blk_drew ?_ | refine blk_alloc ?_ _)); exact BK188.out⟩
             have n2_ : Aside0 (Below w.heap.size w ((w31.setCell ⟨gb188, 0, none⟩ (.int .i64 ((rd_T105 l0_1 x8_1).f0))).setCell ⟨gb188, 1, none⟩ (.int .i64 ((rd_T105 l0_1 x8_1).f1)))) := ⟨hB⟩
             (try clear BK186)
             (try clear BK188)
             (try clear HB)
             generalize ((w31.setCell ⟨gb188, 0, none⟩ (.int .i64 ((rd_T105 l0_1 x8_1).f0))).setCell ⟨gb188, 1, none⟩ (.int .i64 ((rd_T105 l0_1 x8_1).f1))) = w34 at n0_ n1_ n2_ ⊢
             have BK186 := n0_
             have BK188 := n1_
             have HB := n2_
             clear n0_ n1_ n2_
             replace BK186 := Aside0.mk (blk_drew BK186.out)
             replace BK188 := Aside0.mk (blk_drew BK188.out)
             replace HB := Aside0.mk (below_drew1 HB.out)
             have p189 : 0 ≤ ((ji26) : Int) := of_decide_eq_true (by first | (with_reducible assumption) | assumption)
             have q189 : (ji26) < (l0_1.length : Int) := of_decide_eq_true (by first | (with_reducible assumption) | assumption)
             obtain ⟨ad189, e189, hx189_0, hx189_1⟩ := at_T105 HR0_1.out (ji26) p189 q189
             have hw189_1 := hx189_1
             have hw189_0 := hx189_0
             obtain rfl : ad187 = ad189 := (by injection e189)
             replace hx189_0 := (HB.out.cell (World.block_lt_of_cell? w _ hx189_0)).trans hx189_0
             replace hx189_1 := (HB.out.cell (World.block_lt_of_cell? w _ hx189_1)).trans hx189_1
             replace p189 := eq_true p189
             replace q189 := eq_true q189
             refine start_ (n := 32) (S := fun w' => w'.cell? ⟨gb188, 0, none⟩ = some (.int .i64 ((rd_T105 l0_1 x8_1).f0)) ∧ w'.cell? ⟨gb188, 1, none⟩ = some (.int .i64 ((rd_T105 l0_1 x8_1).f1)) ∧ w'.cell? ⟨gb186, 0, none⟩ = some (.int .i64 a0_0) ∧ w'.cell? ⟨gb186, 1, none⟩ = some (.slice (some ad187) l0_1.length c0_1) ∧ w'.cell? (ad187.add (((ji26)).toNat * 2)) = some (.int .i64 ((rd_T105 l0_1 (ji26)).f0)) ∧ w'.cell? ⟨(ad187.add (((ji26)).toNat * 2)).block, (ad187.add (((ji26)).toNat * 2)).off + 1, none⟩ = some (.int .i64 ((rd_T105 l0_1 (ji26)).f1))) (ds := []) (bz 32 0) (by kernel_rfl) rfl rfl ⟨(blk_cell BK188.out 0).trans rfl, (blk_cell BK188.out 1).trans rfl, (blk_cell BK186.out 0).trans rfl, (blk_cell BK186.out 1).trans rfl, ((HB.out.cell (World.block_lt_of_cell? w _ hw189_0)).trans hw189_0), ((HB.out.cell (World.block_lt_of_cell? w _ hw189_1)).trans hw189_1)⟩ (fun hHeld => ?_); refine with_tabW impl_IsParty.tab4 impl_IsParty.bits4 (fun HT_ HW_ => ?_)
             generalize w34.drew = w35 at BK186 BK188 HB hx189_0 hx189_1 hHeld ⊢
             refine run_ [(0, 0, 1, some 13), (1, 1, 3, some 14), (0, 2, 7, some 15), (0, 3, 15, some 16), (0, 4, 31, some 17), (0, 6, 95, some 19), (1, 5, 127, some 18), (1, 7, 255, some 20), (0, 8, 511, some 21), (0, 9, 1023, some 22), (0, 10, 2047, some 23), (0, 11, 4095, some 24), (0, 13, 12287, some 26), (1, 12, 16383, some 25), (1, 14, 32767, some 27), (0, 15, 65535, some 28), (0, 16, 131071, some 29), (0, 17, 262143, some 30), (0, 18, 524287, some 31), (0, 19, 1048575, some 32), (0, 20, 2097151, some 33), (0, 21, 4194303, some 34), (0, 23, 12582911, some 36), (0, 24, 29360127, some 37), (1, 22, 33554431, some 35), (0, 25, 67108863, some 38), (1, 26, 134217727, some 39), (1, 27, 268435455, some 40)] ?_
             repeat (first | (apply tag0; refine run_p (v := ?_) (a' := ?_) rfl rfl (any_of HT_.out (by kernel_rfl)) (fun _ _ _ h => h) (by rfl) ?_ ?_ ?_; rotate_left 2; (intro w'; go_simp; with_reducible rfl); (first | (simp only [Act.put, List.setIfInBounds_toArray, List.set_cons_zero, List.set_cons_succ, i64_w, i32_w]; rfl) | rfl)) | (apply tag1; refine run_t (v := ?_) (a' := ?_) rfl rfl (take_ofW HT_.out HW_.out (by kernel_rfl)) (fun _ _ _ h => h) (by rfl) ?_ hHeld ?_ ?_; rotate_left 2; (rintro w' ⟨s0, s1, s2, s3, s4, s5⟩; go_simp; with_reducible rfl); (first | (simp only [Act.put, List.setIfInBounds_toArray, List.set_cons_zero, List.set_cons_succ, i64_w, i32_w]; rfl) | rfl)))
             refine run_nil ?_
             refine one_ (i := 28) (N := some 41) (bz 32 536870911) rfl rfl (one_of HT_.out (by kernel_rfl)) (by decide) (fun K hK => ?_)
             refine goes_ Tryd.func119 (by kernel_rfl) rfl #[.agg #[.int .i64 ((rd_T105 l0_1 (ji26)).f0), .int .i64 ((rd_T105 l0_1 (ji26)).f1)], .agg #[.int .i64 ((rd_T105 l0_1 x8_1).f0), .int .i64 ((rd_T105 l0_1 x8_1).f1)]] (by rfl) rfl rfl (by (try simp only [List.map_toArray, List.map_cons, List.map_nil]); first | done | (simp only [hji26]; rfl) | rfl | (simp only [List.length_drop, List.length_take]; rfl)) ?_
             with_reducible refine (impl_comparePairs.calls k1 ((rd_T105 l0_1 (ji26)).f0) ((rd_T105 l0_1 (ji26)).f1) ((rd_T105 l0_1 x8_1).f0) ((rd_T105 l0_1 x8_1).f1) t190 _ A29.out).mono ?_
             rintro e w36 ⟨rfl, hb⟩
             refine ⟨_, rfl, ?_⟩
             replace BK186 := bS BK186 hb
             replace BK188 := bS BK188 hb
             replace HB := hS HB hb
             (try clear hb)
             (try clear hb2)
             (try clear hk)
             (try clear hi)
             refine hK.out _ _ ⟨(blk_cell BK188.out 0).trans rfl, (blk_cell BK188.out 1).trans rfl, (blk_cell BK186.out 0).trans rfl, (blk_cell BK186.out 1).trans rfl, ((HB.out.cell (World.block_lt_of_cell? w _ hw189_0)).trans hw189_0), ((HB.out.cell (World.block_lt_of_cell? w _ hw189_1)).trans hw189_1)⟩ (fun hHeld => ?_)
             clear hK K
             refine norm_ (a' := ?_) ?_ ?_
             rotate_left
             ·show Act.put _ (some 41) _ = _
              simp only [Act.put, List.setIfInBounds_toArray, List.set_cons_zero, List.set_cons_succ, i64_w, i32_w]
              rfl
             refine run_ [(0, 29, 1073741823, some 42), (0, 30, 2147483647, some 43), (0, 31, 4294967295, some 44)] ?_
             repeat ((apply tag0; refine run_p (v := ?_) (a' := ?_) rfl rfl (any_of HT_.out (by kernel_rfl)) (fun _ _ _ h => h) (by rfl) ?_ ?_ ?_; rotate_left 2; (intro w'; go_simp; with_reducible rfl); (first | (simp only [Act.put, List.setIfInBounds_toArray, List.set_cons_zero, List.set_cons_succ, i64_w, i32_w]; rfl) | rfl)))
             refine run_nil ?_
             refine done_ (done_of HT_.out (by kernel_rfl)) ?_
             try go_wp2
             go_ret
             exact ⟨by first | rfl | (simp [errW_none, errW_some] <;> rfl) | (simp only [← hji26]; first | rfl | (simp [errW_none, errW_some] <;> rfl)) | (simp [*, errW_none, errW_some] <;> rfl), hB⟩
            ·rw [if_neg c30] at H
             have c30b0 : decide (0 ≤ t190) = false := decide_eq_false c30
             clear c30
             have H' := Aside0.mk H
             clear H
             have p187 : 0 ≤ (x8_1 : Int) := of_decide_eq_true (by first | (with_reducible assumption) | assumption)
             have q187 : x8_1 < (l0_1.length : Int) := of_decide_eq_true (by first | (with_reducible assumption) | assumption)
             obtain ⟨ad187, e187, hx187_0, hx187_1⟩ := at_T105 HR0_1.out x8_1 p187 q187
             cases e187
             replace hx187_0 := (HB.out.cell (World.block_lt_of_cell? w _ hx187_0)).trans hx187_0
             replace hx187_1 := (HB.out.cell (World.block_lt_of_cell? w _ hx187_1)).trans hx187_1
             replace p187 := eq_true p187
             replace q187 := eq_true q187
             try go_wp2_with (first | ((with_reducible refine gate_dst (N := 4) rfl ?_); refine bxE 4 #[.int .i64 0, .int .i64 0] 105 rfl ?_; intro gb188 hg w37 hbox hb; have BK188 := Aside0.mk (hbox); have GW188 := gS HB hg; have GE188 := gS HB hg; have NB186_188 := nL BK186 hg; have NB188_186 := nG BK186 hg; replace BK186 := bS BK186 hb; replace HB := hS HB hb; clear hb hbox hg; have hnb38 := NB188_186.out; have hnc38 := NB186_188.out; have hcz39_0 := cz BK188 0; have hcz39_1 := cz BK188 1; have hfz39_0 := fz BK188 0; have hfz39_1 := fz BK188 1))
             have n0_ : Aside0 (((w37.setCell ⟨gb188, 0, none⟩ (.int .i64 ((rd_T105 l0_1 x8_1).f0))).setCell ⟨gb188, 1, none⟩ (.int .i64 ((rd_T105 l0_1 x8_1).f1))).heap[gb186]? = some (.cells #[.int .i64 a0_0, .slice (some ad187) l0_1.length c0_1] 33 (0, 0))) := ⟨by (with_reducible repeat (first | refine blk_drewN ?_ _ | refine blk_drew ?_ | refine blk_alloc ?_ _)); refine blk_far ?_ NB186_188.out _; (with_reducible repeat (first | refine blk_drewN ?_ _ | refine blk_drew ?_ | refine blk_alloc ?_ _)); refine blk_far ?_ NB186_188.out _; (with_reducible repeat (first | refine blk_drewN ?_ _ | refine blk_drew ?_ | refine blk_alloc ?_ _)); exact BK186.out⟩
             have n1_ : Aside0 (((w37.setCell ⟨gb188, 0, none⟩ (.int .i64 ((rd_T105 l0_1 x8_1).f0))).setCell ⟨gb188, 1, none⟩ (.int .i64 ((rd_T105 l0_1 x8_1).f1))).heap[gb188]? = some (.cells #[.int .i64 ((rd_T105 l0_1 x8_1).f0), .int .i64 ((rd_T105 l0_1 x8_1).f1)] 105 (0, 0))) := ⟨by (with_reducible repeat (first | refine blk_drewN ?_ _ | refine blk_drew ?_ | refine blk_alloc ?_ _)); refine blk_put (cs := #[.int .i64 ((rd_T105 l0_1 x8_1).f0), .int .i64 0]) ?_ 1 _ rfl; (with_reducible repeat (first | refine blk_drewN ?_ _ | refine blk_drew ?_ | refine blk_alloc ?_ _)); refine blk_put (cs := #[.int .i64 0, .int .i64 0]) ?_ 0 _ rfl; (with_reducible repeat (first | refine blk_drewN ?_ _ | refine blk_drew ?_ | refine blk_alloc ?_ _)); exact BK188.out⟩
             have n2_ : Aside0 (Below w.heap.size w ((w37.setCell ⟨gb188, 0, none⟩ (.int .i64 ((rd_T105 l0_1 x8_1).f0))).setCell ⟨gb188, 1, none⟩ (.int .i64 ((rd_T105 l0_1 x8_1).f1)))) := ⟨hB⟩
             (try clear BK186)
             (try clear BK188)
             (try clear HB)
             generalize ((w37.setCell ⟨gb188, 0, none⟩ (.int .i64 ((rd_T105 l0_1 x8_1).f0))).setCell ⟨gb188, 1, none⟩ (.int .i64 ((rd_T105 l0_1 x8_1).f1))) = w40 at n0_ n1_ n2_ ⊢
             have BK186 := n0_
             have BK188 := n1_
             have HB := n2_
             clear n0_ n1_ n2_
             replace BK186 := Aside0.mk (blk_drew BK186.out)
             replace BK188 := Aside0.mk (blk_drew BK188.out)
             replace HB := Aside0.mk (below_drew1 HB.out)
             have p189 : 0 ≤ ((ji26) : Int) := of_decide_eq_true (by first | (with_reducible assumption) | assumption)
             have q189 : (ji26) < (l0_1.length : Int) := of_decide_eq_true (by first | (with_reducible assumption) | assumption)
             obtain ⟨ad189, e189, hx189_0, hx189_1⟩ := at_T105 HR0_1.out (ji26) p189 q189
             have hw189_1 := hx189_1
             have hw189_0 := hx189_0
             obtain rfl : ad187 = ad189 := (by injection e189)
             replace hx189_0 := (HB.out.cell (World.block_lt_of_cell? w _ hx189_0)).trans hx189_0
             replace hx189_1 := (HB.out.cell (World.block_lt_of_cell? w _ hx189_1)).trans hx189_1
             replace p189 := eq_true p189
             replace q189 := eq_true q189
             refine start_ (n := 32) (S := fun w' => w'.cell? ⟨gb188, 0, none⟩ = some (.int .i64 ((rd_T105 l0_1 x8_1).f0)) ∧ w'.cell? ⟨gb188, 1, none⟩ = some (.int .i64 ((rd_T105 l0_1 x8_1).f1)) ∧ w'.cell? ⟨gb186, 0, none⟩ = some (.int .i64 a0_0) ∧ w'.cell? ⟨gb186, 1, none⟩ = some (.slice (some ad187) l0_1.length c0_1) ∧ w'.cell? (ad187.add (((ji26)).toNat * 2)) = some (.int .i64 ((rd_T105 l0_1 (ji26)).f0)) ∧ w'.cell? ⟨(ad187.add (((ji26)).toNat * 2)).block, (ad187.add (((ji26)).toNat * 2)).off + 1, none⟩ = some (.int .i64 ((rd_T105 l0_1 (ji26)).f1))) (ds := []) (bz 32 0) (by kernel_rfl) rfl rfl ⟨(blk_cell BK188.out 0).trans rfl, (blk_cell BK188.out 1).trans rfl, (blk_cell BK186.out 0).trans rfl, (blk_cell BK186.out 1).trans rfl, ((HB.out.cell (World.block_lt_of_cell? w _ hw189_0)).trans hw189_0), ((HB.out.cell (World.block_lt_of_cell? w _ hw189_1)).trans hw189_1)⟩ (fun hHeld => ?_); refine with_tabW impl_IsParty.tab4 impl_IsParty.bits4 (fun HT_ HW_ => ?_)
             generalize w40.drew = w41 at BK186 BK188 HB hx189_0 hx189_1 hHeld ⊢
             refine run_ [(0, 0, 1, some 13), (1, 1, 3, some 14), (0, 2, 7, some 15), (0, 3, 15, some 16), (0, 4, 31, some 17), (0, 6, 95, some 19), (1, 5, 127, some 18), (1, 7, 255, some 20), (0, 8, 511, some 21), (0, 9, 1023, some 22), (0, 10, 2047, some 23), (0, 11, 4095, some 24), (0, 13, 12287, some 26), (1, 12, 16383, some 25), (1, 14, 32767, some 27), (0, 15, 65535, some 28), (0, 16, 131071, some 29), (0, 17, 262143, some 30), (0, 18, 524287, some 31), (0, 19, 1048575, some 32), (0, 20, 2097151, some 33), (0, 21, 4194303, some 34), (0, 23, 12582911, some 36), (0, 24, 29360127, some 37), (1, 22, 33554431, some 35), (0, 25, 67108863, some 38), (1, 26, 134217727, some 39), (1, 27, 268435455, some 40)] ?_
             repeat (first | (apply tag0; refine run_p (v := ?_) (a' := ?_) rfl rfl (any_of HT_.out (by kernel_rfl)) (fun _ _ _ h => h) (by rfl) ?_ ?_ ?_; rotate_left 2; (intro w'; go_simp; with_reducible rfl); (first | (simp only [Act.put, List.setIfInBounds_toArray, List.set_cons_zero, List.set_cons_succ, i64_w, i32_w]; rfl) | rfl)) | (apply tag1; refine run_t (v := ?_) (a' := ?_) rfl rfl (take_ofW HT_.out HW_.out (by kernel_rfl)) (fun _ _ _ h => h) (by rfl) ?_ hHeld ?_ ?_; rotate_left 2; (rintro w' ⟨s0, s1, s2, s3, s4, s5⟩; go_simp; with_reducible rfl); (first | (simp only [Act.put, List.setIfInBounds_toArray, List.set_cons_zero, List.set_cons_succ, i64_w, i32_w]; rfl) | rfl)))
             refine run_nil ?_
             refine one_ (i := 28) (N := some 41) (bz 32 536870911) rfl rfl (one_of HT_.out (by kernel_rfl)) (by decide) (fun K hK => ?_)
             refine goes_ Tryd.func119 (by kernel_rfl) rfl #[.agg #[.int .i64 ((rd_T105 l0_1 (ji26)).f0), .int .i64 ((rd_T105 l0_1 (ji26)).f1)], .agg #[.int .i64 ((rd_T105 l0_1 x8_1).f0), .int .i64 ((rd_T105 l0_1 x8_1).f1)]] (by rfl) rfl rfl (by (try simp only [List.map_toArray, List.map_cons, List.map_nil]); first | done | (simp only [hji26]; rfl) | rfl | (simp only [List.length_drop, List.length_take]; rfl)) ?_
             with_reducible refine (impl_comparePairs.calls k1 ((rd_T105 l0_1 (ji26)).f0) ((rd_T105 l0_1 (ji26)).f1) ((rd_T105 l0_1 x8_1).f0) ((rd_T105 l0_1 x8_1).f1) t190 _ A29.out).mono ?_
             rintro e w42 ⟨rfl, hb⟩
             refine ⟨_, rfl, ?_⟩
             replace BK186 := bS BK186 hb
             replace BK188 := bS BK188 hb
             replace HB := hS HB hb
             (try clear hb)
             (try clear hb2)
             (try clear hk)
             (try clear hi)
             refine hK.out _ _ ⟨(blk_cell BK188.out 0).trans rfl, (blk_cell BK188.out 1).trans rfl, (blk_cell BK186.out 0).trans rfl, (blk_cell BK186.out 1).trans rfl, ((HB.out.cell (World.block_lt_of_cell? w _ hw189_0)).trans hw189_0), ((HB.out.cell (World.block_lt_of_cell? w _ hw189_1)).trans hw189_1)⟩ (fun hHeld => ?_)
             clear hK K
             refine norm_ (a' := ?_) ?_ ?_
             rotate_left
             ·show Act.put _ (some 41) _ = _
              simp only [Act.put, List.setIfInBounds_toArray, List.set_cons_zero, List.set_cons_succ, i64_w, i32_w]
              rfl
             refine run_ [(0, 29, 1073741823, some 42), (0, 30, 2147483647, some 43), (0, 31, 4294967295, some 44)] ?_
             repeat ((apply tag0; refine run_p (v := ?_) (a' := ?_) rfl rfl (any_of HT_.out (by kernel_rfl)) (fun _ _ _ h => h) (by rfl) ?_ ?_ ?_; rotate_left 2; (intro w'; go_simp; with_reducible rfl); (first | (simp only [Act.put, List.setIfInBounds_toArray, List.set_cons_zero, List.set_cons_succ, i64_w, i32_w]; rfl) | rfl)))
             refine run_nil ?_
             refine done_ (done_of HT_.out (by kernel_rfl)) ?_
             try go_wp2
             go_roundg k1
             case measure => have := HK1.out; omega
             case rel => exact ⟨(wrap64 (x8_1 + 1)), (by first | rfl | (simp; done) | (simp [*]; done)), H', ⟨by have := HK1.out; omega⟩, ⟨bK⟩, ⟨hB⟩⟩
           ·rw [if_neg c28] at H
            exact absurd H (by simp)
          ·rw [if_neg c27] at H
           exact absurd H (by simp)
         ·rw [if_neg c25] at H
          have c25b0 : decide (0 < x8_1) = false := decide_eq_false c25
          clear c25
          have H' := Aside0.mk H
          clear H
          have p187 : 0 ≤ (x8_1 : Int) := of_decide_eq_true (by first | (with_reducible assumption) | assumption)
          have q187 : x8_1 < (l0_1.length : Int) := of_decide_eq_true (by first | (with_reducible assumption) | assumption)
          obtain ⟨ad187, e187, hx187_0, hx187_1⟩ := at_T105 HR0_1.out x8_1 p187 q187
          cases e187
          replace hx187_0 := (HB.out.cell (World.block_lt_of_cell? w _ hx187_0)).trans hx187_0
          replace hx187_1 := (HB.out.cell (World.block_lt_of_cell? w _ hx187_1)).trans hx187_1
          replace p187 := eq_true p187
          replace q187 := eq_true q187
          try go_wp2_with (first | ((with_reducible refine gate_dst (N := 4) rfl ?_); refine bxE 4 #[.int .i64 0, .int .i64 0] 105 rfl ?_; intro gb188 hg w43 hbox hb; have BK188 := Aside0.mk (hbox); have GW188 := gS HB hg; have GE188 := gS HB hg; have NB186_188 := nL BK186 hg; have NB188_186 := nG BK186 hg; replace BK186 := bS BK186 hb; replace HB := hS HB hb; clear hb hbox hg; have hnb44 := NB188_186.out; have hnc44 := NB186_188.out; have hcz45_0 := cz BK188 0; have hcz45_1 := cz BK188 1; have hfz45_0 := fz BK188 0; have hfz45_1 := fz BK188 1))
          have n0_ : Aside0 (((w43.setCell ⟨gb188, 0, none⟩ (.int .i64 ((rd_T105 l0_1 x8_1).f0))).setCell ⟨gb188, 1, none⟩ (.int .i64 ((rd_T105 l0_1 x8_1).f1))).heap[gb186]? = some (.cells #[.int .i64 a0_0, .slice (some ad187) l0_1.length c0_1] 33 (0, 0))) := ⟨by (with_reducible repeat (first | refine blk_drewN ?_ _ | refine blk_drew ?_ | refine blk_alloc ?_ _)); refine blk_far ?_ NB186_188.out _; (with_reducible repeat (first | refine blk_drewN ?_ _ | refine blk_drew ?_ | refine blk_alloc ?_ _)); refine blk_far ?_ NB186_188.out _; (with_reducible repeat (first | refine blk_drewN ?_ _ | refine blk_drew ?_ | refine blk_alloc ?_ _)); exact BK186.out⟩
          have n1_ : Aside0 (((w43.setCell ⟨gb188, 0, none⟩ (.int .i64 ((rd_T105 l0_1 x8_1).f0))).setCell ⟨gb188, 1, none⟩ (.int .i64 ((rd_T105 l0_1 x8_1).f1))).heap[gb188]? = some (.cells #[.int .i64 ((rd_T105 l0_1 x8_1).f0), .int .i64 ((rd_T105 l0_1 x8_1).f1)] 105 (0, 0))) := ⟨by (with_reducible repeat (first | refine blk_drewN ?_ _ | refine blk_drew ?_ | refine blk_alloc ?_ _)); refine blk_put (cs := #[.int .i64 ((rd_T105 l0_1 x8_1).f0), .int .i64 0]) ?_ 1 _ rfl; (with_reducible repeat (first | refine blk_drewN ?_ _ | refine blk_drew ?_ | refine blk_alloc ?_ _)); refine blk_put (cs := #[.int .i64 0, .int .i64 0]) ?_ 0 _ rfl; (with_reducible repeat (first | refine blk_drewN ?_ _ | refine blk_drew ?_ | refine blk_alloc ?_ _)); exact BK188.out⟩
          have n2_ : Aside0 (Below w.heap.size w ((w43.setCell ⟨gb188, 0, none⟩ (.int .i64 ((rd_T105 l0_1 x8_1).f0))).setCell ⟨gb188, 1, none⟩ (.int .i64 ((rd_T105 l0_1 x8_1).f1)))) := ⟨hB⟩
          (try clear BK186)
          (try clear BK188)
          (try clear HB)
          generalize ((w43.setCell ⟨gb188, 0, none⟩ (.int .i64 ((rd_T105 l0_1 x8_1).f0))).setCell ⟨gb188, 1, none⟩ (.int .i64 ((rd_T105 l0_1 x8_1).f1))) = w46 at n0_ n1_ n2_ ⊢
          have BK186 := n0_
          have BK188 := n1_
          have HB := n2_
          clear n0_ n1_ n2_
          replace BK186 := Aside0.mk (blk_drew BK186.out)
          replace BK188 := Aside0.mk (blk_drew BK188.out)
          replace HB := Aside0.mk (below_drew1 HB.out)
          refine start_ (n := 32) (S := fun w' => w'.cell? ⟨gb188, 0, none⟩ = some (.int .i64 ((rd_T105 l0_1 x8_1).f0)) ∧ w'.cell? ⟨gb188, 1, none⟩ = some (.int .i64 ((rd_T105 l0_1 x8_1).f1)) ∧ w'.cell? ⟨gb186, 0, none⟩ = some (.int .i64 a0_0) ∧ w'.cell? ⟨gb186, 1, none⟩ = some (.slice (some ad187) l0_1.length c0_1)) (ds := []) (bz 32 0) (by kernel_rfl) rfl rfl ⟨(blk_cell BK188.out 0).trans rfl, (blk_cell BK188.out 1).trans rfl, (blk_cell BK186.out 0).trans rfl, (blk_cell BK186.out 1).trans rfl⟩ (fun hHeld => ?_); refine with_tabW impl_IsParty.tab4 impl_IsParty.bits4 (fun HT_ HW_ => ?_)
          generalize w46.drew = w47 at BK186 BK188 HB hHeld ⊢
          refine run_ [(0, 0, 1, some 13), (1, 1, 3, some 14), (0, 2, 7, some 15), (0, 3, 15, some 16), (0, 4, 31, some 17), (0, 6, 95, some 19), (1, 5, 127, some 18), (1, 7, 255, some 20), (0, 8, 511, some 21), (0, 9, 1023, some 22), (0, 10, 2047, some 23), (0, 11, 4095, some 24), (0, 13, 12287, some 26), (1, 12, 16383, some 25), (1, 14, 32767, some 27), (0, 15, 65535, some 28), (0, 16, 131071, some 29), (0, 17, 262143, some 30), (0, 18, 524287, some 31), (0, 19, 1048575, some 32), (0, 20, 2097151, some 33), (2, 21, 4194303, some 34), (2, 22, 8388607, some 35), (2, 23, 16777215, some 36), (2, 24, 33554431, some 37), (2, 25, 67108863, some 38), (2, 26, 134217727, some 39), (2, 27, 268435455, some 40), (2, 28, 536870911, some 41), (2, 29, 1073741823, some 42), (0, 30, 2147483647, some 43), (0, 31, 4294967295, some 44)] ?_
          repeat (first | (apply tag0; refine run_p (v := ?_) (a' := ?_) rfl rfl (any_of HT_.out (by kernel_rfl)) (fun _ _ _ h => h) (by rfl) ?_ ?_ ?_; rotate_left 2; (intro w'; go_simp; with_reducible rfl); (first | (simp only [Act.put, List.setIfInBounds_toArray, List.set_cons_zero, List.set_cons_succ, i64_w, i32_w]; rfl) | rfl)) | (apply tag1; refine run_t (v := ?_) (a' := ?_) rfl rfl (take_ofW HT_.out HW_.out (by kernel_rfl)) (fun _ _ _ h => h) (by rfl) ?_ hHeld ?_ ?_; rotate_left 2; (rintro w' ⟨s0, s1, s2, s3⟩; go_simp; with_reducible rfl); (first | (simp only [Act.put, List.setIfInBounds_toArray, List.set_cons_zero, List.set_cons_succ, i64_w, i32_w]; rfl) | rfl)) | (apply tag2; refine run_o (a' := ?_) rfl rfl (any_of HT_.out (by kernel_rfl)) (fun _ _ _ h => h) (by rfl) ?_ ?_; rotate_left; (first | (simp only [Act.put, List.setIfInBounds_toArray, List.set_cons_zero, List.set_cons_succ, i64_w, i32_w]; rfl) | rfl)))
          refine run_nil ?_
          refine done_ (done_of HT_.out (by kernel_rfl)) ?_
          try go_wp2
          go_roundg k1
          case measure => have := HK1.out; omega
          case rel => exact ⟨(wrap64 (x8_1 + 1)), (by first | rfl | (simp; done) | (simp [*]; done)), H', ⟨by have := HK1.out; omega⟩, ⟨bK⟩, ⟨hB⟩⟩
     ·rw [if_neg c6] at H
      exact absurd H (by simp)
    ·rw [if_neg c5] at H
     exact absurd H (by simp)
   ·rw [if_neg c4] at H
    have c4b0 : decide (x8_1 < (l0_1.length : Int)) = false := decide_eq_false c4
    clear c4
    replace H := Option.bind_eq_some_iff.mp H
    obtain ⟨t191, A480, H⟩ := H
    replace H : (some t191) = some r := H
    have A48 := Aside0.mk A480
    clear A480
    obtain rfl := Option.some.inj H
    have hcz49_0 := cz BK186 0
    have hcz49_1 := cz BK186 1
    have hfz49_0 := fz BK186 0
    have hfz49_1 := fz BK186 1
    go_wp2_with (first | ((with_reducible refine gate_callee (f := 120) rfl ?_); refine goC (N := some 48) Tryd.func120 #[.int .i64 a0_0] rfl ?_; (with_reducible refine (impl_areCrowd.calls a0_0 t191 _ A48.out).mono ?_); rintro e w' ⟨rfl, ⟨nd, rfl⟩⟩; refine ⟨_, rfl, ?_⟩))
    go_ret
    exact ⟨by first | rfl | (simp [errW_none, errW_some] <;> rfl) | (simp [*, errW_none, errW_some] <;> rfl), hB⟩

/-! ### impl_isSeated: function 82 -/
def impl_isSeated.f (k : Nat) (a0_0 : Int) (l0_1 : List (S105)) : Option (Bool) := (impl_IsParty.f k a0_0 l0_1).bind fun t193 => (if t193 = true then (some (decide (a0_0 ≤ 9))) else (some false))
theorem impl_isSeated.mono : ∀ a0 a1 k, LeO (impl_isSeated.f k a0 a1) (impl_isSeated.f (k + 1) a0 a1) := by
 intro a0 a1 k
 unfold impl_isSeated.f
 repeat' first
   | (with_reducible exact impl_IsParty.mono _ _ _)
   | (with_reducible exact LeO.refl _)
   | (with_reducible exact LeO.none _)
   | (with_reducible refine LeO.ite ?_ ?_)
   | (with_reducible refine LeO.bind ?_ (fun _ => ?_))
   | exact impl_IsParty.mono _ _ _
   | exact LeO.none _
   | refine LeO.ite ?_ ?_
   | refine LeO.bind ?_ (fun _ => ?_)
set_option maxHeartbeats 8000000 in
set_option maxRecDepth 100000 in
theorem impl_isSeated.calls (k : Nat) (a0_0 : Int) (A0_1 : Option Addr) (c0_1 : Nat) (l0_1 : List (S105)) (r : Bool) (w : World) (hr0_1 : Kd.C k105 w A0_1 l0_1.length l0_1) (hc0_1 : l0_1.length ≤ c0_1) (h : impl_isSeated.f k a0_0 l0_1 = some r) :
  Calls Tryd.prog 82 #[.agg #[.int .i64 a0_0, .slice A0_1 l0_1.length c0_1]] w fun e w' => e = .returned (.bool r) ∧ Below w.heap.size w w' := by
 have hu33 := Tryd.underlying33
 have HR0_1 := Aside0.mk hr0_1
 have HC0_1 := Aside0.mk hc0_1
 clear hr0_1 hc0_1
 have HB := Aside0.mk (Below.refl w.heap.size w)
 have H : ((impl_IsParty.f k a0_0 l0_1).bind fun t193 => (if t193 = true then (some (decide (a0_0 ≤ 9))) else (some false))) = some r := h
 clear h
 replace H := Option.bind_eq_some_iff.mp H
 obtain ⟨t193, A20, H⟩ := H
 try dsimp only at H
 have A2 := Aside0.mk A20
 clear A20
 by_cases c3 : t193 = true
 ·subst c3
  have H1 : (some (decide (a0_0 ≤ 9))) = some r := by rw [if_pos rfl] at H; exact H
  clear H
  have H := H1
  clear H1
  obtain rfl := Option.some.inj H
  go_enter Tryd.func82, Tryd.ntmps82
  go_wp2_with (first | ((with_reducible refine gate_dst (N := 1) rfl ?_); refine bxE 1 #[.int .i64 a0_0, .slice A0_1 l0_1.length c0_1] 33 rfl ?_; intro gb192 hg w4 hbox hb; have BK192 := Aside0.mk (hbox); have GW192 := gS HB hg; have GE192 := gS HB hg; replace HB := hS HB hb; clear hb hbox hg; have hcz5_0 := cz BK192 0; have hcz5_1 := cz BK192 1; have hfz5_0 := fz BK192 0; have hfz5_1 := fz BK192 1) | ((with_reducible refine gate_callee (f := 76) rfl ?_); refine goC (N := some 4) Tryd.func76 #[.agg #[.int .i64 a0_0, .slice A0_1 l0_1.length c0_1]] rfl ?_; (with_reducible refine (impl_IsParty.calls k a0_0 _ _ l0_1 true _ ?side1 ?side2 A2.out).mono ?_); (case side1 => exact cS (Kd.C_below HR0_1.out HB.out)); (case side2 => exact HC0_1.out); rintro e w6 ⟨rfl, hb⟩; refine ⟨_, rfl, ?_⟩; replace BK192 := bS BK192 hb; replace HB := hS HB hb; (try clear hb); (try clear hb2); (try clear hk); (try clear hi); have hcz7_0 := cz BK192 0; have hcz7_1 := cz BK192 1; have hfz7_0 := fz BK192 0; have hfz7_1 := fz BK192 1))
  go_ret
  exact ⟨by first | rfl | (simp [errW_none, errW_some] <;> rfl) | (simp [*, errW_none, errW_some] <;> rfl), hB⟩
 ·replace c3 := Bool.eq_false_iff.mpr c3
  subst c3
  have H1 : (some false) = some r := by rw [if_neg (show ¬ (false = true) by decide)] at H; exact H
  clear H
  have H := H1
  clear H1
  obtain rfl := Option.some.inj H
  go_enter Tryd.func82, Tryd.ntmps82
  go_wp2_with (first | ((with_reducible refine gate_dst (N := 1) rfl ?_); refine bxE 1 #[.int .i64 a0_0, .slice A0_1 l0_1.length c0_1] 33 rfl ?_; intro gb192 hg w8 hbox hb; have BK192 := Aside0.mk (hbox); have GW192 := gS HB hg; have GE192 := gS HB hg; replace HB := hS HB hb; clear hb hbox hg; have hcz9_0 := cz BK192 0; have hcz9_1 := cz BK192 1; have hfz9_0 := fz BK192 0; have hfz9_1 := fz BK192 1) | ((with_reducible refine gate_callee (f := 76) rfl ?_); refine goC (N := some 4) Tryd.func76 #[.agg #[.int .i64 a0_0, .slice A0_1 l0_1.length c0_1]] rfl ?_; (with_reducible refine (impl_IsParty.calls k a0_0 _ _ l0_1 false _ ?side1 ?side2 A2.out).mono ?_); (case side1 => exact cS (Kd.C_below HR0_1.out HB.out)); (case side2 => exact HC0_1.out); rintro e w10 ⟨rfl, hb⟩; refine ⟨_, rfl, ?_⟩; replace BK192 := bS BK192 hb; replace HB := hS HB hb; (try clear hb); (try clear hb2); (try clear hk); (try clear hi)))
  go_ret
  exact ⟨by first | rfl | (simp [errW_none, errW_some] <;> rfl) | (simp [*, errW_none, errW_some] <;> rfl), hB⟩

/-! ### impl_sum: function 83 -/
def impl_sum.l0 : Nat → Int → List Int → Int → Int → Option (Int)
 | 0, _, _, _, _ => none
 | k + 1, x3, x6, x7, x8 => if x8 < x7 then (if 0 ≤ x8 then (if x8 < (x6.length : Int) then (impl_sum.l0 k (wrap64 (x3 + (rd x6 x8))) x6 x7 (wrap64 (x8 + 1))) else (none)) else (none)) else (some x3)
def impl_sum.f (k : Nat) (l0 : List Int) : Option (Int) := impl_sum.l0 k 0 l0 (l0.length : Int) 0
theorem impl_sum.mono_l : ∀ k, (∀ y0 y1 y2 y3, LeO (impl_sum.l0 k y0 y1 y2 y3) (impl_sum.l0 (k + 1) y0 y1 y2 y3))
 | 0 => fun _ _ _ _ r h => by simp [impl_sum.l0] at h
 | k + 1 => by
  have ih0 := impl_sum.mono_l k
  ·intro y0 y1 y2 y3
   unfold impl_sum.l0
   repeat' first
   | (with_reducible exact ih0 _ _ _ _)
   | (with_reducible exact LeO.refl _)
   | (with_reducible exact LeO.none _)
   | (with_reducible refine LeO.ite ?_ ?_)
   | (with_reducible refine LeO.bind ?_ (fun _ => ?_))
   | exact ih0 _ _ _ _
   | exact LeO.none _
   | refine LeO.ite ?_ ?_
   | refine LeO.bind ?_ (fun _ => ?_)
theorem impl_sum.mono : ∀ a0 k, LeO (impl_sum.f k a0) (impl_sum.f (k + 1) a0) := by
 intro a0 k
 have ih0 := impl_sum.mono_l k
 unfold impl_sum.f
 repeat' first
   | (with_reducible exact ih0 _ _ _ _)
   | (with_reducible exact LeO.refl _)
   | (with_reducible exact LeO.none _)
   | (with_reducible refine LeO.ite ?_ ?_)
   | (with_reducible refine LeO.bind ?_ (fun _ => ?_))
   | exact ih0 _ _ _ _
   | exact LeO.none _
   | refine LeO.ite ?_ ?_
   | refine LeO.bind ?_ (fun _ => ?_)
set_option maxHeartbeats 8000000 in
set_option maxRecDepth 100000 in
theorem impl_sum.calls (k : Nat) (A0 : Option Addr) (c0 : Nat) (l0 : List Int) (r : Int) (w : World) (hr0 : Kd.C (Kd.int .i64) w A0 l0.length l0) (hc0 : l0.length ≤ c0) (h : impl_sum.f k l0 = some r) :
  Calls Tryd.prog 83 #[.slice A0 l0.length c0] w fun e w' => e = .returned (.int .i64 r) ∧ Drawn0 w w' := by
 have HR0 := Aside0.mk hr0
 have HC0 := Aside0.mk hc0
 clear hr0 hc0
 have H : (impl_sum.l0 k 0 l0 (l0.length : Int) 0) = some r := h
 clear h
 have H' := Aside0.mk H
 clear H
 go_enter Tryd.func83, Tryd.ntmps83
 go_wp2
 go_loopg [3, 8] k (fun kq v3 v8 w' => ∃ (x3_1 : Int) (x8_1 : Int), v3 = .int .i64 x3_1 ∧ v8 = .int .i64 x8_1 ∧ Aside0 (impl_sum.l0 kq x3_1 l0 (l0.length : Int) x8_1 = some r) ∧ Aside0 (kq ≤ k) ∧ Drawn0 w w')
 case atStart => exact ⟨(0), (0), (by first | rfl | (simp; done) | (simp [*]; done)), (by first | rfl | (simp; done) | (simp [*]; done)), H', ⟨Nat.le_refl _⟩, by repeat (first | exact Drawn0.refl _ | apply Drawn0.step)⟩
 case round =>
  clear H'
  obtain ⟨x3_1, x8_1, rfl, rfl, HA, HK1, ⟨m1, rfl⟩⟩ := hrel
  cases gk with
  | zero => exact absurd HA.out (by simp [impl_sum.l0])
  | succ k1 =>
   have H := HA.out
   clear HA
   simp only [impl_sum.l0] at H
   by_cases c2 : x8_1 < (l0.length : Int)
   ·rw [if_pos c2] at H
    have c2b0 : decide (x8_1 < (l0.length : Int)) = true := decide_eq_true c2
    clear c2
    by_cases c3 : 0 ≤ x8_1
    ·rw [if_pos c3] at H
     have c3b0 : decide (0 ≤ x8_1) = true := decide_eq_true c3
     clear c3
     by_cases c4 : x8_1 < (l0.length : Int)
     ·rw [if_pos c4] at H
      have c4b0 : decide (x8_1 < (l0.length : Int)) = true := decide_eq_true c4
      clear c4
      have H' := Aside0.mk H
      clear H
      have p194 : 0 ≤ (x8_1 : Int) := of_decide_eq_true (by first | (with_reducible assumption) | assumption)
      have q194 : x8_1 < (l0.length : Int) := of_decide_eq_true (by first | (with_reducible assumption) | assumption)
      obtain ⟨ad194, e194, hx194_0⟩ := Kd.at_int HR0.out x8_1 p194 q194
      cases e194
      replace p194 := eq_true p194
      replace q194 := eq_true q194
      go_wp2
      go_roundg k1
      case measure => have := HK1.out; omega
      case rel => exact ⟨(wrap64 (x3_1 + (rd l0 x8_1))), (wrap64 (x8_1 + 1)), (by first | rfl | (simp; done) | (simp [*]; done)), (by first | rfl | (simp; done) | (simp [*]; done)), H', ⟨by have := HK1.out; omega⟩, by repeat (first | exact Drawn0.refl _ | apply Drawn0.step)⟩
     ·rw [if_neg c4] at H
      exact absurd H (by simp)
    ·rw [if_neg c3] at H
     exact absurd H (by simp)
   ·rw [if_neg c2] at H
    have c2b0 : decide (x8_1 < (l0.length : Int)) = false := decide_eq_false c2
    clear c2
    obtain rfl := Option.some.inj H
    go_wp2
    go_ret
    exact ⟨by first | rfl | (simp; done) | (simp [*]; done), by repeat (first | exact Drawn0.refl _ | apply Drawn0.step)⟩

/-! ### bits_TrailingZeros16: function 121 (a text of this session's own) -/
def bits_TrailingZeros16.f (a0 : Int) : Option Int := if 0 ≤ a0 ∧ a0 < 65536 then some (ctz16 a0) else none
theorem bits_TrailingZeros16.calls (a0 : Int) (r : Int) (w : World) (h : bits_TrailingZeros16.f a0 = some r) (hG : GTab 0 w := by first | exact Aside0.out ‹Aside0 (GTab _ _)› | exact GTab.up (Aside0.out ‹Aside0 (GTab _ _)›) (by repeat (first | (with_reducible first | exact Below.refl _ _ | exact Aside0.out ‹Aside0 (Below _ _ _)› | apply below_alloc | apply pw_below_drewN | apply below_drew1 | refine below_set ?_ (Aside0.out (by assumption))) | exact Aside0.out ‹Aside0 (Below _ _ _)›))) :
    Calls Tryd.prog 121 #[.int .u16 a0] w fun e w' => e = .returned (.int .i64 r) ∧ Drawn0 w w' := by
  unfold bits_TrailingZeros16.f at h
  by_cases hx : 0 ≤ a0 ∧ a0 < 65536
  · rw [if_pos hx] at h
    obtain rfl := Option.some.inj h
    clear h
    obtain ⟨x, rfl⟩ := Int.eq_ofNat_of_zero_le hx.1
    by_cases h0 : x = 0
    · subst h0
      clear hG hx
      go_enter Tryd.func121, Tryd.ntmps121
      go_wp2
      go_ret
      exact ⟨rfl, ⟨0, rfl⟩⟩
    · obtain ⟨idx, key, hi, htab, hk⟩ := tz16_key x (by omega) h0
      have hk1 : ((Go.Lib.ctz 16 x : Nat) : Int) ≤ 15 := by omega
      have hk2 : (0 : Int) ≤ ((Go.Lib.ctz 16 x : Nat) : Int) := by omega
      clear hk
      have hcell := hG idx hi
      rw [htab] at hcell
      have hx0 : ((x : Int) == 0) = false := by simp; omega
      have h1 : (0 : Int) ≤ (idx : Int) := by omega
      have h2 : (idx : Int) < 32 := by omega
      have HC : Aside0 (ctz16 (x : Int) = ((Go.Lib.ctz 16 x : Nat) : Int)) := ⟨by simp [ctz16]⟩
      clear hG htab h0 hx
      go_enter Tryd.func121, Tryd.ntmps121
      go_wp2
      go_ret
      exact ⟨by rw [HC.out]; rfl, ⟨0, rfl⟩⟩
  · rw [if_neg hx] at h; cases h

/-! ### impl_listed: function 78 -/
def impl_listed.l0 : Nat → Int → List Int → Option (List Int)
 | 0, _, _ => none
 | k + 1, x0, x3 => if x0 > 0 then ((bits_TrailingZeros16.f x0).bind fun t198 => (if x3.length < 17592186044416 then (impl_listed.l0 k (Go.bits .and .u16 x0 (IntKind.u16.wrap (x0 - 1))) (x3 ++ [t198])) else (none))) else (some x3)
def impl_listed.f (k : Nat) (a0 : Int) : Option (List Int) := impl_listed.l0 k a0 (([] : List Int))
theorem impl_listed.mono_l : ∀ k, (∀ y0 y1, LeO (impl_listed.l0 k y0 y1) (impl_listed.l0 (k + 1) y0 y1))
 | 0 => fun _ _ r h => by simp [impl_listed.l0] at h
 | k + 1 => by
  have ih0 := impl_listed.mono_l k
  ·intro y0 y1
   unfold impl_listed.l0
   repeat' first
   | (with_reducible exact ih0 _ _)
   | (with_reducible exact LeO.refl _)
   | (with_reducible exact LeO.none _)
   | (with_reducible refine LeO.ite ?_ ?_)
   | (with_reducible refine LeO.bind ?_ (fun _ => ?_))
   | exact ih0 _ _
   | exact LeO.none _
   | refine LeO.ite ?_ ?_
   | refine LeO.bind ?_ (fun _ => ?_)
theorem impl_listed.mono : ∀ a0 k, LeO (impl_listed.f k a0) (impl_listed.f (k + 1) a0) := by
 intro a0 k
 have ih0 := impl_listed.mono_l k
 unfold impl_listed.f
 repeat' first
   | (with_reducible exact ih0 _ _)
   | (with_reducible exact LeO.refl _)
   | (with_reducible exact LeO.none _)
   | (with_reducible refine LeO.ite ?_ ?_)
   | (with_reducible refine LeO.bind ?_ (fun _ => ?_))
   | exact ih0 _ _
   | exact LeO.none _
   | refine LeO.ite ?_ ?_
   | refine LeO.bind ?_ (fun _ => ?_)
set_option maxHeartbeats 8000000 in
set_option maxRecDepth 100000 in
theorem impl_listed.calls (k : Nat) (a0 : Int) (r : List Int) (w : World) (h : impl_listed.f k a0 = some r) (hG : GTab 0 w := by first | exact Aside0.out ‹Aside0 (GTab _ _)› | exact GTab.up (Aside0.out ‹Aside0 (GTab _ _)›) (by repeat (first | (with_reducible first | exact Below.refl _ _ | exact Aside0.out ‹Aside0 (Below _ _ _)› | apply below_alloc | apply pw_below_drewN | apply below_drew1 | refine below_set ?_ (Aside0.out (by assumption))) | exact Aside0.out ‹Aside0 (Below _ _ _)›))) :
  Calls Tryd.prog 78 #[.int .u16 a0] w fun e w' => ∃ v0_ : Value, e = .returned (v0_) ∧ Kd.R (Kd.int .i64) 3 w' w.heap.size (fun _ => True) v0_ r ∧ Below w.heap.size w w' := by
 have HG := Aside0.mk (p := GTab _ _) hG
 clear hG
 have HB := Aside0.mk (Below.refl w.heap.size w)
 have H : (impl_listed.l0 k a0 (([] : List Int))) = some r := h
 clear h
 obtain ⟨y195, hy195⟩ : ∃ y_ : List Int, y_ = (([] : List Int)) := ⟨_, rfl⟩
 replace H : (impl_listed.l0 k a0 y195) = some r := by first | (rw [hy195]; with_reducible exact H) | (have H2_ := (Option.bind_some _ _).symm.trans H; rw [hy195]; with_reducible exact H2_) | (have H2_ := (Option.bind_some _ _).symm.trans H; with_reducible exact H2_) | with_reducible exact H | (rw [hy195]; exact H) | exact H
 have Ny195 := Aside0.mk hy195
 clear hy195
 have H' := Aside0.mk H
 clear H
 go_enter Tryd.func78, Tryd.ntmps78
 go_wp2_with (first | ((with_reducible refine gate_dst (N := 4) rfl ?_); refine Kd.R_lit (Kd.int .i64) _ 3 ?hg (N := 4) ?hd (xs := ([] : List Int)) (inner := []) (ok := fun _ => True) (okp := fun _ => True) ?hr ?hp (fun _ hk => hk) trivial (Below.refl _ _) (Nat.le_refl _) (by simp) ?_; (case hd => rfl); (case hg => rfl); (case hr => first | (go_simp; done) | (go_simp; rfl)); (case hp => exact (Reps.none _ _)); intro v196 w2 ho3 hb hg_ hnew_; clear hg_ hnew_; (first | rw [← Ny195.out] at ho3 | (simp only [Int.reduceToNat] at ho3; rw [← Ny195.out] at ho3)); have HO197 := Aside0.mk (Kd.R_lower ho3 (below_size hB)); replace HB := hS HB hb; clear hb ho3))
 go_loopg [0, 3] k (fun kq v0 v3 w' => ∃ (x0_1 : Int) (x3_1 : List Int), v0 = .int .u16 x0_1 ∧ Aside0 (impl_listed.l0 kq x0_1 x3_1 = some r) ∧ Aside0 (kq ≤ k) ∧ Aside0 (Kd.R (Kd.int .i64) 3 w' w.heap.size (fun _ => True) v3 x3_1) ∧ Aside0 (Below w.heap.size w w'))
 case atStart => exact ⟨(a0), (y195), (by first | rfl | (simp; done) | (simp [*]; done)), H', ⟨Nat.le_refl _⟩, ⟨rU HO197⟩, ⟨hB⟩⟩
 case round =>
  clear H'
  try clear p2
  obtain ⟨x0_1, x3_1, rfl, HA, HK1, HO_3, HB⟩ := hrel
  cases gk with
  | zero => exact absurd HA.out (by simp [impl_listed.l0])
  | succ k1 =>
   have H := HA.out
   clear HA
   simp only [impl_listed.l0] at H
   by_cases c4 : x0_1 > 0
   ·rw [if_pos c4] at H
    have c4b0 : decide (0 < x0_1) = true := decide_eq_true c4
    clear c4
    replace H := Option.bind_eq_some_iff.mp H
    obtain ⟨t198, A50, H⟩ := H
    try dsimp only at H
    have A5 := Aside0.mk A50
    clear A50
    by_cases c6 : x3_1.length < 17592186044416
    ·rw [if_pos c6] at H
     have LMc6 := Aside0.mk c6
     clear c6
     obtain ⟨y199, hy199⟩ : ∃ y_ : List Int, y_ = (x3_1 ++ [t198]) := ⟨_, rfl⟩
     replace H : (impl_listed.l0 k1 (Go.bits .and .u16 x0_1 (IntKind.u16.wrap (x0_1 - 1))) y199) = some r := by first | (rw [hy199]; with_reducible exact H) | (have H2_ := (Option.bind_some _ _).symm.trans H; rw [hy199]; with_reducible exact H2_) | (have H2_ := (Option.bind_some _ _).symm.trans H; with_reducible exact H2_) | with_reducible exact H | (rw [hy199]; exact H) | exact H
     have Ny199 := Aside0.mk hy199
     clear hy199
     have H' := Aside0.mk H
     clear H
     go_wp2_with (first | ((with_reducible refine gate_callee (f := 121) rfl ?_); refine goC (N := some 13) Tryd.func121 #[.int .u16 x0_1] rfl ?_; (with_reducible refine (bits_TrailingZeros16.calls x0_1 t198 _ A5.out).mono ?_); rintro e w' ⟨rfl, ⟨nd, rfl⟩⟩; refine ⟨_, rfl, ?_⟩) | ((with_reducible refine gate_builtin (b := .append) (xs := #[.tmp 11, .tmp 14]) rfl ?_); at_builtin; refine Kd.R_append (Kd.int .i64) (w0 := w) w.heap.size rfl (.tmp 11) (.tmp 14) 75 3 (.int .i64 0) 8 rfl Tryd.underlying75 info3 rfl (by decide) (by omega) u3 x3_1 t198 [.int .i64 t198] (fun _ => True) (fun _ => False) rfl rfl ?aP (fun _ hk => hk.elim) ?aF ?aO ?aB ?aS ?aL ?_; (case aP => exact rfl); (case aB => exact hB); (case aF => exact (fun _ _ => trivial)); (case aO => exact (rU HO_3)); (case aS => exact (below_size hB)); (case aL => have := LMc6.out; omega); intro v200 w7 ho hb hg hat; rw [← Ny199.out] at ho; have HO201 := Aside0.mk (ho); replace HB := Aside0.mk (hb); clear HO_3; clear ho hb hg hat))
     go_roundg k1
     case measure => have := HK1.out; omega
     case rel => exact ⟨(Go.bits .and .u16 x0_1 (IntKind.u16.wrap (x0_1 - 1))), (y199), (by first | rfl | (simp; done) | (simp [*]; done)), H', ⟨by have := HK1.out; omega⟩, ⟨rU HO201⟩, ⟨hB⟩⟩
    ·rw [if_neg c6] at H
     exact absurd H (by simp)
   ·rw [if_neg c4] at H
    have c4b0 : decide (0 < x0_1) = false := decide_eq_false c4
    clear c4
    obtain rfl := Option.some.inj H
    go_wp2
    go_ret
    exact ⟨_, by first | rfl | (simp [errW_none, errW_some] <;> rfl) | (simp [*, errW_none, errW_some] <;> rfl), rU HO_3, hB⟩

end Go.Proofs.YtjpfbkkikcpmhaaDoor.PFnExactCountRows
