-- Of this session's own program wip/gen/gen.py (it drives the kit's print): contracts of the functions that the law reaches.
import Derived.Test.YtbjmkkgejekpnaaDoorPFnThreesCountedx0
import Derived.Test.YtbjmkkgejekpnaaDoorPFnThreesCountedx3
namespace Go.Proofs.YtbjmkkgejekpnaaDoor.PFnThreesCounted
open Go.RowKit Go.Proofs.YtbjmkkgejekpnaaDoorW.PrintWords Go.Proofs.YtbjmkkgejekpnaaDoorW.PrintLast Go.Proofs.YtbjmkkgejekpnaaDoorW.PrintMore Go.Proofs.YtbjmkkgejekpnaaDoor.Base
attribute [local go_sem] max2_int min2_int max_two min_two max_three min_three max_four min_four   -- for this text's walks alone
set_option linter.unusedVariables false
set_option linter.unusedSimpArgs false
set_option maxHeartbeats 8000000
set_option maxRecDepth 100000

/-! ### impl_IsParty: function 43 -/
def impl_IsParty.l0 : Nat → List (S43) → Int → Int → Int → List (S43) → Option (Bool)
 | 0, _, _, _, _, _ => none
 | k + 1, x6, x7, x8, x242000, x242001 => if x8 < x7 then (if 0 ≤ x8 then (if x8 < (x6.length : Int) then (if ((rd_T43 x6 x8).f0) < 0 then (some false) else (if ((rd_T43 x6 x8).f0) ≥ ((rd_T43 x6 x8).f1) then (some false) else (if ((rd_T43 x6 x8).f1) ≥ x242000 then (some false) else (if x8 > 0 then (if 0 ≤ (wrap64 (x8 - 1)) then (if (wrap64 (x8 - 1)) < (x242001.length : Int) then ((impl_comparePairs.f k ((rd_T43 x242001 (wrap64 (x8 - 1))).f0) ((rd_T43 x242001 (wrap64 (x8 - 1))).f1) ((rd_T43 x6 x8).f0) ((rd_T43 x6 x8).f1)).bind fun t245 => (if t245 ≥ 0 then (some false) else (impl_IsParty.l0 k x6 x7 (wrap64 (x8 + 1)) x242000 x242001))) else (none)) else (none)) else (impl_IsParty.l0 k x6 x7 (wrap64 (x8 + 1)) x242000 x242001))))) else (none)) else (none)) else ((impl_areCrowd.f x242000).bind fun t246 => (some t246))
def impl_IsParty.f (k : Nat) (a0_0 : Int) (l0_1 : List (S43)) : Option (Bool) := impl_IsParty.l0 k l0_1 (l0_1.length : Int) 0 a0_0 l0_1
theorem impl_IsParty.mono_l : ∀ k, (∀ y0 y1 y2 y3 y4, LeO (impl_IsParty.l0 k y0 y1 y2 y3 y4) (impl_IsParty.l0 (k + 1) y0 y1 y2 y3 y4))
 | 0 => fun _ _ _ _ _ r h => by simp [impl_IsParty.l0] at h
 | k + 1 => by
  have ih0 := impl_IsParty.mono_l k
  ·intro y0 y1 y2 y3 y4
   unfold impl_IsParty.l0
   repeat' first | (with_reducible first | exact ih0 .. | exact impl_comparePairs.mono .. | exact LeO.refl _ | exact LeO.none _ | refine LeO.ite ?_ ?_ | refine LeO.bind ?_ (fun _ => ?_)) | exact ih0 .. | exact impl_comparePairs.mono .. | exact LeO.none _ | refine LeO.ite ?_ ?_ | refine LeO.bind ?_ (fun _ => ?_)
theorem impl_IsParty.mono : ∀ a0 a1 k, LeO (impl_IsParty.f k a0 a1) (impl_IsParty.f (k + 1) a0 a1) := by
 intro a0 a1 k
 have ih0 := impl_IsParty.mono_l k
 unfold impl_IsParty.f
 repeat' first | (with_reducible first | exact ih0 .. | exact impl_comparePairs.mono .. | exact LeO.refl _ | exact LeO.none _ | refine LeO.ite ?_ ?_ | refine LeO.bind ?_ (fun _ => ?_)) | exact ih0 .. | exact impl_comparePairs.mono .. | exact LeO.none _ | refine LeO.ite ?_ ?_ | refine LeO.bind ?_ (fun _ => ?_)
def impl_IsParty.T4 : Bool × List (List Nat × List Nat) := (true, [([], []), ([0], [0]), ([1], [1]), ([2], [2]), ([3], [3]), ([4, 3], [3, 4]), ([3], [3]), ([6, 3], [3, 6]), ([5, 7, 3], [3, 5, 7]), ([3, 8], [3, 8]), ([9, 3], [9]), ([10], [10]), ([11, 10], [10, 11]), ([10], [10]), ([13, 10], [10, 13]), ([12, 14, 10], [10, 12, 14]), ([10, 15], [10, 15]), ([16, 10], [16]), ([17], [17]), ([18, 17], [17, 18]), ([19, 17, 17], [17, 19]), ([20], [20]), ([21, 20], [20, 21]), ([20], [20]), ([23, 20], [20, 23]), ([22, 24, 20], [20, 22, 24]), ([25, 20], [20, 25]), ([20], [20]), ([26, 27, 20, 20], [20, 26, 27]), ([28, 20], [20, 28]), ([20, 29, 17], [17, 20, 29]), ([17, 30], [17, 30])])
def impl_IsParty.B4 : List Nat := [0, 1, 3, 7, 15, 31, 15, 79, 255, 511, 1023, 2047, 4095, 2047, 10239, 32767, 65535, 131071, 262143, 524287, 1048575, 2097151, 4194303, 2097151, 10485759, 33554431, 67108863, 2097151, 268435455, 536870911, 1073741823, 2147483647]
theorem impl_IsParty.tab4 : rtab .any (opsOf Tryd.f43 4) = impl_IsParty.T4 := by kernel_rfl
theorem impl_IsParty.bits4 : waitsOk impl_IsParty.T4.2 impl_IsParty.B4 = true := by kernel_rfl
theorem impl_IsParty.calls (k : Nat) (a0_0 : Int) (A0_1 : Option Addr) (c0_1 : Nat) (l0_1 : List (S43)) (r : Bool) (w : World) (hr0_1 : Kd.C k43 w A0_1 l0_1.length l0_1) (hc0_1 : l0_1.length ≤ c0_1) (h : impl_IsParty.f k a0_0 l0_1 = some r) :
  Calls Tryd.prog 43 #[.agg #[.int .i64 a0_0, .slice A0_1 l0_1.length c0_1]] w fun e w' => e = .returned (.bool r) ∧ Below w.heap.size w w' := by
 have hu52 := Tryd.underlying52
 have hu43 := Tryd.underlying43
 have HR0_1 := Aside0.mk hr0_1
 have HC0_1 := Aside0.mk hc0_1
 clear hr0_1 hc0_1
 have HB := Aside0.mk (Below.refl w.heap.size w)
 have H : (impl_IsParty.l0 k l0_1 (l0_1.length : Int) 0 a0_0 l0_1) = some r := h
 clear h
 have H' := Aside0.mk H
 clear H
 go_enter Tryd.func43, Tryd.ntmps43
 go_wp2_with (first | ((with_reducible refine gate_dst (N := 1) rfl ?_); refine bxE 1 #[.int .i64 a0_0, .slice A0_1 l0_1.length c0_1] 52 rfl ?_; intro gb241 hg w2 hbox hb; have BK241 := Aside0.mk (hbox); have GW241 := gS HB hg; have GE241 := gS HB hg; replace HB := hS HB hb; clear hb hbox hg; obtain ⟨hcz3_0, hcz3_1, hfz3_0, hfz3_1⟩ := cf2 BK241))
 go_loopg [8] k (fun kq v8 w' => ∃ (x8_1 : Int), v8 = .int .i64 x8_1 ∧ Aside0 (impl_IsParty.l0 kq l0_1 (l0_1.length : Int) x8_1 a0_0 l0_1 = some r) ∧ Aside0 (kq ≤ k) ∧ Aside0 (w'.heap[gb241]? = some (.cells #[.int .i64 a0_0, (.slice A0_1 l0_1.length c0_1)] 52 (0, 0))) ∧ Aside0 (Below w.heap.size w w'))
 case atStart => exact ⟨(0), sR, H', ⟨Nat.le_refl _⟩, ⟨bK⟩, ⟨hB⟩⟩
 case round =>
  clear H'
  (try clear hcz3_0 hcz3_1 hfz3_0 hfz3_1)
  obtain ⟨x8_1, rfl, HA, HK1, BK241, HB⟩ := hrel
  cases gk with
  | zero => exact absurd HA.out (by simp [impl_IsParty.l0])
  | succ k1 =>
   have H := HA.out
   clear HA
   simp only [impl_IsParty.l0] at H
   by_cases c4 : x8_1 < (l0_1.length : Int)
   ·rw [if_pos c4] at H
    have c4b0 := decide_eq_true c4
    clear c4
    replace H := ifD H; obtain ⟨c5b0, H⟩ := H
    replace H := ifD H; obtain ⟨c6b0, H⟩ := H
    by_cases c7 : ((rd_T43 l0_1 x8_1).f0) < 0
    ·rw [if_pos c7] at H
     have c7b0 := decide_eq_true c7
     clear c7
     obtain rfl := Option.some.inj H
     have p242 : 0 ≤ (x8_1 : Int) := of_decide_eq_true (by first | (with_reducible assumption) | assumption)
     have q242 : x8_1 < (l0_1.length : Int) := of_decide_eq_true (by first | (with_reducible assumption) | assumption)
     obtain ⟨ad242, e242, hx242_0, hx242_1⟩ := at_T43 HR0_1.out x8_1 p242 q242
     cases e242
     replace hx242_0 := (HB.out.cell (World.block_lt_of_cell? w _ hx242_0)).trans hx242_0
     replace hx242_1 := (HB.out.cell (World.block_lt_of_cell? w _ hx242_1)).trans hx242_1
     replace p242 := eq_true p242
     replace q242 := eq_true q242
     try go_wp2_with (first | ((with_reducible refine gate_dst (N := 4) rfl ?_); refine bxE 4 #[.int .i64 0, .int .i64 0] 43 rfl ?_; intro gb243 hg w8 hbox hb; have BK243 := Aside0.mk (hbox); have GW243 := gS HB hg; have GE243 := gS HB hg; have NB241_243 := nL BK241 hg; have NB243_241 := nG BK241 hg; replace BK241 := bS BK241 hb; replace HB := hS HB hb; clear hb hbox hg; have hnb9 := NB243_241.out; have hnc9 := NB241_243.out; obtain ⟨hcz10_0, hcz10_1, hfz10_0, hfz10_1⟩ := cf2 BK243))
     have n0_ : Aside0 (((w8.setCell ⟨gb243, 0, none⟩ (.int .i64 ((rd_T43 l0_1 x8_1).f0))).setCell ⟨gb243, 1, none⟩ (.int .i64 ((rd_T43 l0_1 x8_1).f1))).heap[gb241]? = some (.cells #[.int .i64 a0_0, .slice (some ad242) l0_1.length c0_1] 52 (0, 0))) := ⟨by (with_reducible repeat (first | refine blk_drewN ?_ _ | refine blk_drew ?_ | refine blk_alloc ?_ _)); refine blk_far ?_ NB241_243.out _; (with_reducible repeat (first | refine blk_drewN ?_ _ | refine blk_drew ?_ | refine blk_alloc ?_ _)); refine blk_far ?_ NB241_243.out _; (with_reducible repeat (first | refine blk_drewN ?_ _ | refine blk_drew ?_ | refine blk_alloc ?_ _)); exact BK241.out⟩
     have n1_ : Aside0 (((w8.setCell ⟨gb243, 0, none⟩ (.int .i64 ((rd_T43 l0_1 x8_1).f0))).setCell ⟨gb243, 1, none⟩ (.int .i64 ((rd_T43 l0_1 x8_1).f1))).heap[gb243]? = some (.cells #[.int .i64 ((rd_T43 l0_1 x8_1).f0), .int .i64 ((rd_T43 l0_1 x8_1).f1)] 43 (0, 0))) := ⟨by (with_reducible repeat (first | refine blk_drewN ?_ _ | refine blk_drew ?_ | refine blk_alloc ?_ _)); refine blk_put (cs := #[.int .i64 ((rd_T43 l0_1 x8_1).f0), .int .i64 0]) ?_ 1 _ rfl; (with_reducible repeat (first | refine blk_drewN ?_ _ | refine blk_drew ?_ | refine blk_alloc ?_ _)); refine blk_put (cs := #[.int .i64 0, .int .i64 0]) ?_ 0 _ rfl; (with_reducible repeat (first | refine blk_drewN ?_ _ | refine blk_drew ?_ | refine blk_alloc ?_ _)); exact BK243.out⟩
     have n2_ : Aside0 (Below w.heap.size w ((w8.setCell ⟨gb243, 0, none⟩ (.int .i64 ((rd_T43 l0_1 x8_1).f0))).setCell ⟨gb243, 1, none⟩ (.int .i64 ((rd_T43 l0_1 x8_1).f1)))) := ⟨hB⟩
     (try clear BK241)
     (try clear BK243)
     (try clear HB)
     generalize ((w8.setCell ⟨gb243, 0, none⟩ (.int .i64 ((rd_T43 l0_1 x8_1).f0))).setCell ⟨gb243, 1, none⟩ (.int .i64 ((rd_T43 l0_1 x8_1).f1))) = w11 at n0_ n1_ n2_ ⊢
     have BK241 := n0_
     have BK243 := n1_
     have HB := n2_
     clear n0_ n1_ n2_
     replace BK241 := Aside0.mk (blk_drew BK241.out)
     replace BK243 := Aside0.mk (blk_drew BK243.out)
     replace HB := Aside0.mk (below_drew1 HB.out)
     refine start_ (n := 32) (S := fun w' => w'.cell? ⟨gb243, 0, none⟩ = some (.int .i64 ((rd_T43 l0_1 x8_1).f0)) ∧ w'.cell? ⟨gb243, 1, none⟩ = some (.int .i64 ((rd_T43 l0_1 x8_1).f1))) (ds := []) (bz 32 0) (by kernel_rfl) rfl rfl ⟨(blk_cell BK243.out 0).trans rfl, (blk_cell BK243.out 1).trans rfl⟩ (fun hHeld => ?_); refine with_tabW impl_IsParty.tab4 impl_IsParty.bits4 (fun HT_ HW_ => ?_)
     generalize w11.drew = w12 at BK241 BK243 HB hHeld ⊢
     refine run_ [(0, 0, 1, some 13), (1, 1, 3, some 14), (0, 2, 7, some 15), (0, 3, 15, some 16), (2, 4, 31, some 17), (2, 5, 63, some 18), (2, 6, 127, some 19), (2, 7, 255, some 20), (2, 8, 511, some 21), (0, 9, 1023, some 22), (0, 10, 2047, some 23), (2, 11, 4095, some 24), (2, 12, 8191, some 25), (2, 13, 16383, some 26), (2, 14, 32767, some 27), (2, 15, 65535, some 28), (0, 16, 131071, some 29), (0, 17, 262143, some 30), (2, 18, 524287, some 31), (2, 19, 1048575, some 32), (2, 20, 2097151, some 33), (2, 21, 4194303, some 34), (2, 22, 8388607, some 35), (2, 23, 16777215, some 36), (2, 24, 33554431, some 37), (2, 25, 67108863, some 38), (2, 26, 134217727, some 39), (2, 27, 268435455, some 40), (2, 28, 536870911, some 41), (2, 29, 1073741823, some 42), (2, 30, 2147483647, some 43), (0, 31, 4294967295, some 44)] ?_
     repeat (first | (apply tag0; refine run_p (v := ?_) (a' := ?_) rfl rfl (any_of HT_.out (by kernel_rfl)) (fun _ _ _ h => h) (by rfl) ?_ ?_ ?_; rotate_left 2; (intro w'; go_simp; with_reducible rfl); (first | (simp only [Act.put, List.setIfInBounds_toArray, List.set_cons_zero, List.set_cons_succ, i64_w, i32_w]; rfl) | rfl)) | (apply tag1; refine run_t (v := ?_) (a' := ?_) rfl rfl (take_ofW HT_.out HW_.out (by kernel_rfl)) (fun _ _ _ h => h) (by rfl) ?_ hHeld ?_ ?_; rotate_left 2; (rintro w' ⟨s0, s1⟩; go_simp; with_reducible rfl); (first | (simp only [Act.put, List.setIfInBounds_toArray, List.set_cons_zero, List.set_cons_succ, i64_w, i32_w]; rfl) | rfl)) | (apply tag2; refine run_o (a' := ?_) rfl rfl (any_of HT_.out (by kernel_rfl)) (fun _ _ _ h => h) (by rfl) ?_ ?_; rotate_left; (first | (simp only [Act.put, List.setIfInBounds_toArray, List.set_cons_zero, List.set_cons_succ, i64_w, i32_w]; rfl) | rfl)))
     refine run_nil ?_
     refine done_ (done_of HT_.out (by kernel_rfl)) ?_
     try go_wp2
     go_ret
     exact ⟨eW, hB⟩
    ·rw [if_neg c7] at H
     have c7b0 := decide_eq_false c7
     clear c7
     by_cases c13 : ((rd_T43 l0_1 x8_1).f0) ≥ ((rd_T43 l0_1 x8_1).f1)
     ·rw [if_pos c13] at H
      have c13b0 : decide (((rd_T43 l0_1 x8_1).f1) ≤ ((rd_T43 l0_1 x8_1).f0)) = true := decide_eq_true c13
      clear c13
      obtain rfl := Option.some.inj H
      have p242 : 0 ≤ (x8_1 : Int) := of_decide_eq_true (by first | (with_reducible assumption) | assumption)
      have q242 : x8_1 < (l0_1.length : Int) := of_decide_eq_true (by first | (with_reducible assumption) | assumption)
      obtain ⟨ad242, e242, hx242_0, hx242_1⟩ := at_T43 HR0_1.out x8_1 p242 q242
      cases e242
      replace hx242_0 := (HB.out.cell (World.block_lt_of_cell? w _ hx242_0)).trans hx242_0
      replace hx242_1 := (HB.out.cell (World.block_lt_of_cell? w _ hx242_1)).trans hx242_1
      replace p242 := eq_true p242
      replace q242 := eq_true q242
      try go_wp2_with (first | ((with_reducible refine gate_dst (N := 4) rfl ?_); refine bxE 4 #[.int .i64 0, .int .i64 0] 43 rfl ?_; intro gb243 hg w14 hbox hb; have BK243 := Aside0.mk (hbox); have GW243 := gS HB hg; have GE243 := gS HB hg; have NB241_243 := nL BK241 hg; have NB243_241 := nG BK241 hg; replace BK241 := bS BK241 hb; replace HB := hS HB hb; clear hb hbox hg; have hnb15 := NB243_241.out; have hnc15 := NB241_243.out; obtain ⟨hcz16_0, hcz16_1, hfz16_0, hfz16_1⟩ := cf2 BK243))
      have n0_ : Aside0 (((w14.setCell ⟨gb243, 0, none⟩ (.int .i64 ((rd_T43 l0_1 x8_1).f0))).setCell ⟨gb243, 1, none⟩ (.int .i64 ((rd_T43 l0_1 x8_1).f1))).heap[gb241]? = some (.cells #[.int .i64 a0_0, .slice (some ad242) l0_1.length c0_1] 52 (0, 0))) := ⟨by (with_reducible repeat (first | refine blk_drewN ?_ _ | refine blk_drew ?_ | refine blk_alloc ?_ _)); refine blk_far ?_ NB241_243.out _; (with_reducible repeat (first | refine blk_drewN ?_ _ | refine blk_drew ?_ | refine blk_alloc ?_ _)); refine blk_far ?_ NB241_243.out _; (with_reducible repeat (first | refine blk_drewN ?_ _ | refine blk_drew ?_ | refine blk_alloc ?_ _)); exact BK241.out⟩
      have n1_ : Aside0 (((w14.setCell ⟨gb243, 0, none⟩ (.int .i64 ((rd_T43 l0_1 x8_1).f0))).setCell ⟨gb243, 1, none⟩ (.int .i64 ((rd_T43 l0_1 x8_1).f1))).heap[gb243]? = some (.cells #[.int .i64 ((rd_T43 l0_1 x8_1).f0), .int .i64 ((rd_T43 l0_1 x8_1).f1)] 43 (0, 0))) := ⟨by (with_reducible repeat (first | refine blk_drewN ?_ _ | refine blk_drew ?_ | refine blk_alloc ?_ _)); refine blk_put (cs := #[.int .i64 ((rd_T43 l0_1 x8_1).f0), .int .i64 0]) ?_ 1 _ rfl; (with_reducible repeat (first | refine blk_drewN ?_ _ | refine blk_drew ?_ | refine blk_alloc ?_ _)); refine blk_put (cs := #[.int .i64 0, .int .i64 0]) ?_ 0 _ rfl; (with_reducible repeat (first | refine blk_drewN ?_ _ | refine blk_drew ?_ | refine blk_alloc ?_ _)); exact BK243.out⟩
      have n2_ : Aside0 (Below w.heap.size w ((w14.setCell ⟨gb243, 0, none⟩ (.int .i64 ((rd_T43 l0_1 x8_1).f0))).setCell ⟨gb243, 1, none⟩ (.int .i64 ((rd_T43 l0_1 x8_1).f1)))) := ⟨hB⟩
      (try clear BK241)
      (try clear BK243)
      (try clear HB)
      generalize ((w14.setCell ⟨gb243, 0, none⟩ (.int .i64 ((rd_T43 l0_1 x8_1).f0))).setCell ⟨gb243, 1, none⟩ (.int .i64 ((rd_T43 l0_1 x8_1).f1))) = w17 at n0_ n1_ n2_ ⊢
      have BK241 := n0_
      have BK243 := n1_
      have HB := n2_
      clear n0_ n1_ n2_
      replace BK241 := Aside0.mk (blk_drew BK241.out)
      replace BK243 := Aside0.mk (blk_drew BK243.out)
      replace HB := Aside0.mk (below_drew1 HB.out)
      refine start_ (n := 32) (S := fun w' => w'.cell? ⟨gb243, 0, none⟩ = some (.int .i64 ((rd_T43 l0_1 x8_1).f0)) ∧ w'.cell? ⟨gb243, 1, none⟩ = some (.int .i64 ((rd_T43 l0_1 x8_1).f1))) (ds := []) (bz 32 0) (by kernel_rfl) rfl rfl ⟨(blk_cell BK243.out 0).trans rfl, (blk_cell BK243.out 1).trans rfl⟩ (fun hHeld => ?_); refine with_tabW impl_IsParty.tab4 impl_IsParty.bits4 (fun HT_ HW_ => ?_)
      generalize w17.drew = w18 at BK241 BK243 HB hHeld ⊢
      refine run_ [(0, 0, 1, some 13), (1, 1, 3, some 14), (0, 2, 7, some 15), (0, 3, 15, some 16), (0, 4, 31, some 17), (0, 6, 95, some 19), (1, 5, 127, some 18), (1, 7, 255, some 20), (0, 8, 511, some 21), (0, 9, 1023, some 22), (0, 10, 2047, some 23), (2, 11, 4095, some 24), (2, 12, 8191, some 25), (2, 13, 16383, some 26), (2, 14, 32767, some 27), (2, 15, 65535, some 28), (0, 16, 131071, some 29), (0, 17, 262143, some 30), (2, 18, 524287, some 31), (2, 19, 1048575, some 32), (2, 20, 2097151, some 33), (2, 21, 4194303, some 34), (2, 22, 8388607, some 35), (2, 23, 16777215, some 36), (2, 24, 33554431, some 37), (2, 25, 67108863, some 38), (2, 26, 134217727, some 39), (2, 27, 268435455, some 40), (2, 28, 536870911, some 41), (2, 29, 1073741823, some 42), (2, 30, 2147483647, some 43), (0, 31, 4294967295, some 44)] ?_
      repeat (first | (apply tag0; refine run_p (v := ?_) (a' := ?_) rfl rfl (any_of HT_.out (by kernel_rfl)) (fun _ _ _ h => h) (by rfl) ?_ ?_ ?_; rotate_left 2; (intro w'; go_simp; with_reducible rfl); (first | (simp only [Act.put, List.setIfInBounds_toArray, List.set_cons_zero, List.set_cons_succ, i64_w, i32_w]; rfl) | rfl)) | (apply tag1; refine run_t (v := ?_) (a' := ?_) rfl rfl (take_ofW HT_.out HW_.out (by kernel_rfl)) (fun _ _ _ h => h) (by rfl) ?_ hHeld ?_ ?_; rotate_left 2; (rintro w' ⟨s0, s1⟩; go_simp; with_reducible rfl); (first | (simp only [Act.put, List.setIfInBounds_toArray, List.set_cons_zero, List.set_cons_succ, i64_w, i32_w]; rfl) | rfl)) | (apply tag2; refine run_o (a' := ?_) rfl rfl (any_of HT_.out (by kernel_rfl)) (fun _ _ _ h => h) (by rfl) ?_ ?_; rotate_left; (first | (simp only [Act.put, List.setIfInBounds_toArray, List.set_cons_zero, List.set_cons_succ, i64_w, i32_w]; rfl) | rfl)))
      refine run_nil ?_
      refine done_ (done_of HT_.out (by kernel_rfl)) ?_
      try go_wp2
      go_ret
      exact ⟨eW, hB⟩
     ·rw [if_neg c13] at H
      have c13b0 : decide (((rd_T43 l0_1 x8_1).f1) ≤ ((rd_T43 l0_1 x8_1).f0)) = false := decide_eq_false c13
      clear c13
      by_cases c19 : ((rd_T43 l0_1 x8_1).f1) ≥ a0_0
      ·rw [if_pos c19] at H
       have c19b0 : decide (a0_0 ≤ ((rd_T43 l0_1 x8_1).f1)) = true := decide_eq_true c19
       clear c19
       obtain rfl := Option.some.inj H
       have p242 : 0 ≤ (x8_1 : Int) := of_decide_eq_true (by first | (with_reducible assumption) | assumption)
       have q242 : x8_1 < (l0_1.length : Int) := of_decide_eq_true (by first | (with_reducible assumption) | assumption)
       obtain ⟨ad242, e242, hx242_0, hx242_1⟩ := at_T43 HR0_1.out x8_1 p242 q242
       cases e242
       replace hx242_0 := (HB.out.cell (World.block_lt_of_cell? w _ hx242_0)).trans hx242_0
       replace hx242_1 := (HB.out.cell (World.block_lt_of_cell? w _ hx242_1)).trans hx242_1
       replace p242 := eq_true p242
       replace q242 := eq_true q242
       try go_wp2_with (first | ((with_reducible refine gate_dst (N := 4) rfl ?_); refine bxE 4 #[.int .i64 0, .int .i64 0] 43 rfl ?_; intro gb243 hg w20 hbox hb; have BK243 := Aside0.mk (hbox); have GW243 := gS HB hg; have GE243 := gS HB hg; have NB241_243 := nL BK241 hg; have NB243_241 := nG BK241 hg; replace BK241 := bS BK241 hb; replace HB := hS HB hb; clear hb hbox hg; have hnb21 := NB243_241.out; have hnc21 := NB241_243.out; obtain ⟨hcz22_0, hcz22_1, hfz22_0, hfz22_1⟩ := cf2 BK243))
       have n0_ : Aside0 (((w20.setCell ⟨gb243, 0, none⟩ (.int .i64 ((rd_T43 l0_1 x8_1).f0))).setCell ⟨gb243, 1, none⟩ (.int .i64 ((rd_T43 l0_1 x8_1).f1))).heap[gb241]? = some (.cells #[.int .i64 a0_0, .slice (some ad242) l0_1.length c0_1] 52 (0, 0))) := ⟨by (with_reducible repeat (first | refine blk_drewN ?_ _ | refine blk_drew ?_ | refine blk_alloc ?_ _)); refine blk_far ?_ NB241_243.out _; (with_reducible repeat (first | refine blk_drewN ?_ _ | refine blk_drew ?_ | refine blk_alloc ?_ _)); refine blk_far ?_ NB241_243.out _; (with_reducible repeat (first | refine blk_drewN ?_ _ | refine blk_drew ?_ | refine blk_alloc ?_ _)); exact BK241.out⟩
       have n1_ : Aside0 (((w20.setCell ⟨gb243, 0, none⟩ (.int .i64 ((rd_T43 l0_1 x8_1).f0))).setCell ⟨gb243, 1, none⟩ (.int .i64 ((rd_T43 l0_1 x8_1).f1))).heap[gb243]? = some (.cells #[.int .i64 ((rd_T43 l0_1 x8_1).f0), .int .i64 ((rd_T43 l0_1 x8_1).f1)] 43 (0, 0))) := ⟨by (with_reducible repeat (first | refine blk_drewN ?_ _ | refine blk_drew ?_ | refine blk_alloc ?_ _)); refine blk_put (cs := #[.int .i64 ((rd_T43 l0_1 x8_1).f0), .int .i64 0]) ?_ 1 _ rfl; (with_reducible repeat (first | refine blk_drewN ?_ _ | refine blk_drew ?_ | refine blk_alloc ?_ _)); refine blk_put (cs := #[.int .i64 0, .int .i64 0]) ?_ 0 _ rfl; (with_reducible repeat (first | refine blk_drewN ?_ _ | refine blk_drew ?_ | refine blk_alloc ?_ _)); exact BK243.out⟩
       have n2_ : Aside0 (Below w.heap.size w ((w20.setCell ⟨gb243, 0, none⟩ (.int .i64 ((rd_T43 l0_1 x8_1).f0))).setCell ⟨gb243, 1, none⟩ (.int .i64 ((rd_T43 l0_1 x8_1).f1)))) := ⟨hB⟩
       (try clear BK241)
       (try clear BK243)
       (try clear HB)
       generalize ((w20.setCell ⟨gb243, 0, none⟩ (.int .i64 ((rd_T43 l0_1 x8_1).f0))).setCell ⟨gb243, 1, none⟩ (.int .i64 ((rd_T43 l0_1 x8_1).f1))) = w23 at n0_ n1_ n2_ ⊢
       have BK241 := n0_
       have BK243 := n1_
       have HB := n2_
       clear n0_ n1_ n2_
       replace BK241 := Aside0.mk (blk_drew BK241.out)
       replace BK243 := Aside0.mk (blk_drew BK243.out)
       replace HB := Aside0.mk (below_drew1 HB.out)
       refine start_ (n := 32) (S := fun w' => w'.cell? ⟨gb243, 0, none⟩ = some (.int .i64 ((rd_T43 l0_1 x8_1).f0)) ∧ w'.cell? ⟨gb243, 1, none⟩ = some (.int .i64 ((rd_T43 l0_1 x8_1).f1)) ∧ w'.cell? ⟨gb241, 0, none⟩ = some (.int .i64 a0_0) ∧ w'.cell? ⟨gb241, 1, none⟩ = some (.slice (some ad242) l0_1.length c0_1)) (ds := []) (bz 32 0) (by kernel_rfl) rfl rfl ⟨(blk_cell BK243.out 0).trans rfl, (blk_cell BK243.out 1).trans rfl, (blk_cell BK241.out 0).trans rfl, (blk_cell BK241.out 1).trans rfl⟩ (fun hHeld => ?_); refine with_tabW impl_IsParty.tab4 impl_IsParty.bits4 (fun HT_ HW_ => ?_)
       generalize w23.drew = w24 at BK241 BK243 HB hHeld ⊢
       refine run_ [(0, 0, 1, some 13), (1, 1, 3, some 14), (0, 2, 7, some 15), (0, 3, 15, some 16), (0, 4, 31, some 17), (0, 6, 95, some 19), (1, 5, 127, some 18), (1, 7, 255, some 20), (0, 8, 511, some 21), (0, 9, 1023, some 22), (0, 10, 2047, some 23), (0, 11, 4095, some 24), (0, 13, 12287, some 26), (1, 12, 16383, some 25), (1, 14, 32767, some 27), (0, 15, 65535, some 28), (0, 16, 131071, some 29), (0, 17, 262143, some 30), (2, 18, 524287, some 31), (2, 19, 1048575, some 32), (2, 20, 2097151, some 33), (2, 21, 4194303, some 34), (2, 22, 8388607, some 35), (2, 23, 16777215, some 36), (2, 24, 33554431, some 37), (2, 25, 67108863, some 38), (2, 26, 134217727, some 39), (2, 27, 268435455, some 40), (2, 28, 536870911, some 41), (2, 29, 1073741823, some 42), (2, 30, 2147483647, some 43), (0, 31, 4294967295, some 44)] ?_
       repeat (first | (apply tag0; refine run_p (v := ?_) (a' := ?_) rfl rfl (any_of HT_.out (by kernel_rfl)) (fun _ _ _ h => h) (by rfl) ?_ ?_ ?_; rotate_left 2; (intro w'; go_simp; with_reducible rfl); (first | (simp only [Act.put, List.setIfInBounds_toArray, List.set_cons_zero, List.set_cons_succ, i64_w, i32_w]; rfl) | rfl)) | (apply tag1; refine run_t (v := ?_) (a' := ?_) rfl rfl (take_ofW HT_.out HW_.out (by kernel_rfl)) (fun _ _ _ h => h) (by rfl) ?_ hHeld ?_ ?_; rotate_left 2; (rintro w' ⟨s0, s1, s2, s3⟩; go_simp; with_reducible rfl); (first | (simp only [Act.put, List.setIfInBounds_toArray, List.set_cons_zero, List.set_cons_succ, i64_w, i32_w]; rfl) | rfl)) | (apply tag2; refine run_o (a' := ?_) rfl rfl (any_of HT_.out (by kernel_rfl)) (fun _ _ _ h => h) (by rfl) ?_ ?_; rotate_left; (first | (simp only [Act.put, List.setIfInBounds_toArray, List.set_cons_zero, List.set_cons_succ, i64_w, i32_w]; rfl) | rfl)))
       refine run_nil ?_
       refine done_ (done_of HT_.out (by kernel_rfl)) ?_
       try go_wp2
       go_ret
       exact ⟨eW, hB⟩
      ·rw [if_neg c19] at H
       have c19b0 : decide (a0_0 ≤ ((rd_T43 l0_1 x8_1).f1)) = false := decide_eq_false c19
       clear c19
       by_cases c25 : x8_1 > 0
       ·rw [if_pos c25] at H
        have c25b0 : decide (0 < x8_1) = true := decide_eq_true c25
        clear c25
        obtain ⟨ji26, hji26⟩ : ∃ j_ : Int, (wrap64 (x8_1 - 1)) = j_ := ⟨_, rfl⟩
        replace H : (if 0 ≤ (ji26) then (if (ji26) < (l0_1.length : Int) then ((impl_comparePairs.f k1 ((rd_T43 l0_1 (ji26)).f0) ((rd_T43 l0_1 (ji26)).f1) ((rd_T43 l0_1 x8_1).f0) ((rd_T43 l0_1 x8_1).f1)).bind fun t245 => (if t245 ≥ 0 then (some false) else (impl_IsParty.l0 k1 l0_1 (l0_1.length : Int) (wrap64 (x8_1 + 1)) a0_0 l0_1))) else (none)) else (none)) = some r := by first | (rw [hji26] at H; exact H) | (simp only [hji26] at H ⊢; exact H)
        have hji26w : (IntKind.i64.wrap (x8_1 - 1)) = ji26 := (i64_w _).trans hji26
        replace H := ifD H; obtain ⟨c27b0, H⟩ := H
        replace H := ifD H; obtain ⟨c28b0, H⟩ := H
        replace H := oB H; obtain ⟨t245, A29, H⟩ := H
        by_cases c30 : t245 ≥ 0
        ·rw [if_pos c30] at H
         have c30b0 : decide (0 ≤ t245) = true := decide_eq_true c30
         clear c30
         obtain rfl := Option.some.inj H
         have p242 : 0 ≤ (x8_1 : Int) := of_decide_eq_true (by first | (with_reducible assumption) | assumption)
         have q242 : x8_1 < (l0_1.length : Int) := of_decide_eq_true (by first | (with_reducible assumption) | assumption)
         obtain ⟨ad242, e242, hx242_0, hx242_1⟩ := at_T43 HR0_1.out x8_1 p242 q242
         cases e242
         replace hx242_0 := (HB.out.cell (World.block_lt_of_cell? w _ hx242_0)).trans hx242_0
         replace hx242_1 := (HB.out.cell (World.block_lt_of_cell? w _ hx242_1)).trans hx242_1
         replace p242 := eq_true p242
         replace q242 := eq_true q242
         try go_wp2_with (first | ((with_reducible refine gate_dst (N := 4) rfl ?_); refine bxE 4 #[.int .i64 0, .int .i64 0] 43 rfl ?_; intro gb243 hg w31 hbox hb; have BK243 := Aside0.mk (hbox); have GW243 := gS HB hg; have GE243 := gS HB hg; have NB241_243 := nL BK241 hg; have NB243_241 := nG BK241 hg; replace BK241 := bS BK241 hb; replace HB := hS HB hb; clear hb hbox hg; have hnb32 := NB243_241.out; have hnc32 := NB241_243.out; obtain ⟨hcz33_0, hcz33_1, hfz33_0, hfz33_1⟩ := cf2 BK243))
         have n0_ : Aside0 (((w31.setCell ⟨gb243, 0, none⟩ (.int .i64 ((rd_T43 l0_1 x8_1).f0))).setCell ⟨gb243, 1, none⟩ (.int .i64 ((rd_T43 l0_1 x8_1).f1))).heap[gb241]? = some (.cells #[.int .i64 a0_0, .slice (some ad242) l0_1.length c0_1] 52 (0, 0))) := ⟨by (with_reducible repeat (first | refine blk_drewN ?_ _ | refine blk_drew ?_ | refine blk_alloc ?_ _)); refine blk_far ?_ NB241_243.out _; (with_reducible repeat (first | refine blk_drewN ?_ _ | refine blk_drew ?_ | refine blk_alloc ?_ _)); refine blk_far ?_ NB241_243.out _; (with_reducible repeat (first | refine blk_drewN ?_ _ | refine blk_drew ?_ | refine blk_alloc ?_ _)); exact BK241.out⟩
         have n1_ : Aside0 (((w31.setCell ⟨gb243, 0, none⟩ (.int .i64 ((rd_T43 l0_1 x8_1).f0))).setCell ⟨gb243, 1, none⟩ (.int .i64 ((rd_T43 l0_1 x8_1).f1))).heap[gb243]? = some (.cells #[.int .i64 ((rd_T43 l0_1 x8_1).f0), .int .i64 ((rd_T43 l0_1 x8_1).f1)] 43 (0, 0))) := ⟨by (with_reducible repeat (first | refine blk_drewN ?_ _ | refine blk_drew ?_ | refine blk_alloc ?_ _)); refine blk_put (cs := #[.int .i64 ((rd_T43 l0_1 x8_1).f0), .int .i64 0]) ?_ 1 _ rfl; (with_reducible repeat (first | refine blk_drewN ?_ _ | refine blk_drew ?_ | refine blk_alloc ?_ _)); refine blk_put (cs := #[.int .i64 0, .int .i64 0]) ?_ 0 _ rfl; (with_reducible repeat (first | refine blk_drewN ?_ _ | refine blk_drew ?_ | refine blk_alloc ?_ _)); exact BK243.out⟩
         have n2_ : Aside0 (Below w.heap.size w ((w31.setCell ⟨gb243, 0, none⟩ (.int .i64 ((rd_T43 l0_1 x8_1).f0))).setCell ⟨gb243, 1, none⟩ (.int .i64 ((rd_T43 l0_1 x8_1).f1)))) := ⟨hB⟩
         (try clear BK241)
         (try clear BK243)
         (try clear HB)
         generalize ((w31.setCell ⟨gb243, 0, none⟩ (.int .i64 ((rd_T43 l0_1 x8_1).f0))).setCell ⟨gb243, 1, none⟩ (.int .i64 ((rd_T43 l0_1 x8_1).f1))) = w34 at n0_ n1_ n2_ ⊢
         have BK241 := n0_
         have BK243 := n1_
         have HB := n2_
         clear n0_ n1_ n2_
         replace BK241 := Aside0.mk (blk_drew BK241.out)
         replace BK243 := Aside0.mk (blk_drew BK243.out)
         replace HB := Aside0.mk (below_drew1 HB.out)
         have p244 : 0 ≤ ((ji26) : Int) := of_decide_eq_true (by first | (with_reducible assumption) | assumption)
         have q244 : (ji26) < (l0_1.length : Int) := of_decide_eq_true (by first | (with_reducible assumption) | assumption)
         obtain ⟨ad244, e244, hx244_0, hx244_1⟩ := at_T43 HR0_1.out (ji26) p244 q244
         have hw244_1 := hx244_1
         have hw244_0 := hx244_0
         obtain rfl : ad242 = ad244 := (by injection e244)
         replace hx244_0 := (HB.out.cell (World.block_lt_of_cell? w _ hx244_0)).trans hx244_0
         replace hx244_1 := (HB.out.cell (World.block_lt_of_cell? w _ hx244_1)).trans hx244_1
         replace p244 := eq_true p244
         replace q244 := eq_true q244
         refine start_ (n := 32) (S := fun w' => w'.cell? ⟨gb243, 0, none⟩ = some (.int .i64 ((rd_T43 l0_1 x8_1).f0)) ∧ w'.cell? ⟨gb243, 1, none⟩ = some (.int .i64 ((rd_T43 l0_1 x8_1).f1)) ∧ w'.cell? ⟨gb241, 0, none⟩ = some (.int .i64 a0_0) ∧ w'.cell? ⟨gb241, 1, none⟩ = some (.slice (some ad242) l0_1.length c0_1) ∧ w'.cell? (ad242.add (((ji26)).toNat * 2)) = some (.int .i64 ((rd_T43 l0_1 (ji26)).f0)) ∧ w'.cell? ⟨(ad242.add (((ji26)).toNat * 2)).block, (ad242.add (((ji26)).toNat * 2)).off + 1, none⟩ = some (.int .i64 ((rd_T43 l0_1 (ji26)).f1))) (ds := []) (bz 32 0) (by kernel_rfl) rfl rfl ⟨(blk_cell BK243.out 0).trans rfl, (blk_cell BK243.out 1).trans rfl, (blk_cell BK241.out 0).trans rfl, (blk_cell BK241.out 1).trans rfl, ((HB.out.cell (World.block_lt_of_cell? w _ hw244_0)).trans hw244_0), ((HB.out.cell (World.block_lt_of_cell? w _ hw244_1)).trans hw244_1)⟩ (fun hHeld => ?_); refine with_tabW impl_IsParty.tab4 impl_IsParty.bits4 (fun HT_ HW_ => ?_)
         generalize w34.drew = w35 at BK241 BK243 HB hx244_0 hx244_1 hHeld ⊢
         refine run_ [(0, 0, 1, some 13), (1, 1, 3, some 14), (0, 2, 7, some 15), (0, 3, 15, some 16), (0, 4, 31, some 17), (0, 6, 95, some 19), (1, 5, 127, some 18), (1, 7, 255, some 20), (0, 8, 511, some 21), (0, 9, 1023, some 22), (0, 10, 2047, some 23), (0, 11, 4095, some 24), (0, 13, 12287, some 26), (1, 12, 16383, some 25), (1, 14, 32767, some 27), (0, 15, 65535, some 28), (0, 16, 131071, some 29), (0, 17, 262143, some 30), (0, 18, 524287, some 31), (0, 19, 1048575, some 32), (0, 20, 2097151, some 33), (0, 21, 4194303, some 34), (0, 23, 12582911, some 36), (0, 24, 29360127, some 37), (1, 22, 33554431, some 35), (0, 25, 67108863, some 38), (1, 26, 134217727, some 39), (1, 27, 268435455, some 40)] ?_
         repeat (first | (apply tag0; refine run_p (v := ?_) (a' := ?_) rfl rfl (any_of HT_.out (by kernel_rfl)) (fun _ _ _ h => h) (by rfl) ?_ ?_ ?_; rotate_left 2; (intro w'; go_simp; with_reducible rfl); (first | (simp only [Act.put, List.setIfInBounds_toArray, List.set_cons_zero, List.set_cons_succ, i64_w, i32_w]; rfl) | rfl)) | (apply tag1; refine run_t (v := ?_) (a' := ?_) rfl rfl (take_ofW HT_.out HW_.out (by kernel_rfl)) (fun _ _ _ h => h) (by rfl) ?_ hHeld ?_ ?_; rotate_left 2; (rintro w' ⟨s0, s1, s2, s3, s4, s5⟩; go_simp; with_reducible rfl); (first | (simp only [Act.put, List.setIfInBounds_toArray, List.set_cons_zero, List.set_cons_succ, i64_w, i32_w]; rfl) | rfl)))
         refine run_nil ?_
         refine one_ (i := 28) (N := some 41) (bz 32 536870911) rfl rfl (one_of HT_.out (by kernel_rfl)) (by decide) (fun K hK => ?_)
         refine goes_ Tryd.func109 (by kernel_rfl) rfl #[.agg #[.int .i64 ((rd_T43 l0_1 (ji26)).f0), .int .i64 ((rd_T43 l0_1 (ji26)).f1)], .agg #[.int .i64 ((rd_T43 l0_1 x8_1).f0), .int .i64 ((rd_T43 l0_1 x8_1).f1)]] (by rfl) rfl rfl (by (try simp only [List.map_toArray, List.map_cons, List.map_nil]); first | done | (simp only [hji26]; rfl) | rfl | (simp only [List.length_drop, List.length_take]; rfl)) ?_
         with_reducible refine (impl_comparePairs.calls k1 ((rd_T43 l0_1 (ji26)).f0) ((rd_T43 l0_1 (ji26)).f1) ((rd_T43 l0_1 x8_1).f0) ((rd_T43 l0_1 x8_1).f1) t245 _ A29.out).mono ?_
         rintro e w36 ⟨rfl, hb⟩
         refine ⟨_, rfl, ?_⟩
         replace BK241 := bS BK241 hb
         replace BK243 := bS BK243 hb
         replace HB := hS HB hb
         (try clear hb)
         (try clear hb2)
         (try clear hk)
         (try clear hi)
         refine hK.out _ _ ⟨(blk_cell BK243.out 0).trans rfl, (blk_cell BK243.out 1).trans rfl, (blk_cell BK241.out 0).trans rfl, (blk_cell BK241.out 1).trans rfl, ((HB.out.cell (World.block_lt_of_cell? w _ hw244_0)).trans hw244_0), ((HB.out.cell (World.block_lt_of_cell? w _ hw244_1)).trans hw244_1)⟩ (fun hHeld => ?_)
         clear hK K
         refine norm_ (a' := ?_) ?_ ?_
         rotate_left
         ·show Act.put _ (some 41) _ = _
          simp only [Act.put, List.setIfInBounds_toArray, List.set_cons_zero, List.set_cons_succ, i64_w, i32_w]
          rfl
         refine run_ [(0, 29, 1073741823, some 42), (0, 30, 2147483647, some 43), (0, 31, 4294967295, some 44)] ?_
         repeat ((apply tag0; refine run_p (v := ?_) (a' := ?_) rfl rfl (any_of HT_.out (by kernel_rfl)) (fun _ _ _ h => h) (by rfl) ?_ ?_ ?_; rotate_left 2; (intro w'; go_simp; with_reducible rfl); (first | (simp only [Act.put, List.setIfInBounds_toArray, List.set_cons_zero, List.set_cons_succ, i64_w, i32_w]; rfl) | rfl)))
         refine run_nil ?_
         refine done_ (done_of HT_.out (by kernel_rfl)) ?_
         try go_wp2
         go_ret
         exact ⟨by first | rfl | (simp [errW_none, errW_some] <;> rfl) | (simp only [← hji26]; first | rfl | (simp [errW_none, errW_some] <;> rfl)) | (simp [*, errW_none, errW_some] <;> rfl), hB⟩
        ·rw [if_neg c30] at H
         have c30b0 : decide (0 ≤ t245) = false := decide_eq_false c30
         clear c30
         have H' := Aside0.mk H
         clear H
         have p242 : 0 ≤ (x8_1 : Int) := of_decide_eq_true (by first | (with_reducible assumption) | assumption)
         have q242 : x8_1 < (l0_1.length : Int) := of_decide_eq_true (by first | (with_reducible assumption) | assumption)
         obtain ⟨ad242, e242, hx242_0, hx242_1⟩ := at_T43 HR0_1.out x8_1 p242 q242
         cases e242
         replace hx242_0 := (HB.out.cell (World.block_lt_of_cell? w _ hx242_0)).trans hx242_0
         replace hx242_1 := (HB.out.cell (World.block_lt_of_cell? w _ hx242_1)).trans hx242_1
         replace p242 := eq_true p242
         replace q242 := eq_true q242
         try go_wp2_with (first | ((with_reducible refine gate_dst (N := 4) rfl ?_); refine bxE 4 #[.int .i64 0, .int .i64 0] 43 rfl ?_; intro gb243 hg w37 hbox hb; have BK243 := Aside0.mk (hbox); have GW243 := gS HB hg; have GE243 := gS HB hg; have NB241_243 := nL BK241 hg; have NB243_241 := nG BK241 hg; replace BK241 := bS BK241 hb; replace HB := hS HB hb; clear hb hbox hg; have hnb38 := NB243_241.out; have hnc38 := NB241_243.out; obtain ⟨hcz39_0, hcz39_1, hfz39_0, hfz39_1⟩ := cf2 BK243))
         have n0_ : Aside0 (((w37.setCell ⟨gb243, 0, none⟩ (.int .i64 ((rd_T43 l0_1 x8_1).f0))).setCell ⟨gb243, 1, none⟩ (.int .i64 ((rd_T43 l0_1 x8_1).f1))).heap[gb241]? = some (.cells #[.int .i64 a0_0, .slice (some ad242) l0_1.length c0_1] 52 (0, 0))) := ⟨by (with_reducible repeat (first | refine blk_drewN ?_ _ | refine blk_drew ?_ | refine blk_alloc ?_ _)); refine blk_far ?_ NB241_243.out _; (with_reducible repeat (first | refine blk_drewN ?_ _ | refine blk_drew ?_ | refine blk_alloc ?_ _)); refine blk_far ?_ NB241_243.out _; (with_reducible repeat (first | refine blk_drewN ?_ _ | refine blk_drew ?_ | refine blk_alloc ?_ _)); exact BK241.out⟩
         have n1_ : Aside0 (((w37.setCell ⟨gb243, 0, none⟩ (.int .i64 ((rd_T43 l0_1 x8_1).f0))).setCell ⟨gb243, 1, none⟩ (.int .i64 ((rd_T43 l0_1 x8_1).f1))).heap[gb243]? = some (.cells #[.int .i64 ((rd_T43 l0_1 x8_1).f0), .int .i64 ((rd_T43 l0_1 x8_1).f1)] 43 (0, 0))) := ⟨by (with_reducible repeat (first | refine blk_drewN ?_ _ | refine blk_drew ?_ | refine blk_alloc ?_ _)); refine blk_put (cs := #[.int .i64 ((rd_T43 l0_1 x8_1).f0), .int .i64 0]) ?_ 1 _ rfl; (with_reducible repeat (first | refine blk_drewN ?_ _ | refine blk_drew ?_ | refine blk_alloc ?_ _)); refine blk_put (cs := #[.int .i64 0, .int .i64 0]) ?_ 0 _ rfl; (with_reducible repeat (first | refine blk_drewN ?_ _ | refine blk_drew ?_ | refine blk_alloc ?_ _)); exact BK243.out⟩
         have n2_ : Aside0 (Below w.heap.size w ((w37.setCell ⟨gb243, 0, none⟩ (.int .i64 ((rd_T43 l0_1 x8_1).f0))).setCell ⟨gb243, 1, none⟩ (.int .i64 ((rd_T43 l0_1 x8_1).f1)))) := ⟨hB⟩
         (try clear BK241)
         (try clear BK243)
         (try clear HB)
         generalize ((w37.setCell ⟨gb243, 0, none⟩ (.int .i64 ((rd_T43 l0_1 x8_1).f0))).setCell ⟨gb243, 1, none⟩ (.int .i64 ((rd_T43 l0_1 x8_1).f1))) = w40 at n0_ n1_ n2_ ⊢
         have BK241 := n0_
         have BK243 := n1_
         have HB := n2_
         clear n0_ n1_ n2_
         replace BK241 := Aside0.mk (blk_drew BK241.out)
         replace BK243 := Aside0.mk (blk_drew BK243.out)
         replace HB := Aside0.mk (below_drew1 HB.out)
         have p244 : 0 ≤ ((ji26) : Int) := of_decide_eq_true (by first | (with_reducible assumption) | assumption)
         have q244 : (ji26) < (l0_1.length : Int) := of_decide_eq_true (by first | (with_reducible assumption) | assumption)
         obtain ⟨ad244, e244, hx244_0, hx244_1⟩ := at_T43 HR0_1.out (ji26) p244 q244
         have hw244_1 := hx244_1
         have hw244_0 := hx244_0
         obtain rfl : ad242 = ad244 := (by injection e244)
         replace hx244_0 := (HB.out.cell (World.block_lt_of_cell? w _ hx244_0)).trans hx244_0
         replace hx244_1 := (HB.out.cell (World.block_lt_of_cell? w _ hx244_1)).trans hx244_1
         replace p244 := eq_true p244
         replace q244 := eq_true q244
         refine start_ (n := 32) (S := fun w' => w'.cell? ⟨gb243, 0, none⟩ = some (.int .i64 ((rd_T43 l0_1 x8_1).f0)) ∧ w'.cell? ⟨gb243, 1, none⟩ = some (.int .i64 ((rd_T43 l0_1 x8_1).f1)) ∧ w'.cell? ⟨gb241, 0, none⟩ = some (.int .i64 a0_0) ∧ w'.cell? ⟨gb241, 1, none⟩ = some (.slice (some ad242) l0_1.length c0_1) ∧ w'.cell? (ad242.add (((ji26)).toNat * 2)) = some (.int .i64 ((rd_T43 l0_1 (ji26)).f0)) ∧ w'.cell? ⟨(ad242.add (((ji26)).toNat * 2)).block, (ad242.add (((ji26)).toNat * 2)).off + 1, none⟩ = some (.int .i64 ((rd_T43 l0_1 (ji26)).f1))) (ds := []) (bz 32 0) (by kernel_rfl) rfl rfl ⟨(blk_cell BK243.out 0).trans rfl, (blk_cell BK243.out 1).trans rfl, (blk_cell BK241.out 0).trans rfl, (blk_cell BK241.out 1).trans rfl, ((HB.out.cell (World.block_lt_of_cell? w _ hw244_0)).trans hw244_0), ((HB.out.cell (World.block_lt_of_cell? w _ hw244_1)).trans hw244_1)⟩ (fun hHeld => ?_); refine with_tabW impl_IsParty.tab4 impl_IsParty.bits4 (fun HT_ HW_ => ?_)
         generalize w40.drew = w41 at BK241 BK243 HB hx244_0 hx244_1 hHeld ⊢
         refine run_ [(0, 0, 1, some 13), (1, 1, 3, some 14), (0, 2, 7, some 15), (0, 3, 15, some 16), (0, 4, 31, some 17), (0, 6, 95, some 19), (1, 5, 127, some 18), (1, 7, 255, some 20), (0, 8, 511, some 21), (0, 9, 1023, some 22), (0, 10, 2047, some 23), (0, 11, 4095, some 24), (0, 13, 12287, some 26), (1, 12, 16383, some 25), (1, 14, 32767, some 27), (0, 15, 65535, some 28), (0, 16, 131071, some 29), (0, 17, 262143, some 30), (0, 18, 524287, some 31), (0, 19, 1048575, some 32), (0, 20, 2097151, some 33), (0, 21, 4194303, some 34), (0, 23, 12582911, some 36), (0, 24, 29360127, some 37), (1, 22, 33554431, some 35), (0, 25, 67108863, some 38), (1, 26, 134217727, some 39), (1, 27, 268435455, some 40)] ?_
         repeat (first | (apply tag0; refine run_p (v := ?_) (a' := ?_) rfl rfl (any_of HT_.out (by kernel_rfl)) (fun _ _ _ h => h) (by rfl) ?_ ?_ ?_; rotate_left 2; (intro w'; go_simp; with_reducible rfl); (first | (simp only [Act.put, List.setIfInBounds_toArray, List.set_cons_zero, List.set_cons_succ, i64_w, i32_w]; rfl) | rfl)) | (apply tag1; refine run_t (v := ?_) (a' := ?_) rfl rfl (take_ofW HT_.out HW_.out (by kernel_rfl)) (fun _ _ _ h => h) (by rfl) ?_ hHeld ?_ ?_; rotate_left 2; (rintro w' ⟨s0, s1, s2, s3, s4, s5⟩; go_simp; with_reducible rfl); (first | (simp only [Act.put, List.setIfInBounds_toArray, List.set_cons_zero, List.set_cons_succ, i64_w, i32_w]; rfl) | rfl)))
         refine run_nil ?_
         refine one_ (i := 28) (N := some 41) (bz 32 536870911) rfl rfl (one_of HT_.out (by kernel_rfl)) (by decide) (fun K hK => ?_)
         refine goes_ Tryd.func109 (by kernel_rfl) rfl #[.agg #[.int .i64 ((rd_T43 l0_1 (ji26)).f0), .int .i64 ((rd_T43 l0_1 (ji26)).f1)], .agg #[.int .i64 ((rd_T43 l0_1 x8_1).f0), .int .i64 ((rd_T43 l0_1 x8_1).f1)]] (by rfl) rfl rfl (by (try simp only [List.map_toArray, List.map_cons, List.map_nil]); first | done | (simp only [hji26]; rfl) | rfl | (simp only [List.length_drop, List.length_take]; rfl)) ?_
         with_reducible refine (impl_comparePairs.calls k1 ((rd_T43 l0_1 (ji26)).f0) ((rd_T43 l0_1 (ji26)).f1) ((rd_T43 l0_1 x8_1).f0) ((rd_T43 l0_1 x8_1).f1) t245 _ A29.out).mono ?_
         rintro e w42 ⟨rfl, hb⟩
         refine ⟨_, rfl, ?_⟩
         replace BK241 := bS BK241 hb
         replace BK243 := bS BK243 hb
         replace HB := hS HB hb
         (try clear hb)
         (try clear hb2)
         (try clear hk)
         (try clear hi)
         refine hK.out _ _ ⟨(blk_cell BK243.out 0).trans rfl, (blk_cell BK243.out 1).trans rfl, (blk_cell BK241.out 0).trans rfl, (blk_cell BK241.out 1).trans rfl, ((HB.out.cell (World.block_lt_of_cell? w _ hw244_0)).trans hw244_0), ((HB.out.cell (World.block_lt_of_cell? w _ hw244_1)).trans hw244_1)⟩ (fun hHeld => ?_)
         clear hK K
         refine norm_ (a' := ?_) ?_ ?_
         rotate_left
         ·show Act.put _ (some 41) _ = _
          simp only [Act.put, List.setIfInBounds_toArray, List.set_cons_zero, List.set_cons_succ, i64_w, i32_w]
          rfl
         refine run_ [(0, 29, 1073741823, some 42), (0, 30, 2147483647, some 43), (0, 31, 4294967295, some 44)] ?_
         repeat ((apply tag0; refine run_p (v := ?_) (a' := ?_) rfl rfl (any_of HT_.out (by kernel_rfl)) (fun _ _ _ h => h) (by rfl) ?_ ?_ ?_; rotate_left 2; (intro w'; go_simp; with_reducible rfl); (first | (simp only [Act.put, List.setIfInBounds_toArray, List.set_cons_zero, List.set_cons_succ, i64_w, i32_w]; rfl) | rfl)))
         refine run_nil ?_
         refine done_ (done_of HT_.out (by kernel_rfl)) ?_
         try go_wp2
         go_roundg k1
         case measure => have := HK1.out; omega
         case rel => exact ⟨(wrap64 (x8_1 + 1)), sR, H', ⟨by have := HK1.out; omega⟩, ⟨bK⟩, ⟨hB⟩⟩
       ·rw [if_neg c25] at H
        have c25b0 : decide (0 < x8_1) = false := decide_eq_false c25
        clear c25
        have H' := Aside0.mk H
        clear H
        have p242 : 0 ≤ (x8_1 : Int) := of_decide_eq_true (by first | (with_reducible assumption) | assumption)
        have q242 : x8_1 < (l0_1.length : Int) := of_decide_eq_true (by first | (with_reducible assumption) | assumption)
        obtain ⟨ad242, e242, hx242_0, hx242_1⟩ := at_T43 HR0_1.out x8_1 p242 q242
        cases e242
        replace hx242_0 := (HB.out.cell (World.block_lt_of_cell? w _ hx242_0)).trans hx242_0
        replace hx242_1 := (HB.out.cell (World.block_lt_of_cell? w _ hx242_1)).trans hx242_1
        replace p242 := eq_true p242
        replace q242 := eq_true q242
        try go_wp2_with (first | ((with_reducible refine gate_dst (N := 4) rfl ?_); refine bxE 4 #[.int .i64 0, .int .i64 0] 43 rfl ?_; intro gb243 hg w43 hbox hb; have BK243 := Aside0.mk (hbox); have GW243 := gS HB hg; have GE243 := gS HB hg; have NB241_243 := nL BK241 hg; have NB243_241 := nG BK241 hg; replace BK241 := bS BK241 hb; replace HB := hS HB hb; clear hb hbox hg; have hnb44 := NB243_241.out; have hnc44 := NB241_243.out; obtain ⟨hcz45_0, hcz45_1, hfz45_0, hfz45_1⟩ := cf2 BK243))
        have n0_ : Aside0 (((w43.setCell ⟨gb243, 0, none⟩ (.int .i64 ((rd_T43 l0_1 x8_1).f0))).setCell ⟨gb243, 1, none⟩ (.int .i64 ((rd_T43 l0_1 x8_1).f1))).heap[gb241]? = some (.cells #[.int .i64 a0_0, .slice (some ad242) l0_1.length c0_1] 52 (0, 0))) := ⟨by (with_reducible repeat (first | refine blk_drewN ?_ _ | refine blk_drew ?_ | refine blk_alloc ?_ _)); refine blk_far ?_ NB241_243.out _; (with_reducible repeat (first | refine blk_drewN ?_ _ | refine blk_drew ?_ | refine blk_alloc ?_ _)); refine blk_far ?_ NB241_243.out _; (with_reducible repeat (first | refine blk_drewN ?_ _ | refine blk_drew ?_ | refine blk_alloc ?_ _)); exact BK241.out⟩
        have n1_ : Aside0 (((w43.setCell ⟨gb243, 0, none⟩ (.int .i64 ((rd_T43 l0_1 x8_1).f0))).setCell ⟨gb243, 1, none⟩ (.int .i64 ((rd_T43 l0_1 x8_1).f1))).heap[gb243]? = some (.cells #[.int .i64 ((rd_T43 l0_1 x8_1).f0), .int .i64 ((rd_T43 l0_1 x8_1).f1)] 43 (0, 0))) := ⟨by (with_reducible repeat (first | refine blk_drewN ?_ _ | refine blk_drew ?_ | refine blk_alloc ?_ _)); refine blk_put (cs := #[.int .i64 ((rd_T43 l0_1 x8_1).f0), .int .i64 0]) ?_ 1 _ rfl; (with_reducible repeat (first | refine blk_drewN ?_ _ | refine blk_drew ?_ | refine blk_alloc ?_ _)); refine blk_put (cs := #[.int .i64 0, .int .i64 0]) ?_ 0 _ rfl; (with_reducible repeat (first | refine blk_drewN ?_ _ | refine blk_drew ?_ | refine blk_alloc ?_ _)); exact BK243.out⟩
        have n2_ : Aside0 (Below w.heap.size w ((w43.setCell ⟨gb243, 0, none⟩ (.int .i64 ((rd_T43 l0_1 x8_1).f0))).setCell ⟨gb243, 1, none⟩ (.int .i64 ((rd_T43 l0_1 x8_1).f1)))) := ⟨hB⟩
        (try clear BK241)
        (try clear BK243)
        (try clear HB)
        generalize ((w43.setCell ⟨gb243, 0, none⟩ (.int .i64 ((rd_T43 l0_1 x8_1).f0))).setCell ⟨gb243, 1, none⟩ (.int .i64 ((rd_T43 l0_1 x8_1).f1))) = w46 at n0_ n1_ n2_ ⊢
        have BK241 := n0_
        have BK243 := n1_
        have HB := n2_
        clear n0_ n1_ n2_
        replace BK241 := Aside0.mk (blk_drew BK241.out)
        replace BK243 := Aside0.mk (blk_drew BK243.out)
        replace HB := Aside0.mk (below_drew1 HB.out)
        refine start_ (n := 32) (S := fun w' => w'.cell? ⟨gb243, 0, none⟩ = some (.int .i64 ((rd_T43 l0_1 x8_1).f0)) ∧ w'.cell? ⟨gb243, 1, none⟩ = some (.int .i64 ((rd_T43 l0_1 x8_1).f1)) ∧ w'.cell? ⟨gb241, 0, none⟩ = some (.int .i64 a0_0) ∧ w'.cell? ⟨gb241, 1, none⟩ = some (.slice (some ad242) l0_1.length c0_1)) (ds := []) (bz 32 0) (by kernel_rfl) rfl rfl ⟨(blk_cell BK243.out 0).trans rfl, (blk_cell BK243.out 1).trans rfl, (blk_cell BK241.out 0).trans rfl, (blk_cell BK241.out 1).trans rfl⟩ (fun hHeld => ?_); refine with_tabW impl_IsParty.tab4 impl_IsParty.bits4 (fun HT_ HW_ => ?_)
        generalize w46.drew = w47 at BK241 BK243 HB hHeld ⊢
        refine run_ [(0, 0, 1, some 13), (1, 1, 3, some 14), (0, 2, 7, some 15), (0, 3, 15, some 16), (0, 4, 31, some 17), (0, 6, 95, some 19), (1, 5, 127, some 18), (1, 7, 255, some 20), (0, 8, 511, some 21), (0, 9, 1023, some 22), (0, 10, 2047, some 23), (0, 11, 4095, some 24), (0, 13, 12287, some 26), (1, 12, 16383, some 25), (1, 14, 32767, some 27), (0, 15, 65535, some 28), (0, 16, 131071, some 29), (0, 17, 262143, some 30), (0, 18, 524287, some 31), (0, 19, 1048575, some 32), (0, 20, 2097151, some 33), (2, 21, 4194303, some 34), (2, 22, 8388607, some 35), (2, 23, 16777215, some 36), (2, 24, 33554431, some 37), (2, 25, 67108863, some 38), (2, 26, 134217727, some 39), (2, 27, 268435455, some 40), (2, 28, 536870911, some 41), (2, 29, 1073741823, some 42), (0, 30, 2147483647, some 43), (0, 31, 4294967295, some 44)] ?_
        repeat (first | (apply tag0; refine run_p (v := ?_) (a' := ?_) rfl rfl (any_of HT_.out (by kernel_rfl)) (fun _ _ _ h => h) (by rfl) ?_ ?_ ?_; rotate_left 2; (intro w'; go_simp; with_reducible rfl); (first | (simp only [Act.put, List.setIfInBounds_toArray, List.set_cons_zero, List.set_cons_succ, i64_w, i32_w]; rfl) | rfl)) | (apply tag1; refine run_t (v := ?_) (a' := ?_) rfl rfl (take_ofW HT_.out HW_.out (by kernel_rfl)) (fun _ _ _ h => h) (by rfl) ?_ hHeld ?_ ?_; rotate_left 2; (rintro w' ⟨s0, s1, s2, s3⟩; go_simp; with_reducible rfl); (first | (simp only [Act.put, List.setIfInBounds_toArray, List.set_cons_zero, List.set_cons_succ, i64_w, i32_w]; rfl) | rfl)) | (apply tag2; refine run_o (a' := ?_) rfl rfl (any_of HT_.out (by kernel_rfl)) (fun _ _ _ h => h) (by rfl) ?_ ?_; rotate_left; (first | (simp only [Act.put, List.setIfInBounds_toArray, List.set_cons_zero, List.set_cons_succ, i64_w, i32_w]; rfl) | rfl)))
        refine run_nil ?_
        refine done_ (done_of HT_.out (by kernel_rfl)) ?_
        try go_wp2
        go_roundg k1
        case measure => have := HK1.out; omega
        case rel => exact ⟨(wrap64 (x8_1 + 1)), sR, H', ⟨by have := HK1.out; omega⟩, ⟨bK⟩, ⟨hB⟩⟩
   ·rw [if_neg c4] at H
    have c4b0 := decide_eq_false c4
    clear c4
    replace H := Option.bind_eq_some_iff.mp H
    obtain ⟨t246, A480, H⟩ := H
    replace H : (some t246) = some r := H
    have A48 := Aside0.mk A480
    clear A480
    obtain rfl := Option.some.inj H
    obtain ⟨hcz49_0, hcz49_1, hfz49_0, hfz49_1⟩ := cf2 BK241
    go_wp2_with (first | ((with_reducible refine gate_callee (f := 110) rfl ?_); refine goC (N := some 48) Tryd.func110 #[.int .i64 a0_0] rfl ?_; (with_reducible refine (impl_areCrowd.calls a0_0 t246 _ A48.out).mono ?_); rintro e w' ⟨rfl, ⟨nd, rfl⟩⟩; refine ⟨_, rfl, ?_⟩))
    go_ret
    exact ⟨eW, hB⟩

/-! ### impl_Party_table: function 97 -/
def impl_Party_table.l0 : Nat → List Int → List (S43) → Int → Int → Option (List Int)
 | 0, _, _, _, _ => none
 | k + 1, x3, x10, x11, x12 => if x12 < x11 then (if 0 ≤ x12 then (if x12 < (x10.length : Int) then (if 0 ≤ ((rd_T43 x10 x12).f0) then (if ((rd_T43 x10 x12).f0) < (x3.length : Int) then (if 0 ≤ ((rd_T43 x10 x12).f1) then ((some (x3.set (((rd_T43 x10 x12).f0) : Int).toNat (Go.bits .or .u16 (rd x3 ((rd_T43 x10 x12).f0)) (shl .u16 1 ((rd_T43 x10 x12).f1))) : List Int)).bind fun y254 => (if ((rd_T43 x10 x12).f1) < (x3.length : Int) then (impl_Party_table.l0 k (y254.set (((rd_T43 x10 x12).f1) : Int).toNat (Go.bits .or .u16 (rd y254 ((rd_T43 x10 x12).f1)) (shl .u16 1 ((rd_T43 x10 x12).f0)))) x10 x11 (wrap64 (x12 + 1))) else (none))) else (none)) else (none)) else (none)) else (none)) else (none)) else (some x3)
def impl_Party_table.f (k : Nat) (a0_0 : Int) (l0_1 : List (S43)) : Option (List Int) := if 0 ≤ a0_0 then (if (a0_0 : Int).toNat ≤ 140737488355328 then (impl_Party_table.l0 k (List.replicate (a0_0 : Int).toNat 0) l0_1 (l0_1.length : Int) 0) else (none)) else (none)
theorem impl_Party_table.mono_l : ∀ k, (∀ y0 y1 y2 y3, LeO (impl_Party_table.l0 k y0 y1 y2 y3) (impl_Party_table.l0 (k + 1) y0 y1 y2 y3))
 | 0 => fun _ _ _ _ r h => by simp [impl_Party_table.l0] at h
 | k + 1 => by
  have ih0 := impl_Party_table.mono_l k
  ·intro y0 y1 y2 y3
   unfold impl_Party_table.l0
   repeat' first | (with_reducible first | exact ih0 .. | exact LeO.refl _ | exact LeO.none _ | refine LeO.ite ?_ ?_ | refine LeO.bind ?_ (fun _ => ?_)) | exact ih0 .. | exact LeO.none _ | refine LeO.ite ?_ ?_ | refine LeO.bind ?_ (fun _ => ?_)
theorem impl_Party_table.mono : ∀ a0 a1 k, LeO (impl_Party_table.f k a0 a1) (impl_Party_table.f (k + 1) a0 a1) := by
 intro a0 a1 k
 have ih0 := impl_Party_table.mono_l k
 unfold impl_Party_table.f
 repeat' first | (with_reducible first | exact ih0 .. | exact LeO.refl _ | exact LeO.none _ | refine LeO.ite ?_ ?_ | refine LeO.bind ?_ (fun _ => ?_)) | exact ih0 .. | exact LeO.none _ | refine LeO.ite ?_ ?_ | refine LeO.bind ?_ (fun _ => ?_)
def impl_Party_table.T5 : Bool × List (List Nat × List Nat) := (true, [([], []), ([], []), ([1], [1]), ([0, 2], [0, 2]), ([3], [3]), ([], []), ([5], [5]), ([6], [6]), ([4, 7], [4, 7]), ([0, 2, 0, 1, 2, 3, 4, 5, 6, 7, 8], [0, 2]), ([9, 8, 0, 1, 2, 3, 4, 5, 6, 7, 8], [8, 9])])
def impl_Party_table.B5 : List Nat := [0, 0, 2, 7, 15, 0, 32, 96, 255, 511, 1023]
theorem impl_Party_table.tab5 : rtab .any (opsOf Tryd.f97 5) = impl_Party_table.T5 := by kernel_rfl
theorem impl_Party_table.bits5 : waitsOk impl_Party_table.T5.2 impl_Party_table.B5 = true := by kernel_rfl
def impl_Party_table.T6 : Bool × List (List Nat × List Nat) := (true, [([], []), ([], []), ([1], [1]), ([0, 2], [0, 2]), ([3], [3]), ([], []), ([5], [5]), ([6], [6]), ([4, 7], [4, 7]), ([0, 2, 0, 1, 2, 3, 4, 5, 6, 7, 8], [0, 2]), ([9, 8, 0, 1, 2, 3, 4, 5, 6, 7, 8], [8, 9])])
def impl_Party_table.B6 : List Nat := [0, 0, 2, 7, 15, 0, 32, 96, 255, 511, 1023]
theorem impl_Party_table.tab6 : rtab .any (opsOf Tryd.f97 6) = impl_Party_table.T6 := by kernel_rfl
theorem impl_Party_table.bits6 : waitsOk impl_Party_table.T6.2 impl_Party_table.B6 = true := by kernel_rfl
theorem impl_Party_table.calls (k : Nat) (a0_0 : Int) (A0_1 : Option Addr) (c0_1 : Nat) (l0_1 : List (S43)) (r : List Int) (w : World) (hr0_1 : Kd.C k43 w A0_1 l0_1.length l0_1) (hc0_1 : l0_1.length ≤ c0_1) (h : impl_Party_table.f k a0_0 l0_1 = some r) :
  Calls Tryd.prog 97 #[.agg #[.int .i64 a0_0, .slice A0_1 l0_1.length c0_1]] w fun e w' => ∃ v0_ : Value, e = .returned (v0_) ∧ Kd.R (Kd.int .u16) 71 w' w.heap.size (fun _ => True) v0_ r ∧ Below w.heap.size w w' := by
 have hu52 := Tryd.underlying52
 have hu43 := Tryd.underlying43
 have HR0_1 := Aside0.mk hr0_1
 have HC0_1 := Aside0.mk hc0_1
 clear hr0_1 hc0_1
 have HB := Aside0.mk (Below.refl w.heap.size w)
 have H : (if 0 ≤ a0_0 then (if (a0_0 : Int).toNat ≤ 140737488355328 then (impl_Party_table.l0 k (List.replicate (a0_0 : Int).toNat 0) l0_1 (l0_1.length : Int) 0) else (none)) else (none)) = some r := h
 clear h
 by_cases c2 : 0 ≤ a0_0
 ·rw [if_pos c2] at H
  have c2b0 := eq_true c2
  have c2b1 : decide (0 ≤ a0_0) = true := decide_eq_true c2
  clear c2
  replace H := ifP H; obtain ⟨c3, H⟩ := H
  have c3b0 := eq_true c3
  have c3b1 : decide ((a0_0 : Int).toNat ≤ 140737488355328) = true := decide_eq_true c3
  clear c3
  obtain ⟨y248, hy248⟩ : ∃ y_ : List Int, y_ = (List.replicate (a0_0 : Int).toNat 0) := ⟨_, rfl⟩
  replace H : (impl_Party_table.l0 k y248 l0_1 (l0_1.length : Int) 0) = some r := by first | (rw [hy248]; with_reducible exact H) | (have H2_ := (Option.bind_some _ _).symm.trans H; rw [hy248]; with_reducible exact H2_) | (have H2_ := (Option.bind_some _ _).symm.trans H; with_reducible exact H2_) | with_reducible exact H | (rw [hy248]; exact H) | exact H
  have Ny248 := Aside0.mk hy248
  clear hy248
  have H' := Aside0.mk H
  clear H
  go_enter Tryd.func97, Tryd.ntmps97
  go_wp2_with (first | ((with_reducible refine gate_dst (N := 1) rfl ?_); refine bxE 1 #[.int .i64 a0_0, .slice A0_1 l0_1.length c0_1] 52 rfl ?_; intro gb247 hg w4 hbox hb; have BK247 := Aside0.mk (hbox); have GW247 := gS HB hg; have GE247 := gS HB hg; replace HB := hS HB hb; clear hb hbox hg; obtain ⟨hcz5_0, hcz5_1, hfz5_0, hfz5_1⟩ := cf2 BK247) | ((with_reducible refine gate_dst (N := 8) rfl ?_); refine Kd.R_make (Kd.int .u16) _ 71 rfl (N := 8) rfl 94 _ _ rfl a0_0 rfl rfl Tryd.underlying94 (.int .u16 0) 2 info71 rfl (by decide) (by omega) 0 (ok := fun _ => True) (okp := fun _ => True) rfl (fun _ hk => hk) trivial (of_decide_eq_true (by first | (with_reducible assumption) | assumption)) (Nat.le_trans (Nat.mul_le_mul_right _ (of_decide_eq_true (by first | (with_reducible assumption) | assumption) : a0_0.toNat ≤ 140737488355328)) (by omega)) (Below.refl _ _) (Nat.le_refl _) ?_; intro v249 w6 ho7 hb hg_ hnew_; clear hg_ hnew_; (first | rw [← Ny248.out] at ho7 | (simp only [Int.reduceToNat] at ho7; rw [← Ny248.out] at ho7)); have HO250 := Aside0.mk (Kd.R_lower ho7 (below_size hB)); replace BK247 := bS BK247 hb; replace HB := hS HB hb; clear hb ho7; obtain ⟨hcz8_0, hcz8_1, hfz8_0, hfz8_1⟩ := cf2 BK247))
  go_loopg [12] k (fun kq v12 w' => ∃ (x3_1 : List Int) (x12_1 : Int), v12 = .int .i64 x12_1 ∧ Aside0 (impl_Party_table.l0 kq x3_1 l0_1 (l0_1.length : Int) x12_1 = some r) ∧ Aside0 (kq ≤ k) ∧ Aside0 (Kd.R (Kd.int .u16) 71 w' w.heap.size (fun _ => True) v249 x3_1) ∧ Aside0 (w'.heap[gb247]? = some (.cells #[.int .i64 a0_0, (.slice A0_1 l0_1.length c0_1)] 52 (0, 0))) ∧ Aside0 (Below w.heap.size w w'))
  case atStart => exact ⟨(y248), (0), sR, H', ⟨Nat.le_refl _⟩, ⟨rU HO250⟩, ⟨bK⟩, ⟨hB⟩⟩
  case round =>
   clear H'
   (try clear c2); (try clear c2b0); (try clear c2b1); (try clear c3); (try clear c3b0); (try clear c3b1); (try clear hcz5_0 hcz5_1 hfz5_0 hfz5_1); (try clear hcz8_0 hcz8_1 hfz8_0 hfz8_1)
   obtain ⟨x3_1, x12_1, rfl, HA, HK1, HO_3, BK247, HB⟩ := hrel
   cases gk with
   | zero => exact absurd HA.out (by simp [impl_Party_table.l0])
   | succ k1 =>
    have H := HA.out
    clear HA
    simp only [impl_Party_table.l0] at H
    by_cases c9 : x12_1 < (l0_1.length : Int)
    ·rw [if_pos c9] at H
     have c9b0 := decide_eq_true c9
     clear c9
     replace H := ifD H; obtain ⟨c10b0, H⟩ := H
     replace H := ifD H; obtain ⟨c11b0, H⟩ := H
     replace H := ifD H; obtain ⟨c12b0, H⟩ := H
     replace H := ifD H; obtain ⟨c13b0, H⟩ := H
     replace H := ifP H; obtain ⟨c14, H⟩ := H
     have c14b0 := eq_true c14
     have c14b1 : decide (0 ≤ ((rd_T43 l0_1 x12_1).f1)) = true := decide_eq_true c14
     clear c14
     obtain ⟨ji15, hji15⟩ : ∃ j_ : Int, (shl .u16 1 ((rd_T43 l0_1 x12_1).f1)) = j_ := ⟨_, rfl⟩
     replace H : ((some (x3_1.set (((rd_T43 l0_1 x12_1).f0) : Int).toNat (Go.bits .or .u16 (rd x3_1 ((rd_T43 l0_1 x12_1).f0)) (ji15)) : List Int)).bind fun y254 => (if ((rd_T43 l0_1 x12_1).f1) < (x3_1.length : Int) then (impl_Party_table.l0 k1 (y254.set (((rd_T43 l0_1 x12_1).f1) : Int).toNat (Go.bits .or .u16 (rd y254 ((rd_T43 l0_1 x12_1).f1)) (shl .u16 1 ((rd_T43 l0_1 x12_1).f0)))) l0_1 (l0_1.length : Int) (wrap64 (x12_1 + 1))) else (none))) = some r := by first | (rw [hji15] at H; exact H) | (simp only [hji15] at H ⊢; exact H)
     have hji15_ : (IntKind.u16.wrap (1 * 2 ^ min ((rd_T43 l0_1 x12_1).f1).toNat 16)) = ji15 := hji15
     have hji15z : ((rd_T43 l0_1 x12_1).f1) ≤ 16 → (IntKind.u16.wrap (1 * 2 ^ ((rd_T43 l0_1 x12_1).f1).toNat)) = ji15 := shl_small hji15
     have hji15u : (IntKind.u16.wrap (2 ^ min ((rd_T43 l0_1 x12_1).f1).toNat 16)) = ji15 := by have h_ := hji15_; rw [Int.one_mul] at h_; exact h_
     have hji15v : ((rd_T43 l0_1 x12_1).f1) ≤ 16 → (IntKind.u16.wrap (2 ^ ((rd_T43 l0_1 x12_1).f1).toNat)) = ji15 := fun hle_ => by have h_ := hji15z hle_; rw [Int.one_mul] at h_; exact h_
     obtain ⟨y254, hy254⟩ : ∃ y_ : List Int, y_ = (x3_1.set (((rd_T43 l0_1 x12_1).f0) : Int).toNat (Go.bits .or .u16 (rd x3_1 ((rd_T43 l0_1 x12_1).f0)) (ji15))) := ⟨_, rfl⟩
     replace H : (if ((rd_T43 l0_1 x12_1).f1) < (x3_1.length : Int) then (impl_Party_table.l0 k1 (y254.set (((rd_T43 l0_1 x12_1).f1) : Int).toNat (Go.bits .or .u16 (rd y254 ((rd_T43 l0_1 x12_1).f1)) (shl .u16 1 ((rd_T43 l0_1 x12_1).f0)))) l0_1 (l0_1.length : Int) (wrap64 (x12_1 + 1))) else (none)) = some r := by first | (rw [hy254]; with_reducible exact H) | (have H2_ := (Option.bind_some _ _).symm.trans H; rw [hy254]; with_reducible exact H2_) | (have H2_ := (Option.bind_some _ _).symm.trans H; with_reducible exact H2_) | with_reducible exact H | (rw [hy254]; exact H) | exact H
     have Ny254 := Aside0.mk hy254
     clear hy254
     replace H := ifD H; obtain ⟨c17b0, H⟩ := H
     have c18b0 := eq_true (of_decide_eq_true (by first | (with_reducible assumption) | assumption) : 0 ≤ ((rd_T43 l0_1 x12_1).f0))
     obtain ⟨ji19, hji19⟩ : ∃ j_ : Int, (shl .u16 1 ((rd_T43 l0_1 x12_1).f0)) = j_ := ⟨_, rfl⟩
     replace H : (impl_Party_table.l0 k1 (y254.set (((rd_T43 l0_1 x12_1).f1) : Int).toNat (Go.bits .or .u16 (rd y254 ((rd_T43 l0_1 x12_1).f1)) (ji19))) l0_1 (l0_1.length : Int) (wrap64 (x12_1 + 1))) = some r := by first | (rw [hji19] at H; exact H) | (simp only [hji19] at H ⊢; exact H)
     have hji19_ : (IntKind.u16.wrap (1 * 2 ^ min ((rd_T43 l0_1 x12_1).f0).toNat 16)) = ji19 := hji19
     have hji19z : ((rd_T43 l0_1 x12_1).f0) ≤ 16 → (IntKind.u16.wrap (1 * 2 ^ ((rd_T43 l0_1 x12_1).f0).toNat)) = ji19 := shl_small hji19
     have hji19u : (IntKind.u16.wrap (2 ^ min ((rd_T43 l0_1 x12_1).f0).toNat 16)) = ji19 := by have h_ := hji19_; rw [Int.one_mul] at h_; exact h_
     have hji19v : ((rd_T43 l0_1 x12_1).f0) ≤ 16 → (IntKind.u16.wrap (2 ^ ((rd_T43 l0_1 x12_1).f0).toNat)) = ji19 := fun hle_ => by have h_ := hji19z hle_; rw [Int.one_mul] at h_; exact h_
     obtain ⟨y256, hy256⟩ : ∃ y_ : List Int, y_ = (y254.set (((rd_T43 l0_1 x12_1).f1) : Int).toNat (Go.bits .or .u16 (rd y254 ((rd_T43 l0_1 x12_1).f1)) (ji19))) := ⟨_, rfl⟩
     replace H : (impl_Party_table.l0 k1 y256 l0_1 (l0_1.length : Int) (wrap64 (x12_1 + 1))) = some r := by first | (rw [hy256]; with_reducible exact H) | (have H2_ := (Option.bind_some _ _).symm.trans H; rw [hy256]; with_reducible exact H2_) | (have H2_ := (Option.bind_some _ _).symm.trans H; with_reducible exact H2_) | with_reducible exact H | (rw [hy256]; exact H) | exact H
     have Ny256 := Aside0.mk hy256
     clear hy256
     have H' := Aside0.mk H
     clear H
     have p251 : 0 ≤ (x12_1 : Int) := of_decide_eq_true (by first | (with_reducible assumption) | assumption)
     have q251 : x12_1 < (l0_1.length : Int) := of_decide_eq_true (by first | (with_reducible assumption) | assumption)
     obtain ⟨ad251, e251, hx251_0, hx251_1⟩ := at_T43 HR0_1.out x12_1 p251 q251
     cases e251
     replace hx251_0 := (HB.out.cell (World.block_lt_of_cell? w _ hx251_0)).trans hx251_0
     replace hx251_1 := (HB.out.cell (World.block_lt_of_cell? w _ hx251_1)).trans hx251_1
     replace p251 := eq_true p251
     replace q251 := eq_true q251
     try go_wp2_with (first | ((with_reducible refine gate_dst (N := 5) rfl ?_); refine bxE 5 #[.int .i64 0, .int .i64 0] 43 rfl ?_; intro gb252 hg w21 hbox hb; have BK252 := Aside0.mk (hbox); have GW252 := gS HB hg; have GE252 := gS HB hg; have NB247_252 := nL BK247 hg; have NB252_247 := nG BK247 hg; replace HO_3 := rB HO_3 hb; replace BK247 := bS BK247 hb; replace HB := hS HB hb; clear hb hbox hg; have hnb22 := NB252_247.out; have hnc22 := NB247_252.out; obtain ⟨hcz23_0, hcz23_1, hfz23_0, hfz23_1⟩ := cf2 BK252))
     have n0_ : Aside0 (Kd.R (Kd.int .u16) 71 ((w21.setCell ⟨gb252, 0, none⟩ (.int .i64 ((rd_T43 l0_1 x12_1).f0))).setCell ⟨gb252, 1, none⟩ (.int .i64 ((rd_T43 l0_1 x12_1).f1))) w.heap.size (fun _ => True) v249 x3_1) := ⟨by (with_reducible repeat (first | apply Kd.R_alloc | apply Kd.R_drewN | apply Kd.R_drew)); exact Kd.R_mono (Kd.R_far (p := ⟨gb252, 1, none⟩) (Kd.R_far (p := ⟨gb252, 0, none⟩) (Kd.R_types HO_3.out BK252.out (by decide)) (fun _ hk => hk.2) (.int .i64 ((rd_T43 l0_1 x12_1).f0))) (fun _ hk => hk.2) (.int .i64 ((rd_T43 l0_1 x12_1).f1))) (fun _ hk => trivial)⟩
     have n1_ : Aside0 (((w21.setCell ⟨gb252, 0, none⟩ (.int .i64 ((rd_T43 l0_1 x12_1).f0))).setCell ⟨gb252, 1, none⟩ (.int .i64 ((rd_T43 l0_1 x12_1).f1))).heap[gb247]? = some (.cells #[.int .i64 a0_0, .slice (some ad251) l0_1.length c0_1] 52 (0, 0))) := ⟨by (with_reducible repeat (first | refine blk_drewN ?_ _ | refine blk_drew ?_ | refine blk_alloc ?_ _)); refine blk_far ?_ NB247_252.out _; (with_reducible repeat (first | refine blk_drewN ?_ _ | refine blk_drew ?_ | refine blk_alloc ?_ _)); refine blk_far ?_ NB247_252.out _; (with_reducible repeat (first | refine blk_drewN ?_ _ | refine blk_drew ?_ | refine blk_alloc ?_ _)); exact BK247.out⟩
     have n2_ : Aside0 (((w21.setCell ⟨gb252, 0, none⟩ (.int .i64 ((rd_T43 l0_1 x12_1).f0))).setCell ⟨gb252, 1, none⟩ (.int .i64 ((rd_T43 l0_1 x12_1).f1))).heap[gb252]? = some (.cells #[.int .i64 ((rd_T43 l0_1 x12_1).f0), .int .i64 ((rd_T43 l0_1 x12_1).f1)] 43 (0, 0))) := ⟨by (with_reducible repeat (first | refine blk_drewN ?_ _ | refine blk_drew ?_ | refine blk_alloc ?_ _)); refine blk_put (cs := #[.int .i64 ((rd_T43 l0_1 x12_1).f0), .int .i64 0]) ?_ 1 _ rfl; (with_reducible repeat (first | refine blk_drewN ?_ _ | refine blk_drew ?_ | refine blk_alloc ?_ _)); refine blk_put (cs := #[.int .i64 0, .int .i64 0]) ?_ 0 _ rfl; (with_reducible repeat (first | refine blk_drewN ?_ _ | refine blk_drew ?_ | refine blk_alloc ?_ _)); exact BK252.out⟩
     have n3_ : Aside0 (Below w.heap.size w ((w21.setCell ⟨gb252, 0, none⟩ (.int .i64 ((rd_T43 l0_1 x12_1).f0))).setCell ⟨gb252, 1, none⟩ (.int .i64 ((rd_T43 l0_1 x12_1).f1)))) := ⟨hB⟩
     (try clear HO_3)
     (try clear BK247)
     (try clear BK252)
     (try clear HB)
     generalize ((w21.setCell ⟨gb252, 0, none⟩ (.int .i64 ((rd_T43 l0_1 x12_1).f0))).setCell ⟨gb252, 1, none⟩ (.int .i64 ((rd_T43 l0_1 x12_1).f1))) = w24 at n0_ n1_ n2_ n3_ ⊢
     have HO_3 := n0_
     have BK247 := n1_
     have BK252 := n2_
     have HB := n3_
     clear n0_ n1_ n2_ n3_
     replace HO_3 := Aside0.mk (Kd.R_drew HO_3.out)
     replace BK247 := Aside0.mk (blk_drew BK247.out)
     replace BK252 := Aside0.mk (blk_drew BK252.out)
     replace HB := Aside0.mk (below_drew1 HB.out)
     obtain ⟨Ao26, co26, eo26⟩ := Kd.R_slice HO_3.out
     (first | subst eo26 | (injection eo26 with f1_ f2_ f3_; have f4_ := f1_.symm; have f5_ := f3_.symm; clear f1_ f2_ f3_; subst f4_; subst f5_))
     have p253 : 0 ≤ (((rd_T43 l0_1 x12_1).f0) : Int) := of_decide_eq_true (by first | (with_reducible assumption) | assumption)
     have q253 : ((rd_T43 l0_1 x12_1).f0) < (x3_1.length : Int) := of_decide_eq_true (by first | (with_reducible assumption) | assumption)
     obtain ⟨ad253, e253, hx253_0⟩ := Kd.at_int (Kd.R_reads' HO_3.out).2.2 ((rd_T43 l0_1 x12_1).f0) p253 q253
     cases e253
     replace p253 := eq_true p253
     replace q253 := eq_true q253
     have p16 : 0 ≤ (((rd_T43 l0_1 x12_1).f0) : Int) := of_decide_eq_true (by first | (with_reducible assumption) | assumption)
     have q16 : (((rd_T43 l0_1 x12_1).f0) : Int) < ((x3_1.length : Int) : Int) := of_decide_eq_true (by first | (with_reducible assumption) | assumption)
     obtain ⟨go16, co16, eo16, gb16, gl16, cl16, HG16⟩ := Kd.R_form HO_3.out (by omega)
     (first | cases eo16 | (injection eo16 with ea_ en_ ec_; (first | subst ea_ | (injection ea_ with ea_; subst ea_)); subst ec_; clear en_))
     have GB16 := Aside0.mk gb16
     have GG16 := Aside0.mk HG16
     clear gb16 gl16 HG16
     (first | simp only [add_plain] at hx253_0 | skip)
     obtain ⟨hx16_0, hf16_0⟩ := Kd.R_celln 0 HO_3.out (((rd_T43 l0_1 x12_1).f0) : Int) p16 q16
     replace p16 := eq_true p16
     replace q16 := eq_true q16
     have HP27 := Kd.R_putn HO_3.out (((rd_T43 l0_1 x12_1).f0) : Int) (Go.bits .or .u16 (rd x3_1 ((rd_T43 l0_1 x12_1).f0)) (ji15))
     rw [← Ny254.out] at HP27
     have HQ27 := Aside0.mk HP27
     clear HP27
     refine start_ (n := 11) (S := fun w' => w'.cell? ⟨gb252, 0, none⟩ = some (.int .i64 ((rd_T43 l0_1 x12_1).f0)) ∧ w'.cell? ⟨gb252, 1, none⟩ = some (.int .i64 ((rd_T43 l0_1 x12_1).f1)) ∧ w'.cell? ⟨go16, (((rd_T43 l0_1 x12_1).f0)).toNat, none⟩ = some (.int .u16 (rd x3_1 ((rd_T43 l0_1 x12_1).f0)))) (ds := [10]) (bz 11 0) (by kernel_rfl) rfl rfl ⟨(blk_cell BK252.out 0).trans rfl, (blk_cell BK252.out 1).trans rfl, hx253_0⟩ (fun hHeld => ?_); refine with_tabW impl_Party_table.tab5 impl_Party_table.bits5 (fun HT_ HW_ => ?_)
     generalize w24.drew = w25 at HO_3 BK247 BK252 HB GG16 HQ27 hf16_0 hx16_0 hx253_0 hHeld ⊢
     refine run_ [(0, 0, 1, some 16), (0, 1, 3, some 17), (0, 5, 35, some 21), (1, 2, 39, some 18), (0, 3, 47, some 19), (1, 4, 63, some 20), (1, 6, 127, some 22), (0, 7, 255, some 23), (0, 8, 511, some 24), (0, 9, 1023, some 25)] ?_
     repeat (first | (apply tag0; refine run_p (v := ?_) (a' := ?_) rfl rfl (any_of HT_.out (by kernel_rfl)) (fun _ _ _ h => h) (by rfl) ?_ ?_ ?_; rotate_left 2; (intro w'; go_simp; with_reducible rfl); (first | (simp only [Act.put, List.setIfInBounds_toArray, List.set_cons_zero, List.set_cons_succ, i64_w, i32_w]; rfl) | rfl)) | (apply tag1; refine run_t (v := ?_) (a' := ?_) rfl rfl (take_ofW HT_.out HW_.out (by kernel_rfl)) (fun _ _ _ h => h) (by rfl) ?_ hHeld ?_ ?_; rotate_left 2; (rintro w' ⟨s0, s1, s2⟩; go_simp; with_reducible rfl); (first | (simp only [Act.put, List.setIfInBounds_toArray, List.set_cons_zero, List.set_cons_succ, i64_w, i32_w]; rfl) | rfl)))
     refine run_nil ?_
     refine last_ (i := 10) (N := none) (bz 11 2047) rfl rfl (one_of HT_.out (by kernel_rfl)) (by decide) (fun K hK => ?_)
     refine skip_ (w1 := ?_) (by rfl) rfl ?_ ?_
     rotate_left
     ·go_simp
      rfl
     refine hK.out _ _ ?_
     clear hK K
     refine done_ (done_of HT_.out (by kernel_rfl)) ?_
     try go_wp2
     have n0_ : Aside0 (Kd.R (Kd.int .u16) 71 (w25.setCell ⟨go16, (((rd_T43 l0_1 x12_1).f0) : Int).toNat, none⟩ (.int .u16 (Go.bits .or .u16 (rd x3_1 ((rd_T43 l0_1 x12_1).f0)) (ji15)))) w.heap.size (fun _ => True) (.slice (some ⟨go16, 0, none⟩) x3_1.length co26) y254) := ⟨by (with_reducible repeat (first | apply Kd.R_alloc | apply Kd.R_drewN | apply Kd.R_drew)); exact HQ27.out⟩
     have n1_ : Aside0 ((w25.setCell ⟨go16, (((rd_T43 l0_1 x12_1).f0) : Int).toNat, none⟩ (.int .u16 (Go.bits .or .u16 (rd x3_1 ((rd_T43 l0_1 x12_1).f0)) (ji15)))).heap[gb247]? = some (.cells #[.int .i64 a0_0, .slice (some ad251) l0_1.length c0_1] 52 (0, 0))) := ⟨by (with_reducible repeat (first | refine blk_drewN ?_ _ | refine blk_drew ?_ | refine blk_alloc ?_ _)); refine blk_far ?_ (by have h_ := Kd.R_ne HO_3.out BK247.out (by decide); intro e_; exact h_ (by rw [e_]; rfl)) _; (with_reducible repeat (first | refine blk_drewN ?_ _ | refine blk_drew ?_ | refine blk_alloc ?_ _)); exact BK247.out⟩
     have n2_ : Aside0 ((w25.setCell ⟨go16, (((rd_T43 l0_1 x12_1).f0) : Int).toNat, none⟩ (.int .u16 (Go.bits .or .u16 (rd x3_1 ((rd_T43 l0_1 x12_1).f0)) (ji15)))).heap[gb252]? = some (.cells #[.int .i64 ((rd_T43 l0_1 x12_1).f0), .int .i64 ((rd_T43 l0_1 x12_1).f1)] 43 (0, 0))) := ⟨by (with_reducible repeat (first | refine blk_drewN ?_ _ | refine blk_drew ?_ | refine blk_alloc ?_ _)); refine blk_far ?_ (by have h_ := Kd.R_ne HO_3.out BK252.out (by decide); intro e_; exact h_ (by rw [e_]; rfl)) _; (with_reducible repeat (first | refine blk_drewN ?_ _ | refine blk_drew ?_ | refine blk_alloc ?_ _)); exact BK252.out⟩
     have n3_ : Aside0 (Below w.heap.size w (w25.setCell ⟨go16, (((rd_T43 l0_1 x12_1).f0) : Int).toNat, none⟩ (.int .u16 (Go.bits .or .u16 (rd x3_1 ((rd_T43 l0_1 x12_1).f0)) (ji15))))) := ⟨by repeat (first | (with_reducible first | exact HB.out | apply below_alloc | apply pw_below_drewN | apply below_drew1 | refine below_set ?_ GB16.out | refine below_set ?_ GE247.out | refine below_set ?_ GE252.out) | exact HB.out)⟩
     (try clear HO_3)
     (try clear BK247)
     (try clear BK252)
     (try clear HB)
     generalize (w25.setCell ⟨go16, (((rd_T43 l0_1 x12_1).f0) : Int).toNat, none⟩ (.int .u16 (Go.bits .or .u16 (rd x3_1 ((rd_T43 l0_1 x12_1).f0)) (ji15)))) = w28 at n0_ n1_ n2_ n3_ ⊢
     have HO_3 := n0_
     have BK247 := n1_
     have BK252 := n2_
     have HB := n3_
     clear n0_ n1_ n2_ n3_
     replace HO_3 := Aside0.mk (Kd.R_drew HO_3.out)
     replace BK247 := Aside0.mk (blk_drew BK247.out)
     replace BK252 := Aside0.mk (blk_drew BK252.out)
     replace HB := Aside0.mk (below_drew1 HB.out)
     have p255 : 0 ≤ (((rd_T43 l0_1 x12_1).f1) : Int) := of_decide_eq_true (by first | (with_reducible assumption) | assumption)
     have q255 : ((rd_T43 l0_1 x12_1).f1) < (y254.length : Int) := (by have h_ : (((rd_T43 l0_1 x12_1).f1) : Int) < ((x3_1.length : Int) : Int) := of_decide_eq_true (by first | (with_reducible assumption) | assumption); first | (have e_ := (Kd.R_reads' HO_3.out).1; omega) | simpa only [Ny254.out, List.length_set] using h_)
     have ql255 : ((((rd_T43 l0_1 x12_1).f1) : Int) < ((x3_1.length : Int) : Int)) = True := eq_true (of_decide_eq_true (by first | (with_reducible assumption) | assumption))
     obtain ⟨ad255, e255, hx255_0⟩ := Kd.at_int (Kd.R_reads' HO_3.out).2.2 ((rd_T43 l0_1 x12_1).f1) p255 q255
     obtain rfl : (⟨go16, 0, none⟩ : Addr) = ad255 := (by injection e255)
     (first | simp only [add_plain] at hx255_0 | simp only [add_at] at hx255_0 | simp only [Addr.add, Nat.zero_add] at hx255_0 | skip)
     replace p255 := eq_true p255
     replace q255 := eq_true q255
     have p20 : 0 ≤ (((rd_T43 l0_1 x12_1).f1) : Int) := of_decide_eq_true (by first | (with_reducible assumption) | assumption)
     have q20 : (((rd_T43 l0_1 x12_1).f1) : Int) < ((x3_1.length : Int) : Int) := of_decide_eq_true (by first | (with_reducible assumption) | assumption)
     obtain ⟨hx20_0, hf20_0⟩ := Kd.R_celln 0 HO_3.out (((rd_T43 l0_1 x12_1).f1) : Int) p20 q20
     replace p20 := eq_true p20
     replace q20 := eq_true q20
     have HP30 := Kd.R_putn HO_3.out (((rd_T43 l0_1 x12_1).f1) : Int) (Go.bits .or .u16 (rd y254 ((rd_T43 l0_1 x12_1).f1)) (ji19))
     rw [← Ny256.out] at HP30
     have HQ30 := Aside0.mk HP30
     clear HP30
     refine start_ (n := 11) (S := fun w' => w'.cell? ⟨gb252, 0, none⟩ = some (.int .i64 ((rd_T43 l0_1 x12_1).f0)) ∧ w'.cell? ⟨gb252, 1, none⟩ = some (.int .i64 ((rd_T43 l0_1 x12_1).f1)) ∧ w'.cell? ⟨go16, (((rd_T43 l0_1 x12_1).f1)).toNat, none⟩ = some (.int .u16 (rd y254 ((rd_T43 l0_1 x12_1).f1)))) (ds := [10]) (bz 11 0) (by kernel_rfl) rfl rfl ⟨(blk_cell BK252.out 0).trans rfl, (blk_cell BK252.out 1).trans rfl, hx255_0⟩ (fun hHeld => ?_); refine with_tabW impl_Party_table.tab6 impl_Party_table.bits6 (fun HT_ HW_ => ?_)
     generalize w28.drew = w29 at HO_3 BK247 BK252 HB HQ27 HQ30 hf20_0 hx20_0 hx255_0 hHeld ⊢
     refine run_ [(0, 0, 1, some 26), (0, 1, 3, some 27), (0, 5, 35, some 31), (1, 2, 39, some 28), (0, 3, 47, some 29), (1, 4, 63, some 30), (1, 6, 127, some 32), (0, 7, 255, some 33), (0, 8, 511, some 34), (0, 9, 1023, some 35)] ?_
     repeat (first | (apply tag0; refine run_p (v := ?_) (a' := ?_) rfl rfl (any_of HT_.out (by kernel_rfl)) (fun _ _ _ h => h) (by rfl) ?_ ?_ ?_; rotate_left 2; (intro w'; go_simp; with_reducible rfl); (first | (simp only [Act.put, List.setIfInBounds_toArray, List.set_cons_zero, List.set_cons_succ, i64_w, i32_w]; rfl) | rfl)) | (apply tag1; refine run_t (v := ?_) (a' := ?_) rfl rfl (take_ofW HT_.out HW_.out (by kernel_rfl)) (fun _ _ _ h => h) (by rfl) ?_ hHeld ?_ ?_; rotate_left 2; (rintro w' ⟨s0, s1, s2⟩; go_simp; with_reducible rfl); (first | (simp only [Act.put, List.setIfInBounds_toArray, List.set_cons_zero, List.set_cons_succ, i64_w, i32_w]; rfl) | rfl)))
     refine run_nil ?_
     refine last_ (i := 10) (N := none) (bz 11 2047) rfl rfl (one_of HT_.out (by kernel_rfl)) (by decide) (fun K hK => ?_)
     refine skip_ (w1 := ?_) (by rfl) rfl ?_ ?_
     rotate_left
     ·go_simp
      rfl
     refine hK.out _ _ ?_
     clear hK K
     refine done_ (done_of HT_.out (by kernel_rfl)) ?_
     try go_wp2
     go_roundg k1
     case measure => have := HK1.out; omega
     case rel => exact ⟨(y256), (wrap64 (x12_1 + 1)), sR, H', ⟨by have := HK1.out; omega⟩, ⟨by (with_reducible repeat (first | apply Kd.R_alloc | apply Kd.R_drewN | apply Kd.R_drew)); exact HQ30.out⟩, ⟨by (with_reducible repeat (first | refine blk_drewN ?_ _ | refine blk_drew ?_ | refine blk_alloc ?_ _)); refine blk_far ?_ (by have h_ := Kd.R_ne HO_3.out BK247.out (by decide); intro e_; exact h_ (by rw [e_]; rfl)) _; (with_reducible repeat (first | refine blk_drewN ?_ _ | refine blk_drew ?_ | refine blk_alloc ?_ _)); exact BK247.out⟩, ⟨by repeat (first | (with_reducible first | exact HB.out | apply below_alloc | apply pw_below_drewN | apply below_drew1 | refine below_set ?_ GB16.out | refine below_set ?_ GE247.out | refine below_set ?_ GE252.out) | exact HB.out)⟩⟩
    ·rw [if_neg c9] at H
     have c9b0 := decide_eq_false c9
     clear c9
     obtain rfl := Option.some.inj H
     go_wp2
     go_ret
     exact ⟨_, eW, rU HO_3, hB⟩
 ·rw [if_neg c2] at H
  exact absurd H (by simp)

/-! ### impl_table_has: function 99 -/
def impl_table_has.f (l0 : List Int) (a1 : Int) (a2 : Int) : Option (Bool) := if 0 ≤ a1 then (if a1 < (l0.length : Int) then (if 0 ≤ a2 then (some ((Go.bits .and .u16 (shr .u16 (rd l0 a1) a2) 1) == 1)) else (none)) else (none)) else (none)
theorem impl_table_has.calls (A0 : Option Addr) (c0 : Nat) (l0 : List Int) (a1 : Int) (a2 : Int) (r : Bool) (w : World) (hr0 : Kd.C (Kd.int .u16) w A0 l0.length l0) (hc0 : l0.length ≤ c0) (h : impl_table_has.f l0 a1 a2 = some r) :
  Calls Tryd.prog 99 #[.slice A0 l0.length c0, .int .i64 a1, .int .i64 a2] w fun e w' => e = .returned (.bool r) ∧ Drawn0 w w' := by
 have HR0 := Aside0.mk hr0
 have HC0 := Aside0.mk hc0
 clear hr0 hc0
 have H : (if 0 ≤ a1 then (if a1 < (l0.length : Int) then (if 0 ≤ a2 then (some ((Go.bits .and .u16 (shr .u16 (rd l0 a1) a2) 1) == 1)) else (none)) else (none)) else (none)) = some r := h
 clear h
 by_cases c4 : 0 ≤ a1
 ·rw [if_pos c4] at H
  have c4b0 := decide_eq_true c4
  clear c4
  replace H := ifD H; obtain ⟨c5b0, H⟩ := H
  replace H := ifP H; obtain ⟨c6, H⟩ := H
  have c6b0 := eq_true c6
  have c6b1 : decide (0 ≤ a2) = true := decide_eq_true c6
  clear c6
  obtain ⟨ji7, hji7⟩ : ∃ j_ : Int, (shr .u16 (rd l0 a1) a2) = j_ := ⟨_, rfl⟩
  replace H : (some ((Go.bits .and .u16 (ji7) 1) == 1)) = some r := by first | (rw [hji7] at H; exact H) | (simp only [hji7] at H ⊢; exact H)
  have hji7_ : ((rd l0 a1) / 2 ^ min a2.toNat 16) = ji7 := hji7
  have hji7z : a2 ≤ 16 → ((rd l0 a1) / 2 ^ a2.toNat) = ji7 := shr_small hji7
  obtain rfl := Option.some.inj H
  have p257 : 0 ≤ (a1 : Int) := of_decide_eq_true (by first | (with_reducible assumption) | assumption)
  have q257 : a1 < (l0.length : Int) := of_decide_eq_true (by first | (with_reducible assumption) | assumption)
  obtain ⟨ad257, e257, hx257_0⟩ := Kd.at_int HR0.out a1 p257 q257
  cases e257
  replace p257 := eq_true p257
  replace q257 := eq_true q257
  go_enter Tryd.func99, Tryd.ntmps99
  go_wp2
  go_ret
  exact ⟨by first | rfl | (simp; done) | (simp only [← hji7] <;> (first | rfl | simp)) | (simp [*]; done), by repeat (first | exact Drawn0.refl _ | apply Drawn0.step)⟩
 ·rw [if_neg c4] at H
  exact absurd H (by simp)

/-! ### impl_threes: function 98 -/
mutual
def impl_threes.l0 : Nat → Int → List Int → List (List Int) → Int → Int → Option ((List (List Int)))
 | 0, _, _, _, _, _ => none
 | k + 1, x0, x1, x5, x10, x11 => if x11 < x10 then (impl_threes.l1 k x0 x1 x5 x11 (wrap64 (x11 + 1)) x10 x11) else (some x5)
def impl_threes.l1 : Nat → Int → List Int → List (List Int) → Int → Int → Int → Int → Option ((List (List Int)))
 | 0, _, _, _, _, _, _, _ => none
 | k + 1, x0, x1, x5, x6, x7, x10, x11 => if x7 < x0 then (impl_threes.l2 k x0 x1 x5 x6 x7 (wrap64 (x7 + 1)) x10 x11) else (impl_threes.l0 k x0 x1 x5 x10 (wrap64 (x11 + 1)))
def impl_threes.l2 : Nat → Int → List Int → List (List Int) → Int → Int → Int → Int → Int → Option ((List (List Int)))
 | 0, _, _, _, _, _, _, _, _ => none
 | k + 1, x0, x1, x5, x6, x7, x8, x10, x11 => if x8 < x0 then ((impl_table_has.f x1 x6 x7).bind fun t261 => (if t261 = true then ((impl_table_has.f x1 x6 x8).bind fun t262 => (if t262 = true then ((impl_table_has.f x1 x7 x8).bind fun t263 => (if t263 = true then (if x5.length < 5864062014805 then (impl_threes.l2 k x0 x1 (x5 ++ [(([x6, x7, x8] : List Int))]) x6 x7 (wrap64 (x8 + 1)) x10 x11) else (none)) else (impl_threes.l2 k x0 x1 x5 x6 x7 (wrap64 (x8 + 1)) x10 x11))) else (impl_threes.l2 k x0 x1 x5 x6 x7 (wrap64 (x8 + 1)) x10 x11))) else (impl_threes.l2 k x0 x1 x5 x6 x7 (wrap64 (x8 + 1)) x10 x11))) else (impl_threes.l1 k x0 x1 x5 x6 (wrap64 (x7 + 1)) x10 x11)
end
def impl_threes.f (k : Nat) (a0 : Int) (l1 : List Int) : Option ((List (List Int))) := impl_threes.l0 k a0 l1 (([] : List (List Int))) a0 0
theorem impl_threes.mono_l : ∀ k, (∀ y0 y1 y2 y3 y4, LeO (impl_threes.l0 k y0 y1 y2 y3 y4) (impl_threes.l0 (k + 1) y0 y1 y2 y3 y4)) ∧ (∀ y0 y1 y2 y3 y4 y5 y6, LeO (impl_threes.l1 k y0 y1 y2 y3 y4 y5 y6) (impl_threes.l1 (k + 1) y0 y1 y2 y3 y4 y5 y6)) ∧ (∀ y0 y1 y2 y3 y4 y5 y6 y7, LeO (impl_threes.l2 k y0 y1 y2 y3 y4 y5 y6 y7) (impl_threes.l2 (k + 1) y0 y1 y2 y3 y4 y5 y6 y7))
 | 0 => ⟨fun _ _ _ _ _ r h => by simp [impl_threes.l0] at h, fun _ _ _ _ _ _ _ r h => by simp [impl_threes.l1] at h, fun _ _ _ _ _ _ _ _ r h => by simp [impl_threes.l2] at h⟩
 | k + 1 => by
  obtain ⟨ih0, ih1, ih2⟩ := impl_threes.mono_l k
  refine ⟨?_, ?_, ?_⟩ <;> intros <;> (first | unfold impl_threes.l0 | unfold impl_threes.l1 | unfold impl_threes.l2)
  all_goals (repeat' first | (with_reducible first | exact ih0 .. | exact ih1 .. | exact ih2 .. | exact LeO.refl _ | exact LeO.none _ | refine LeO.ite ?_ ?_ | refine LeO.bind ?_ (fun _ => ?_)) | exact ih0 .. | exact ih1 .. | exact ih2 .. | exact LeO.none _ | refine LeO.ite ?_ ?_ | refine LeO.bind ?_ (fun _ => ?_))
theorem impl_threes.mono : ∀ a0 a1 k, LeO (impl_threes.f k a0 a1) (impl_threes.f (k + 1) a0 a1) := by
 intro a0 a1 k
 obtain ⟨ih0, ih1, ih2⟩ := impl_threes.mono_l k
 unfold impl_threes.f
 repeat' first | (with_reducible first | exact ih0 .. | exact ih1 .. | exact ih2 .. | exact LeO.refl _ | exact LeO.none _ | refine LeO.ite ?_ ?_ | refine LeO.bind ?_ (fun _ => ?_)) | exact ih0 .. | exact ih1 .. | exact ih2 .. | exact LeO.none _ | refine LeO.ite ?_ ?_ | refine LeO.bind ?_ (fun _ => ?_)
theorem impl_threes.calls (k : Nat) (a0 : Int) (A1 : Option Addr) (c1 : Nat) (l1 : List Int) (r : List (List Int)) (w : World) (hr1 : Kd.C (Kd.int .u16) w A1 l1.length l1) (hc1 : l1.length ≤ c1) (h : impl_threes.f k a0 l1 = some r) :
  Calls Tryd.prog 98 #[.int .i64 a0, .func (.func 99) #[.slice A1 l1.length c1] #[]] w fun e w' => ∃ v0_ : Value, e = .returned (v0_) ∧ Kd.S (Kd.slice 3 (Kd.int .i64)) 32 w' w.heap.size (fun _ => True) v0_ r ∧ Below w.heap.size w w' := by
 have HR1 := Aside0.mk hr1
 have HC1 := Aside0.mk hc1
 clear hr1 hc1
 have HB := Aside0.mk (Below.refl w.heap.size w)
 have H : (impl_threes.l0 k a0 l1 (([] : List (List Int))) a0 0) = some r := h
 clear h
 obtain ⟨y258, hy258⟩ : ∃ y_ : List (List Int), y_ = (([] : List (List Int))) := ⟨_, rfl⟩
 replace H : (impl_threes.l0 k a0 l1 y258 a0 0) = some r := by first | (rw [hy258]; with_reducible exact H) | (have H2_ := (Option.bind_some _ _).symm.trans H; rw [hy258]; with_reducible exact H2_) | (have H2_ := (Option.bind_some _ _).symm.trans H; with_reducible exact H2_) | with_reducible exact H | (rw [hy258]; exact H) | exact H
 have Ny258 := Aside0.mk hy258
 clear hy258
 have H' := Aside0.mk H
 clear H
 go_enter Tryd.func98, Tryd.ntmps98
 go_wp2_with (first | ((with_reducible refine gate_dst (N := 9) rfl ?_); refine Kd.S_lit (Kd.slice 3 (Kd.int .i64)) _ 32 ?hg (N := 9) ?hd (xs := ([] : List (List Int))) (inner := []) (ok := fun _ => True) (okp := fun _ => True) ?hr ?hp (fun _ hk => hk) trivial (Below.refl _ _) (Nat.le_refl _) (by simp) ?_; (case hd => rfl); (case hg => rfl); (case hr => first | (go_simp; done) | (go_simp; rfl)); (case hp => exact (Reps.none _ _)); intro v259 w3 ho4 hb hg_ hnew_; clear hg_ hnew_; (first | rw [← Ny258.out] at ho4 | (simp only [Int.reduceToNat] at ho4; rw [← Ny258.out] at ho4)); have HO260 := Aside0.mk (Kd.S_lower ho4 (below_size hB)); replace HB := hS HB hb; clear hb ho4))
 go_loopg [5, 11] k (fun kq v5 v11 w' => ∃ (x5_1 : List (List Int)) (x11_1 : Int), v11 = .int .i64 x11_1 ∧ Aside0 (impl_threes.l0 kq a0 l1 x5_1 a0 x11_1 = some r) ∧ Aside0 (kq ≤ k) ∧ Aside0 (Kd.S (Kd.slice 3 (Kd.int .i64)) 32 w' w.heap.size (fun _ => True) v5 x5_1) ∧ Aside0 (Below w.heap.size w w'))
 case atStart => exact ⟨(y258), (0), sR, H', ⟨Nat.le_refl _⟩, ⟨sU HO260⟩, ⟨hB⟩⟩
 case round =>
  clear H'
  (try clear c1)
  obtain ⟨x5_1, x11_1, rfl, HA, HK1, HO_5, HB⟩ := hrel
  cases gk with
  | zero => exact absurd HA.out (by simp [impl_threes.l0])
  | succ k1 =>
   have H := HA.out
   clear HA
   simp only [impl_threes.l0] at H
   by_cases c5 : x11_1 < a0
   ·rw [if_pos c5] at H
    have c5b0 := decide_eq_true c5
    clear c5
    have H' := Aside0.mk H
    clear H
    go_wp2
    go_loopg [5, 7] k1 (fun kq v5 v7 w' => ∃ (x5_2 : List (List Int)) (x7_2 : Int), v7 = .int .i64 x7_2 ∧ Aside0 (impl_threes.l1 kq a0 l1 x5_2 x11_1 x7_2 a0 x11_1 = some r) ∧ Aside0 (kq ≤ k1) ∧ Aside0 (Kd.S (Kd.slice 3 (Kd.int .i64)) 32 w' w.heap.size (fun _ => True) v5 x5_2) ∧ Aside0 (Below w.heap.size w w'))
    case atStart => exact ⟨(x5_1), (wrap64 (x11_1 + 1)), sR, H', ⟨Nat.le_refl _⟩, ⟨sU HO_5⟩, ⟨hB⟩⟩
    case round =>
     clear H'
     (try clear c1); (try clear c5); (try clear c5b0)
     obtain ⟨x5_2, x7_2, rfl, HA, HK2, HO_5, HB⟩ := hrel
     cases gk with
     | zero => exact absurd HA.out (by simp [impl_threes.l1])
     | succ k2 =>
      have H := HA.out
      clear HA
      simp only [impl_threes.l1] at H
      by_cases c6 : x7_2 < a0
      ·rw [if_pos c6] at H
       have c6b0 := decide_eq_true c6
       clear c6
       have H' := Aside0.mk H
       clear H
       go_wp2
       go_loopg [5, 8] k2 (fun kq v5 v8 w' => ∃ (x5_3 : List (List Int)) (x8_3 : Int), v8 = .int .i64 x8_3 ∧ Aside0 (impl_threes.l2 kq a0 l1 x5_3 x11_1 x7_2 x8_3 a0 x11_1 = some r) ∧ Aside0 (kq ≤ k2) ∧ Aside0 (Kd.S (Kd.slice 3 (Kd.int .i64)) 32 w' w.heap.size (fun _ => True) v5 x5_3) ∧ Aside0 (Below w.heap.size w w'))
       case atStart => exact ⟨(x5_2), (wrap64 (x7_2 + 1)), sR, H', ⟨Nat.le_refl _⟩, ⟨sU HO_5⟩, ⟨hB⟩⟩
       case round =>
        clear H'
        (try clear c1); (try clear c5); (try clear c5b0); (try clear c6); (try clear c6b0)
        obtain ⟨x5_3, x8_3, rfl, HA, HK3, HO_5, HB⟩ := hrel
        cases gk with
        | zero => exact absurd HA.out (by simp [impl_threes.l2])
        | succ k3 =>
         have H := HA.out
         clear HA
         simp only [impl_threes.l2] at H
         by_cases c7 : x8_3 < a0
         ·rw [if_pos c7] at H
          have c7b0 := decide_eq_true c7
          clear c7
          replace H := oB H; obtain ⟨t261, A8, H⟩ := H
          by_cases c9 : t261 = true
          ·subst c9
           rw [if_pos rfl] at H
           replace H := oB H; obtain ⟨t262, A10, H⟩ := H
           by_cases c11 : t262 = true
           ·subst c11
            rw [if_pos rfl] at H
            replace H := oB H; obtain ⟨t263, A12, H⟩ := H
            by_cases c13 : t263 = true
            ·subst c13
             rw [if_pos rfl] at H
             obtain ⟨y264, hy264⟩ : ∃ y_ : List Int, y_ = (([x11_1, x7_2, x8_3] : List Int)) := ⟨_, rfl⟩
             replace H : (if x5_3.length < 5864062014805 then (impl_threes.l2 k3 a0 l1 (x5_3 ++ [y264]) x11_1 x7_2 (wrap64 (x8_3 + 1)) a0 x11_1) else (none)) = some r := by first | (rw [hy264]; with_reducible exact H) | (have H2_ := (Option.bind_some _ _).symm.trans H; rw [hy264]; with_reducible exact H2_) | (have H2_ := (Option.bind_some _ _).symm.trans H; with_reducible exact H2_) | with_reducible exact H | (rw [hy264]; exact H) | exact H
             have Ny264 := Aside0.mk hy264
             clear hy264
             replace H := ifP H; obtain ⟨c14, H⟩ := H
             have LMc14 := Aside0.mk c14
             clear c14
             obtain ⟨y267, hy267⟩ : ∃ y_ : List (List Int), y_ = (x5_3 ++ [y264]) := ⟨_, rfl⟩
             replace H : (impl_threes.l2 k3 a0 l1 y267 x11_1 x7_2 (wrap64 (x8_3 + 1)) a0 x11_1) = some r := by first | (rw [hy267]; with_reducible exact H) | (have H2_ := (Option.bind_some _ _).symm.trans H; rw [hy267]; with_reducible exact H2_) | (have H2_ := (Option.bind_some _ _).symm.trans H; with_reducible exact H2_) | with_reducible exact H | (rw [hy267]; exact H) | exact H
             have Ny267 := Aside0.mk hy267
             clear hy267
             have H' := Aside0.mk H
             clear H
             go_wp2_with (first | (go_at_call 99; (with_reducible refine (impl_table_has.calls _ _ l1 x11_1 x7_2 true _ ?side1 ?side2 A8.out).mono ?_); (case side1 => exact cS (Kd.C_below HR1.out HB.out)); (case side2 => exact HC1.out); rintro e w' ⟨rfl, ⟨nd, rfl⟩⟩) | (go_at_call 99; (with_reducible refine (impl_table_has.calls _ _ l1 x11_1 x8_3 true _ ?side1 ?side2 A10.out).mono ?_); (case side1 => repeat (first | exact (Kd.C_below HR1.out hB) | (with_reducible refine Kd.C_alloc ?_ _) | (with_reducible refine Kd.C_drewN ?_ _) | (with_reducible refine Kd.C_drew ?_))); (case side2 => exact HC1.out); rintro e w' ⟨rfl, ⟨nd, rfl⟩⟩) | (go_at_call 99; (with_reducible refine (impl_table_has.calls _ _ l1 x7_2 x8_3 true _ ?side1 ?side2 A12.out).mono ?_); (case side1 => repeat (first | exact (Kd.C_below HR1.out hB) | (with_reducible refine Kd.C_alloc ?_ _) | (with_reducible refine Kd.C_drewN ?_ _) | (with_reducible refine Kd.C_drew ?_))); (case side2 => exact HC1.out); rintro e w' ⟨rfl, ⟨nd, rfl⟩⟩) | ((with_reducible refine gate_dst (N := 48) rfl ?_); refine Kd.R_lit (Kd.int .i64) _ 3 ?hg (N := 48) ?hd (xs := ([x11_1, x7_2, x8_3] : List Int)) (inner := [.int .i64 x11_1, .int .i64 x7_2, .int .i64 x8_3]) (ok := fun _ => True) (okp := fun _ => True) ?hr ?hp (fun _ hk => hk) trivial (Below.refl _ _) (Nat.le_refl _) (by simp) ?_; (case hd => rfl); (case hg => rfl); (case hr => first | (go_simp; done) | (go_simp; rfl)); (case hp => exact (Reps.one (show Kd.M (Kd.int .i64) _ _ _ x11_1 [.int .i64 x11_1] from rfl) (Reps.one (show Kd.M (Kd.int .i64) _ _ _ x7_2 [.int .i64 x7_2] from rfl) (Reps.one (show Kd.M (Kd.int .i64) _ _ _ x8_3 [.int .i64 x8_3] from rfl) (Reps.none _ _))))); intro v265 w15 ho16 hb hg_ hnew_; clear hg_ hnew_; (first | rw [← Ny264.out] at ho16 | (simp only [Int.reduceToNat] at ho16; rw [← Ny264.out] at ho16)); have HO266 := Aside0.mk (Kd.R_lower ho16 (below_size hB)); replace HO_5 := Aside0.mk (Kd.S_elder' (sU HO_5) (Kd.R_base ho16) hb); replace HB := hS HB hb; clear hb ho16; obtain ⟨Ao18, co18, eo18⟩ := Kd.R_slice HO266.out; subst eo18) | ((with_reducible refine gate_builtin (b := .append) (xs := #[.tmp 44, .tmp 49]) rfl ?_); at_builtin; refine Kd.S_append (Kd.slice 3 (Kd.int .i64)) (w0 := w) w.heap.size rfl (.tmp 44) (.tmp 49) 27 32 (.slice none 0 0) 24 rfl Tryd.underlying27 info32 rfl (by decide) (by omega) u5 x5_3 y264 [.slice Ao18 y264.length co18] (fun _ => True) (fun k_ => some k_ = (.slice Ao18 y264.length co18 : Value).ownBlock) rfl rfl ?aP (fun k_ hk_ => ((Kd.R_mono (ok' := fun k_ => ((fun _ => True)) k_ ∧ some k_ ≠ (u5 : Value).ownBlock) (Kd.R_apart' (HO266.out) (Kd.S_typed HO_5.out) (by decide)) (fun k_ hk => ⟨trivial, hk.2⟩))).1 k_ hk_.symm) ?aF ?aO ?aB ?aS ?aL ?_; (case aP => exact Kd.M_row (Kd.R_mono (Kd.R_tight rfl (Kd.R_mono (ok' := fun k_ => ((fun _ => True)) k_ ∧ some k_ ≠ (u5 : Value).ownBlock) (Kd.R_apart' (HO266.out) (Kd.S_typed HO_5.out) (by decide)) (fun k_ hk => ⟨trivial, hk.2⟩))) (fun _ h_ => h_))); (case aB => exact hB); (case aF => exact (fun _ _ => trivial)); (case aO => exact (by (with_reducible repeat (first | apply Kd.S_alloc | apply Kd.S_drewN | apply Kd.S_drew)); exact Kd.S_mono HO_5.out (fun k_ hk => ⟨trivial, fun e_ => hk.2 e_⟩))); (case aS => exact (below_size hB)); (case aL => have := LMc14.out; omega); intro v268 w17 ho hb hg hat; rw [← Ny267.out] at ho; have HO269 := Aside0.mk (ho); replace HB := Aside0.mk (hb); clear HO_5; clear HO266; clear ho hb hg hat))
             go_roundg k3
             case measure => have := HK1.out; have := HK2.out; have := HK3.out; omega
             case rel => exact ⟨(y267), (wrap64 (x8_3 + 1)), sR, H', ⟨by have := HK1.out; have := HK2.out; have := HK3.out; omega⟩, ⟨sU HO269⟩, ⟨hB⟩⟩
            ·replace c13 := Bool.eq_false_iff.mpr c13
             subst c13
             rw [if_neg (show ¬ (false = true) by decide)] at H
             have H' := Aside0.mk H
             clear H
             go_wp2_with (first | (go_at_call 99; (with_reducible refine (impl_table_has.calls _ _ l1 x11_1 x7_2 true _ ?side1 ?side2 A8.out).mono ?_); (case side1 => exact cS (Kd.C_below HR1.out HB.out)); (case side2 => exact HC1.out); rintro e w' ⟨rfl, ⟨nd, rfl⟩⟩) | (go_at_call 99; (with_reducible refine (impl_table_has.calls _ _ l1 x11_1 x8_3 true _ ?side1 ?side2 A10.out).mono ?_); (case side1 => repeat (first | exact (Kd.C_below HR1.out hB) | (with_reducible refine Kd.C_alloc ?_ _) | (with_reducible refine Kd.C_drewN ?_ _) | (with_reducible refine Kd.C_drew ?_))); (case side2 => exact HC1.out); rintro e w' ⟨rfl, ⟨nd, rfl⟩⟩) | (go_at_call 99; (with_reducible refine (impl_table_has.calls _ _ l1 x7_2 x8_3 false _ ?side1 ?side2 A12.out).mono ?_); (case side1 => repeat (first | exact (Kd.C_below HR1.out hB) | (with_reducible refine Kd.C_alloc ?_ _) | (with_reducible refine Kd.C_drewN ?_ _) | (with_reducible refine Kd.C_drew ?_))); (case side2 => exact HC1.out); rintro e w' ⟨rfl, ⟨nd, rfl⟩⟩))
             go_roundg k3
             case measure => have := HK1.out; have := HK2.out; have := HK3.out; omega
             case rel => exact ⟨(x5_3), (wrap64 (x8_3 + 1)), sR, H', ⟨by have := HK1.out; have := HK2.out; have := HK3.out; omega⟩, ⟨sU HO_5⟩, ⟨hB⟩⟩
           ·replace c11 := Bool.eq_false_iff.mpr c11
            subst c11
            rw [if_neg (show ¬ (false = true) by decide)] at H
            have H' := Aside0.mk H
            clear H
            go_wp2_with (first | (go_at_call 99; (with_reducible refine (impl_table_has.calls _ _ l1 x11_1 x7_2 true _ ?side1 ?side2 A8.out).mono ?_); (case side1 => exact cS (Kd.C_below HR1.out HB.out)); (case side2 => exact HC1.out); rintro e w' ⟨rfl, ⟨nd, rfl⟩⟩) | (go_at_call 99; (with_reducible refine (impl_table_has.calls _ _ l1 x11_1 x8_3 false _ ?side1 ?side2 A10.out).mono ?_); (case side1 => repeat (first | exact (Kd.C_below HR1.out hB) | (with_reducible refine Kd.C_alloc ?_ _) | (with_reducible refine Kd.C_drewN ?_ _) | (with_reducible refine Kd.C_drew ?_))); (case side2 => exact HC1.out); rintro e w' ⟨rfl, ⟨nd, rfl⟩⟩))
            go_roundg k3
            case measure => have := HK1.out; have := HK2.out; have := HK3.out; omega
            case rel => exact ⟨(x5_3), (wrap64 (x8_3 + 1)), sR, H', ⟨by have := HK1.out; have := HK2.out; have := HK3.out; omega⟩, ⟨sU HO_5⟩, ⟨hB⟩⟩
          ·replace c9 := Bool.eq_false_iff.mpr c9
           subst c9
           rw [if_neg (show ¬ (false = true) by decide)] at H
           have H' := Aside0.mk H
           clear H
           go_wp2_with (first | (go_at_call 99; (with_reducible refine (impl_table_has.calls _ _ l1 x11_1 x7_2 false _ ?side1 ?side2 A8.out).mono ?_); (case side1 => exact cS (Kd.C_below HR1.out HB.out)); (case side2 => exact HC1.out); rintro e w' ⟨rfl, ⟨nd, rfl⟩⟩))
           go_roundg k3
           case measure => have := HK1.out; have := HK2.out; have := HK3.out; omega
           case rel => exact ⟨(x5_3), (wrap64 (x8_3 + 1)), sR, H', ⟨by have := HK1.out; have := HK2.out; have := HK3.out; omega⟩, ⟨sU HO_5⟩, ⟨hB⟩⟩
         ·rw [if_neg c7] at H
          have c7b0 := decide_eq_false c7
          clear c7
          have H' := Aside0.mk H
          clear H
          go_wp2
          go_roundg k3
          case measure => have := HK1.out; have := HK2.out; have := HK3.out; omega
          case rel => exact ⟨(x5_3), (wrap64 (x7_2 + 1)), sR, H', ⟨by have := HK1.out; have := HK2.out; have := HK3.out; omega⟩, ⟨sU HO_5⟩, ⟨hB⟩⟩
      ·rw [if_neg c6] at H
       have c6b0 := decide_eq_false c6
       clear c6
       have H' := Aside0.mk H
       clear H
       go_wp2
       go_roundg k2
       case measure => have := HK1.out; have := HK2.out; omega
       case rel => exact ⟨(x5_2), (wrap64 (x11_1 + 1)), sR, H', ⟨by have := HK1.out; have := HK2.out; omega⟩, ⟨sU HO_5⟩, ⟨hB⟩⟩
   ·rw [if_neg c5] at H
    have c5b0 := decide_eq_false c5
    clear c5
    obtain rfl := Option.some.inj H
    go_wp2
    go_ret
    exact ⟨_, eW, sU HO_5, hB⟩

end Go.Proofs.YtbjmkkgejekpnaaDoor.PFnThreesCounted
