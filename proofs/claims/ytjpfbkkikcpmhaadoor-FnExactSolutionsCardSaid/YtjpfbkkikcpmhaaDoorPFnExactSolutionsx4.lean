-- Of this session's own program wip/gen/gen.py (it drives the kit's print): contracts of the functions that the law reaches.
import Derived.Test.YtjpfbkkikcpmhaaDoorPFnExactSolutionsx0
import Derived.Test.YtjpfbkkikcpmhaaDoorPFnExactSolutionsx1
import Derived.Test.YtjpfbkkikcpmhaaDoorPFnExactSolutionsx3
namespace Go.Proofs.YtjpfbkkikcpmhaaDoor.PFnExactSolutions
open Go.RowKit Go.Proofs.YtjpfbkkikcpmhaaDoorW.PrintWords Go.Proofs.YtjpfbkkikcpmhaaDoorW.PrintLast Go.Proofs.YtjpfbkkikcpmhaaDoorW.PrintMore Go.Proofs.YtjpfbkkikcpmhaaDoor.Base
attribute [local go_sem] max2_int min2_int max_two min_two max_three min_three max_four min_four   -- for this text's walks alone
set_option linter.unusedVariables false
set_option linter.unusedSimpArgs false

attribute [local go_sem high] eqA105
/-! ### spec_paBefore: function 133 -/
def spec_paBefore.l0 : Nat → List (S105) → Int → Int → Int → List (S105) → Int → List (S105) → Option (Bool)
 | 0, _, _, _, _, _, _, _ => none
 | k + 1, x8, x9, x10, x134000, x134001, x135000, x135001 => if x10 < x9 then (if 0 ≤ x10 then (if x10 < (x8.length : Int) then (if x10 ≥ (x135001.length : Int) then (some false) else (if x10 < (x135001.length : Int) then (if (!(((rd_T105 x8 x10).f0) == ((rd_T105 x135001 x10).f0)) || (!(((rd_T105 x8 x10).f1) == ((rd_T105 x135001 x10).f1)))) = true then ((spec_paLess.f ((rd_T105 x8 x10).f0) ((rd_T105 x8 x10).f1) ((rd_T105 x135001 x10).f0) ((rd_T105 x135001 x10).f1)).bind fun t139 => (some t139)) else (spec_paBefore.l0 k x8 x9 (wrap64 (x10 + 1)) x134000 x134001 x135000 x135001)) else (none))) else (none)) else (none)) else (some (decide ((x134001.length : Int) < (x135001.length : Int))))
def spec_paBefore.f (k : Nat) (a0_0 : Int) (l0_1 : List (S105)) (a1_0 : Int) (l1_1 : List (S105)) : Option (Bool) := spec_paBefore.l0 k l0_1 (l0_1.length : Int) 0 a0_0 l0_1 a1_0 l1_1
theorem spec_paBefore.mono_l : ∀ k, (∀ y0 y1 y2 y3 y4 y5 y6, LeO (spec_paBefore.l0 k y0 y1 y2 y3 y4 y5 y6) (spec_paBefore.l0 (k + 1) y0 y1 y2 y3 y4 y5 y6))
 | 0 => fun _ _ _ _ _ _ _ r h => by simp [spec_paBefore.l0] at h
 | k + 1 => by
  have ih0 := spec_paBefore.mono_l k
  ·intro y0 y1 y2 y3 y4 y5 y6
   unfold spec_paBefore.l0
   repeat' first
   | (with_reducible exact ih0 _ _ _ _ _ _ _)
   | (with_reducible exact LeO.refl _)
   | (with_reducible exact LeO.none _)
   | (with_reducible refine LeO.ite ?_ ?_)
   | (with_reducible refine LeO.bind ?_ (fun _ => ?_))
   | exact ih0 _ _ _ _ _ _ _
   | exact LeO.none _
   | refine LeO.ite ?_ ?_
   | refine LeO.bind ?_ (fun _ => ?_)
theorem spec_paBefore.mono : ∀ a0 a1 a2 a3 k, LeO (spec_paBefore.f k a0 a1 a2 a3) (spec_paBefore.f (k + 1) a0 a1 a2 a3) := by
 intro a0 a1 a2 a3 k
 have ih0 := spec_paBefore.mono_l k
 unfold spec_paBefore.f
 repeat' first
   | (with_reducible exact ih0 _ _ _ _ _ _ _)
   | (with_reducible exact LeO.refl _)
   | (with_reducible exact LeO.none _)
   | (with_reducible refine LeO.ite ?_ ?_)
   | (with_reducible refine LeO.bind ?_ (fun _ => ?_))
   | exact ih0 _ _ _ _ _ _ _
   | exact LeO.none _
   | refine LeO.ite ?_ ?_
   | refine LeO.bind ?_ (fun _ => ?_)
def spec_paBefore.T7 : Bool × List (List Nat × List Nat) := (true, [([], []), ([], []), ([1], [1]), ([], []), ([2, 3], [2, 3]), ([4], [4]), ([0, 5], [0, 5]), ([6, 6, 0, 1, 2, 3, 4, 5, 6], [6])])
def spec_paBefore.B7 : List Nat := [0, 0, 2, 0, 14, 30, 63, 127]
theorem spec_paBefore.tab7 : rtab .any (opsOf Tryd.f133 7) = spec_paBefore.T7 := by kernel_rfl
theorem spec_paBefore.bits7 : waitsOk spec_paBefore.T7.2 spec_paBefore.B7 = true := by kernel_rfl
set_option maxHeartbeats 8000000 in
set_option maxRecDepth 100000 in
theorem spec_paBefore.calls (k : Nat) (a0_0 : Int) (A0_1 : Option Addr) (c0_1 : Nat) (l0_1 : List (S105)) (a1_0 : Int) (A1_1 : Option Addr) (c1_1 : Nat) (l1_1 : List (S105)) (r : Bool) (w : World) (hr0_1 : Kd.C k105 w A0_1 l0_1.length l0_1) (hc0_1 : l0_1.length ≤ c0_1) (hr1_1 : Kd.C k105 w A1_1 l1_1.length l1_1) (hc1_1 : l1_1.length ≤ c1_1) (h : spec_paBefore.f k a0_0 l0_1 a1_0 l1_1 = some r) :
  Calls Tryd.prog 133 #[.agg #[.int .i64 a0_0, .slice A0_1 l0_1.length c0_1], .agg #[.int .i64 a1_0, .slice A1_1 l1_1.length c1_1]] w fun e w' => e = .returned (.bool r) ∧ Below w.heap.size w w' := by
 have hu33 := Tryd.underlying33
 have hu105 := Tryd.underlying105
 have HR0_1 := Aside0.mk hr0_1
 have HC0_1 := Aside0.mk hc0_1
 clear hr0_1 hc0_1
 have HR1_1 := Aside0.mk hr1_1
 have HC1_1 := Aside0.mk hc1_1
 clear hr1_1 hc1_1
 have HB := Aside0.mk (Below.refl w.heap.size w)
 have H : (spec_paBefore.l0 k l0_1 (l0_1.length : Int) 0 a0_0 l0_1 a1_0 l1_1) = some r := h
 clear h
 have H' := Aside0.mk H
 clear H
 go_enter Tryd.func133, Tryd.ntmps133
 go_wp2_with (first | ((with_reducible refine gate_dst (N := 2) rfl ?_); refine bxE 2 #[.int .i64 a0_0, .slice A0_1 l0_1.length c0_1] 33 rfl ?_; intro gb133 hg w3 hbox hb; have BK133 := Aside0.mk (hbox); have GW133 := gS HB hg; have GE133 := gS HB hg; replace HB := hS HB hb; clear hb hbox hg) | ((with_reducible refine gate_dst (N := 3) rfl ?_); refine bxE 3 #[.int .i64 a1_0, .slice A1_1 l1_1.length c1_1] 33 rfl ?_; intro gb134 hg w4 hbox hb; have BK134 := Aside0.mk (hbox); have GW134 := gS HB hg; have GE134 := gS HB hg; have NB133_134 := nL BK133 hg; have NB134_133 := nG BK133 hg; replace BK133 := bS BK133 hb; replace HB := hS HB hb; clear hb hbox hg; have hnb5 := NB133_134.out; have hnc5 := NB134_133.out; have hcz6_0 := cz BK133 0; have hcz6_1 := cz BK133 1; have hfz6_0 := fz BK133 0; have hfz6_1 := fz BK133 1))
 go_loopg [10] k (fun kq v10 w' => ∃ (x10_1 : Int), v10 = .int .i64 x10_1 ∧ Aside0 (spec_paBefore.l0 kq l0_1 (l0_1.length : Int) x10_1 a0_0 l0_1 a1_0 l1_1 = some r) ∧ Aside0 (kq ≤ k) ∧ Aside0 (w'.heap[gb133]? = some (.cells #[.int .i64 a0_0, (.slice A0_1 l0_1.length c0_1)] 33 (0, 0))) ∧ Aside0 (w'.heap[gb134]? = some (.cells #[.int .i64 a1_0, (.slice A1_1 l1_1.length c1_1)] 33 (0, 0))) ∧ Aside0 (Below w.heap.size w w'))
 case atStart => exact ⟨(0), (by first | rfl | (simp; done) | (simp [*]; done)), H', ⟨Nat.le_refl _⟩, ⟨bK⟩, ⟨bK⟩, ⟨hB⟩⟩
 case round =>
  clear H'
  try clear c1
  try clear p2
  try clear c5
  try clear hcz6_0
  try clear hcz6_1
  try clear hfz6_0
  try clear hfz6_1
  obtain ⟨x10_1, rfl, HA, HK1, BK133, BK134, HB⟩ := hrel
  cases gk with
  | zero => exact absurd HA.out (by simp [spec_paBefore.l0])
  | succ k1 =>
   have H := HA.out
   clear HA
   simp only [spec_paBefore.l0] at H
   by_cases c7 : x10_1 < (l0_1.length : Int)
   ·rw [if_pos c7] at H
    have c7b0 : decide (x10_1 < (l0_1.length : Int)) = true := decide_eq_true c7
    clear c7
    by_cases c8 : 0 ≤ x10_1
    ·rw [if_pos c8] at H
     have c8b0 : decide (0 ≤ x10_1) = true := decide_eq_true c8
     clear c8
     by_cases c9 : x10_1 < (l0_1.length : Int)
     ·rw [if_pos c9] at H
      have c9b0 : decide (x10_1 < (l0_1.length : Int)) = true := decide_eq_true c9
      clear c9
      by_cases c10 : x10_1 ≥ (l1_1.length : Int)
      ·rw [if_pos c10] at H
       have c10b0 : decide ((l1_1.length : Int) ≤ x10_1) = true := decide_eq_true c10
       clear c10
       obtain rfl := Option.some.inj H
       have p135 : 0 ≤ (x10_1 : Int) := of_decide_eq_true (by first | (with_reducible assumption) | assumption)
       have q135 : x10_1 < (l0_1.length : Int) := of_decide_eq_true (by first | (with_reducible assumption) | assumption)
       obtain ⟨ad135, e135, hx135_0, hx135_1⟩ := at_T105 HR0_1.out x10_1 p135 q135
       cases e135
       replace hx135_0 := (HB.out.cell (World.block_lt_of_cell? w _ hx135_0)).trans hx135_0
       replace hx135_1 := (HB.out.cell (World.block_lt_of_cell? w _ hx135_1)).trans hx135_1
       replace p135 := eq_true p135
       replace q135 := eq_true q135
       go_wp2_with (first | ((with_reducible refine gate_dst (N := 6) rfl ?_); refine bxE 6 #[.int .i64 0, .int .i64 0] 105 rfl ?_; intro gb136 hg w11 hbox hb; have BK136 := Aside0.mk (hbox); have GW136 := gS HB hg; have GE136 := gS HB hg; have NB133_136 := nL BK133 hg; have NB136_133 := nG BK133 hg; have NB134_136 := nL BK134 hg; have NB136_134 := nG BK134 hg; replace BK133 := bS BK133 hb; replace BK134 := bS BK134 hb; replace HB := hS HB hb; clear hb hbox hg; have hnb12 := NB136_133.out; have hnc12 := NB133_136.out; have hnb13 := NB136_134.out; have hnc13 := NB134_136.out; have hcz14_0 := cz BK136 0; have hcz14_1 := cz BK136 1; have hfz14_0 := fz BK136 0; have hfz14_1 := fz BK136 1; have hnb15 := NB134_133.out; have hnc15 := NB133_134.out; have hcz16_0 := cz BK134 0; have hcz16_1 := cz BK134 1; have hfz16_0 := fz BK134 0; have hfz16_1 := fz BK134 1))
       go_ret
       exact ⟨by first | rfl | (simp [errW_none, errW_some] <;> rfl) | (simp [*, errW_none, errW_some] <;> rfl), hB⟩
      ·rw [if_neg c10] at H
       have c10b0 : decide ((l1_1.length : Int) ≤ x10_1) = false := decide_eq_false c10
       clear c10
       by_cases c17 : x10_1 < (l1_1.length : Int)
       ·rw [if_pos c17] at H
        have c17b0 : decide (x10_1 < (l1_1.length : Int)) = true := decide_eq_true c17
        clear c17
        by_cases c18 : (!(((rd_T105 l0_1 x10_1).f0) == ((rd_T105 l1_1 x10_1).f0)) || (!(((rd_T105 l0_1 x10_1).f1) == ((rd_T105 l1_1 x10_1).f1)))) = true
        ·rw [if_pos c18] at H
         have c18b0 : (!(((rd_T105 l0_1 x10_1).f0) == ((rd_T105 l1_1 x10_1).f0)) || (!(((rd_T105 l0_1 x10_1).f1) == ((rd_T105 l1_1 x10_1).f1)))) = true := c18
         clear c18
         replace H := Option.bind_eq_some_iff.mp H
         obtain ⟨t139, A190, H⟩ := H
         replace H : (some t139) = some r := H
         have A19 := Aside0.mk A190
         clear A190
         obtain rfl := Option.some.inj H
         have p135 : 0 ≤ (x10_1 : Int) := of_decide_eq_true (by first | (with_reducible assumption) | assumption)
         have q135 : x10_1 < (l0_1.length : Int) := of_decide_eq_true (by first | (with_reducible assumption) | assumption)
         obtain ⟨ad135, e135, hx135_0, hx135_1⟩ := at_T105 HR0_1.out x10_1 p135 q135
         cases e135
         replace hx135_0 := (HB.out.cell (World.block_lt_of_cell? w _ hx135_0)).trans hx135_0
         replace hx135_1 := (HB.out.cell (World.block_lt_of_cell? w _ hx135_1)).trans hx135_1
         replace p135 := eq_true p135
         replace q135 := eq_true q135
         try go_wp2_with (first | ((with_reducible refine gate_dst (N := 6) rfl ?_); refine bxE 6 #[.int .i64 0, .int .i64 0] 105 rfl ?_; intro gb136 hg w20 hbox hb; have BK136 := Aside0.mk (hbox); have GW136 := gS HB hg; have GE136 := gS HB hg; have NB133_136 := nL BK133 hg; have NB136_133 := nG BK133 hg; have NB134_136 := nL BK134 hg; have NB136_134 := nG BK134 hg; replace BK133 := bS BK133 hb; replace BK134 := bS BK134 hb; replace HB := hS HB hb; clear hb hbox hg; have hnb21 := NB136_133.out; have hnc21 := NB133_136.out; have hnb22 := NB136_134.out; have hnc22 := NB134_136.out; have hcz23_0 := cz BK136 0; have hcz23_1 := cz BK136 1; have hfz23_0 := fz BK136 0; have hfz23_1 := fz BK136 1; have hnb24 := NB134_133.out; have hnc24 := NB133_134.out; have hcz25_0 := cz BK134 0; have hcz25_1 := cz BK134 1; have hfz25_0 := fz BK134 0; have hfz25_1 := fz BK134 1))
         have n0_ : Aside0 (((w20.setCell ⟨gb136, 0, none⟩ (.int .i64 ((rd_T105 l0_1 x10_1).f0))).setCell ⟨gb136, 1, none⟩ (.int .i64 ((rd_T105 l0_1 x10_1).f1))).heap[gb133]? = some (.cells #[.int .i64 a0_0, .slice (some ad135) l0_1.length c0_1] 33 (0, 0))) := ⟨by (with_reducible repeat (first | refine blk_drewN ?_ _ | refine blk_drew ?_ | refine blk_alloc ?_ _)); refine blk_far ?_ NB133_136.out _; (with_reducible repeat (first | refine blk_drewN ?_ _ | refine blk_drew ?_ | refine blk_alloc ?_ _)); refine blk_far ?_ NB133_136.out _; (with_reducible repeat (first | refine blk_drewN ?_ _ | refine blk_drew ?_ | refine blk_alloc ?_ _)); exact BK133.out⟩
         have n1_ : Aside0 (((w20.setCell ⟨gb136, 0, none⟩ (.int .i64 ((rd_T105 l0_1 x10_1).f0))).setCell ⟨gb136, 1, none⟩ (.int .i64 ((rd_T105 l0_1 x10_1).f1))).heap[gb134]? = some (.cells #[.int .i64 a1_0, .slice A1_1 l1_1.length c1_1] 33 (0, 0))) := ⟨by (with_reducible repeat (first | refine blk_drewN ?_ _ | refine blk_drew ?_ | refine blk_alloc ?_ _)); refine blk_far ?_ NB134_136.out _; (with_reducible repeat (first | refine blk_drewN ?_ _ | refine blk_drew ?_ | refine blk_alloc ?_ _)); refine blk_far ?_ NB134_136.out _; (with_reducible repeat (first | refine blk_drewN ?_ _ | refine blk_drew ?_ | refine blk_alloc ?_ _)); exact BK134.out⟩
         have n2_ : Aside0 (((w20.setCell ⟨gb136, 0, none⟩ (.int .i64 ((rd_T105 l0_1 x10_1).f0))).setCell ⟨gb136, 1, none⟩ (.int .i64 ((rd_T105 l0_1 x10_1).f1))).heap[gb136]? = some (.cells #[.int .i64 ((rd_T105 l0_1 x10_1).f0), .int .i64 ((rd_T105 l0_1 x10_1).f1)] 105 (0, 0))) := ⟨by (with_reducible repeat (first | refine blk_drewN ?_ _ | refine blk_drew ?_ | refine blk_alloc ?_ _)); refine blk_put (cs := #[.int .i64 ((rd_T105 l0_1 x10_1).f0), .int .i64 0]) ?_ 1 _ rfl; (with_reducible repeat (first | refine blk_drewN ?_ _ | refine blk_drew ?_ | refine blk_alloc ?_ _)); refine blk_put (cs := #[.int .i64 0, .int .i64 0]) ?_ 0 _ rfl; (with_reducible repeat (first | refine blk_drewN ?_ _ | refine blk_drew ?_ | refine blk_alloc ?_ _)); exact BK136.out⟩
         have n3_ : Aside0 (Below w.heap.size w ((w20.setCell ⟨gb136, 0, none⟩ (.int .i64 ((rd_T105 l0_1 x10_1).f0))).setCell ⟨gb136, 1, none⟩ (.int .i64 ((rd_T105 l0_1 x10_1).f1)))) := ⟨hB⟩
         (try clear BK133)
         (try clear BK134)
         (try clear BK136)
         (try clear HB)
         generalize ((w20.setCell ⟨gb136, 0, none⟩ (.int .i64 ((rd_T105 l0_1 x10_1).f0))).setCell ⟨gb136, 1, none⟩ (.int .i64 ((rd_T105 l0_1 x10_1).f1))) = w26 at n0_ n1_ n2_ n3_ ⊢
         have BK133 := n0_
         have BK134 := n1_
         have BK136 := n2_
         have HB := n3_
         clear n0_ n1_ n2_ n3_
         replace BK133 := Aside0.mk (blk_drew BK133.out)
         replace BK134 := Aside0.mk (blk_drew BK134.out)
         replace BK136 := Aside0.mk (blk_drew BK136.out)
         replace HB := Aside0.mk (below_drew1 HB.out)
         have p137 : 0 ≤ (x10_1 : Int) := of_decide_eq_true (by first | (with_reducible assumption) | assumption)
         have q137 : x10_1 < (l1_1.length : Int) := of_decide_eq_true (by first | (with_reducible assumption) | assumption)
         obtain ⟨ad137, e137, hx137_0, hx137_1⟩ := at_T105 HR1_1.out x10_1 p137 q137
         have hw137_1 := hx137_1
         have hw137_0 := hx137_0
         cases e137
         replace hx137_0 := (HB.out.cell (World.block_lt_of_cell? w _ hx137_0)).trans hx137_0
         replace hx137_1 := (HB.out.cell (World.block_lt_of_cell? w _ hx137_1)).trans hx137_1
         replace p137 := eq_true p137
         replace q137 := eq_true q137
         refine start_ (n := 7) (S := fun w' => w'.cell? ⟨gb136, 0, none⟩ = some (.int .i64 ((rd_T105 l0_1 x10_1).f0)) ∧ w'.cell? ⟨gb136, 1, none⟩ = some (.int .i64 ((rd_T105 l0_1 x10_1).f1)) ∧ w'.cell? ⟨gb134, 0, none⟩ = some (.int .i64 a1_0) ∧ w'.cell? ⟨gb134, 1, none⟩ = some (.slice (some ad137) l1_1.length c1_1) ∧ w'.cell? (ad137.add ((x10_1).toNat * 2)) = some (.int .i64 ((rd_T105 l1_1 x10_1).f0)) ∧ w'.cell? ⟨(ad137.add ((x10_1).toNat * 2)).block, (ad137.add ((x10_1).toNat * 2)).off + 1, none⟩ = some (.int .i64 ((rd_T105 l1_1 x10_1).f1))) (ds := []) (bz 7 0) (by kernel_rfl) rfl rfl ⟨(blk_cell BK136.out 0).trans rfl, (blk_cell BK136.out 1).trans rfl, (blk_cell BK134.out 0).trans rfl, (blk_cell BK134.out 1).trans rfl, ((HB.out.cell (World.block_lt_of_cell? w _ hw137_0)).trans hw137_0), ((HB.out.cell (World.block_lt_of_cell? w _ hw137_1)).trans hw137_1)⟩ (fun hHeld => ?_)
         generalize w26.drew = w27 at BK133 BK134 BK136 HB hx137_0 hx137_1 hHeld ⊢
         refine run_ [(0, 1, 2, some 21), (0, 3, 10, some 23), (1, 0, 11, some 20), (1, 2, 15, some 22), (0, 4, 31, some 24), (1, 5, 63, some 25), (0, 6, 127, some 26)] ?_
         repeat (first | (apply tag0; refine run_p (v := ?_) (a' := ?_) rfl rfl (by kernel_rfl) (fun _ _ _ h => h) (by rfl) ?_ ?_ ?_; rotate_left 2; (intro w'; go_simp; with_reducible rfl); (first | (simp only [Act.put, List.setIfInBounds_toArray, List.set_cons_zero, List.set_cons_succ, i64_w, i32_w]; rfl) | rfl)) | (apply tag1; refine run_t (v := ?_) (a' := ?_) rfl rfl (by kernel_rfl) (fun _ _ _ h => h) (by rfl) ?_ hHeld ?_ ?_; rotate_left 2; (rintro w' ⟨s0, s1, s2, s3, s4, s5⟩; go_simp; with_reducible rfl); (first | (simp only [Act.put, List.setIfInBounds_toArray, List.set_cons_zero, List.set_cons_succ, i64_w, i32_w]; rfl) | rfl)))
         refine run_nil ?_
         refine done_ (by kernel_rfl) ?_
         try go_wp2
         replace BK133 := Aside0.mk (blk_drew BK133.out)
         replace BK134 := Aside0.mk (blk_drew BK134.out)
         replace BK136 := Aside0.mk (blk_drew BK136.out)
         replace HB := Aside0.mk (below_drew1 HB.out)
         have p138 : 0 ≤ (x10_1 : Int) := of_decide_eq_true (by first | (with_reducible assumption) | assumption)
         have q138 : x10_1 < (l1_1.length : Int) := of_decide_eq_true (by first | (with_reducible assumption) | assumption)
         obtain ⟨ad138, e138, hx138_0, hx138_1⟩ := at_T105 HR1_1.out x10_1 p138 q138
         have hw138_1 := hx138_1
         have hw138_0 := hx138_0
         obtain rfl : ad137 = ad138 := (by injection e138)
         replace hx138_0 := (HB.out.cell (World.block_lt_of_cell? w _ hx138_0)).trans hx138_0
         replace hx138_1 := (HB.out.cell (World.block_lt_of_cell? w _ hx138_1)).trans hx138_1
         replace p138 := eq_true p138
         replace q138 := eq_true q138
         refine start_ (n := 8) (S := fun w' => w'.cell? ⟨gb136, 0, none⟩ = some (.int .i64 ((rd_T105 l0_1 x10_1).f0)) ∧ w'.cell? ⟨gb136, 1, none⟩ = some (.int .i64 ((rd_T105 l0_1 x10_1).f1)) ∧ w'.cell? ⟨gb134, 0, none⟩ = some (.int .i64 a1_0) ∧ w'.cell? ⟨gb134, 1, none⟩ = some (.slice (some ad137) l1_1.length c1_1) ∧ w'.cell? (ad137.add ((x10_1).toNat * 2)) = some (.int .i64 ((rd_T105 l1_1 x10_1).f0)) ∧ w'.cell? ⟨(ad137.add ((x10_1).toNat * 2)).block, (ad137.add ((x10_1).toNat * 2)).off + 1, none⟩ = some (.int .i64 ((rd_T105 l1_1 x10_1).f1))) (ds := []) (bz 8 0) (by kernel_rfl) rfl rfl ⟨(blk_cell BK136.out 0).trans rfl, (blk_cell BK136.out 1).trans rfl, (blk_cell BK134.out 0).trans rfl, (blk_cell BK134.out 1).trans rfl, ((HB.out.cell (World.block_lt_of_cell? w _ hw138_0)).trans hw138_0), ((HB.out.cell (World.block_lt_of_cell? w _ hw138_1)).trans hw138_1)⟩ (fun hHeld => ?_); refine with_tabW spec_paBefore.tab7 spec_paBefore.bits7 (fun HT_ HW_ => ?_)
         generalize w27.drew = w28 at BK133 BK134 BK136 HB hx138_0 hx138_1 hHeld ⊢
         refine run_ [(0, 1, 2, some 28), (0, 3, 10, some 30), (1, 0, 11, some 27), (1, 2, 15, some 29), (0, 4, 31, some 31), (1, 5, 63, some 32)] ?_
         repeat (first | (apply tag0; refine run_p (v := ?_) (a' := ?_) rfl rfl (any_of HT_.out (by kernel_rfl)) (fun _ _ _ h => h) (by rfl) ?_ ?_ ?_; rotate_left 2; (intro w'; go_simp; with_reducible rfl); (first | (simp only [Act.put, List.setIfInBounds_toArray, List.set_cons_zero, List.set_cons_succ, i64_w, i32_w]; rfl) | rfl)) | (apply tag1; refine run_t (v := ?_) (a' := ?_) rfl rfl (take_ofW HT_.out HW_.out (by kernel_rfl)) (fun _ _ _ h => h) (by rfl) ?_ hHeld ?_ ?_; rotate_left 2; (rintro w' ⟨s0, s1, s2, s3, s4, s5⟩; go_simp; with_reducible rfl); (first | (simp only [Act.put, List.setIfInBounds_toArray, List.set_cons_zero, List.set_cons_succ, i64_w, i32_w]; rfl) | rfl)))
         refine run_nil ?_
         refine one_ (i := 6) (N := some 33) (bz 8 127) rfl rfl (one_of HT_.out (by kernel_rfl)) (by decide) (fun K hK => ?_)
         refine goes_ Tryd.func98 (by kernel_rfl) rfl #[.agg #[.int .i64 ((rd_T105 l0_1 x10_1).f0), .int .i64 ((rd_T105 l0_1 x10_1).f1)], .agg #[.int .i64 ((rd_T105 l1_1 x10_1).f0), .int .i64 ((rd_T105 l1_1 x10_1).f1)]] (by rfl) rfl rfl mapT ?_
         with_reducible refine (spec_paLess.calls ((rd_T105 l0_1 x10_1).f0) ((rd_T105 l0_1 x10_1).f1) ((rd_T105 l1_1 x10_1).f0) ((rd_T105 l1_1 x10_1).f1) t139 _ A19.out).mono ?_
         rintro e w29 ⟨rfl, hb⟩
         refine ⟨_, rfl, ?_⟩
         replace BK133 := bS BK133 hb
         replace BK134 := bS BK134 hb
         replace BK136 := bS BK136 hb
         replace HB := hS HB hb
         (try clear hb)
         (try clear hb2)
         (try clear hk)
         (try clear hi)
         refine hK.out _ _ ⟨(blk_cell BK136.out 0).trans rfl, (blk_cell BK136.out 1).trans rfl, (blk_cell BK134.out 0).trans rfl, (blk_cell BK134.out 1).trans rfl, ((HB.out.cell (World.block_lt_of_cell? w _ hw138_0)).trans hw138_0), ((HB.out.cell (World.block_lt_of_cell? w _ hw138_1)).trans hw138_1)⟩ (fun hHeld => ?_)
         clear hK K
         refine norm_ (a' := ?_) ?_ ?_
         rotate_left
         ·show Act.put _ (some 33) _ = _
          simp only [Act.put, List.setIfInBounds_toArray, List.set_cons_zero, List.set_cons_succ, i64_w, i32_w]
          rfl
         refine run_ [(0, 7, 255, some 4)] ?_
         repeat ((apply tag0; refine run_p (v := ?_) (a' := ?_) rfl rfl (any_of HT_.out (by kernel_rfl)) (fun _ _ _ h => h) (by rfl) ?_ ?_ ?_; rotate_left 2; (intro w'; go_simp; with_reducible rfl); (first | (simp only [Act.put, List.setIfInBounds_toArray, List.set_cons_zero, List.set_cons_succ, i64_w, i32_w]; rfl) | rfl)))
         refine run_nil ?_
         refine done_ (done_of HT_.out (by kernel_rfl)) ?_
         try go_wp2
         go_ret
         exact ⟨by first | rfl | (simp [errW_none, errW_some] <;> rfl) | (simp [*, errW_none, errW_some] <;> rfl), hB⟩
        ·rw [if_neg c18] at H
         have c18b0 : (!(((rd_T105 l0_1 x10_1).f0) == ((rd_T105 l1_1 x10_1).f0)) || (!(((rd_T105 l0_1 x10_1).f1) == ((rd_T105 l1_1 x10_1).f1)))) = false := by simpa using c18
         clear c18
         have H' := Aside0.mk H
         clear H
         have p135 : 0 ≤ (x10_1 : Int) := of_decide_eq_true (by first | (with_reducible assumption) | assumption)
         have q135 : x10_1 < (l0_1.length : Int) := of_decide_eq_true (by first | (with_reducible assumption) | assumption)
         obtain ⟨ad135, e135, hx135_0, hx135_1⟩ := at_T105 HR0_1.out x10_1 p135 q135
         cases e135
         replace hx135_0 := (HB.out.cell (World.block_lt_of_cell? w _ hx135_0)).trans hx135_0
         replace hx135_1 := (HB.out.cell (World.block_lt_of_cell? w _ hx135_1)).trans hx135_1
         replace p135 := eq_true p135
         replace q135 := eq_true q135
         try go_wp2_with (first | ((with_reducible refine gate_dst (N := 6) rfl ?_); refine bxE 6 #[.int .i64 0, .int .i64 0] 105 rfl ?_; intro gb136 hg w30 hbox hb; have BK136 := Aside0.mk (hbox); have GW136 := gS HB hg; have GE136 := gS HB hg; have NB133_136 := nL BK133 hg; have NB136_133 := nG BK133 hg; have NB134_136 := nL BK134 hg; have NB136_134 := nG BK134 hg; replace BK133 := bS BK133 hb; replace BK134 := bS BK134 hb; replace HB := hS HB hb; clear hb hbox hg; have hnb31 := NB136_133.out; have hnc31 := NB133_136.out; have hnb32 := NB136_134.out; have hnc32 := NB134_136.out; have hcz33_0 := cz BK136 0; have hcz33_1 := cz BK136 1; have hfz33_0 := fz BK136 0; have hfz33_1 := fz BK136 1; have hnb34 := NB134_133.out; have hnc34 := NB133_134.out; have hcz35_0 := cz BK134 0; have hcz35_1 := cz BK134 1; have hfz35_0 := fz BK134 0; have hfz35_1 := fz BK134 1))
         have n0_ : Aside0 (((w30.setCell ⟨gb136, 0, none⟩ (.int .i64 ((rd_T105 l0_1 x10_1).f0))).setCell ⟨gb136, 1, none⟩ (.int .i64 ((rd_T105 l0_1 x10_1).f1))).heap[gb133]? = some (.cells #[.int .i64 a0_0, .slice (some ad135) l0_1.length c0_1] 33 (0, 0))) := ⟨by (with_reducible repeat (first | refine blk_drewN ?_ _ | refine blk_drew ?_ | refine blk_alloc ?_ _)); refine blk_far ?_ NB133_136.out _; (with_reducible repeat (first | refine blk_drewN ?_ _ | refine blk_drew ?_ | refine blk_alloc ?_ _)); refine blk_far ?_ NB133_136.out _; (with_reducible repeat (first | refine blk_drewN ?_ _ | refine blk_drew ?_ | refine blk_alloc ?_ _)); exact BK133.out⟩
         have n1_ : Aside0 (((w30.setCell ⟨gb136, 0, none⟩ (.int .i64 ((rd_T105 l0_1 x10_1).f0))).setCell ⟨gb136, 1, none⟩ (.int .i64 ((rd_T105 l0_1 x10_1).f1))).heap[gb134]? = some (.cells #[.int .i64 a1_0, .slice A1_1 l1_1.length c1_1] 33 (0, 0))) := ⟨by (with_reducible repeat (first | refine blk_drewN ?_ _ | refine blk_drew ?_ | refine blk_alloc ?_ _)); refine blk_far ?_ NB134_136.out _; (with_reducible repeat (first | refine blk_drewN ?_ _ | refine blk_drew ?_ | refine blk_alloc ?_ _)); refine blk_far ?_ NB134_136.out _; (with_reducible repeat (first | refine blk_drewN ?_ _ | refine blk_drew ?_ | refine blk_alloc ?_ _)); exact BK134.out⟩
         have n2_ : Aside0 (((w30.setCell ⟨gb136, 0, none⟩ (.int .i64 ((rd_T105 l0_1 x10_1).f0))).setCell ⟨gb136, 1, none⟩ (.int .i64 ((rd_T105 l0_1 x10_1).f1))).heap[gb136]? = some (.cells #[.int .i64 ((rd_T105 l0_1 x10_1).f0), .int .i64 ((rd_T105 l0_1 x10_1).f1)] 105 (0, 0))) := ⟨by (with_reducible repeat (first | refine blk_drewN ?_ _ | refine blk_drew ?_ | refine blk_alloc ?_ _)); refine blk_put (cs := #[.int .i64 ((rd_T105 l0_1 x10_1).f0), .int .i64 0]) ?_ 1 _ rfl; (with_reducible repeat (first | refine blk_drewN ?_ _ | refine blk_drew ?_ | refine blk_alloc ?_ _)); refine blk_put (cs := #[.int .i64 0, .int .i64 0]) ?_ 0 _ rfl; (with_reducible repeat (first | refine blk_drewN ?_ _ | refine blk_drew ?_ | refine blk_alloc ?_ _)); exact BK136.out⟩
         have n3_ : Aside0 (Below w.heap.size w ((w30.setCell ⟨gb136, 0, none⟩ (.int .i64 ((rd_T105 l0_1 x10_1).f0))).setCell ⟨gb136, 1, none⟩ (.int .i64 ((rd_T105 l0_1 x10_1).f1)))) := ⟨hB⟩
         (try clear BK133)
         (try clear BK134)
         (try clear BK136)
         (try clear HB)
         generalize ((w30.setCell ⟨gb136, 0, none⟩ (.int .i64 ((rd_T105 l0_1 x10_1).f0))).setCell ⟨gb136, 1, none⟩ (.int .i64 ((rd_T105 l0_1 x10_1).f1))) = w36 at n0_ n1_ n2_ n3_ ⊢
         have BK133 := n0_
         have BK134 := n1_
         have BK136 := n2_
         have HB := n3_
         clear n0_ n1_ n2_ n3_
         replace BK133 := Aside0.mk (blk_drew BK133.out)
         replace BK134 := Aside0.mk (blk_drew BK134.out)
         replace BK136 := Aside0.mk (blk_drew BK136.out)
         replace HB := Aside0.mk (below_drew1 HB.out)
         have p137 : 0 ≤ (x10_1 : Int) := of_decide_eq_true (by first | (with_reducible assumption) | assumption)
         have q137 : x10_1 < (l1_1.length : Int) := of_decide_eq_true (by first | (with_reducible assumption) | assumption)
         obtain ⟨ad137, e137, hx137_0, hx137_1⟩ := at_T105 HR1_1.out x10_1 p137 q137
         have hw137_1 := hx137_1
         have hw137_0 := hx137_0
         cases e137
         replace hx137_0 := (HB.out.cell (World.block_lt_of_cell? w _ hx137_0)).trans hx137_0
         replace hx137_1 := (HB.out.cell (World.block_lt_of_cell? w _ hx137_1)).trans hx137_1
         replace p137 := eq_true p137
         replace q137 := eq_true q137
         refine start_ (n := 7) (S := fun w' => w'.cell? ⟨gb136, 0, none⟩ = some (.int .i64 ((rd_T105 l0_1 x10_1).f0)) ∧ w'.cell? ⟨gb136, 1, none⟩ = some (.int .i64 ((rd_T105 l0_1 x10_1).f1)) ∧ w'.cell? ⟨gb134, 0, none⟩ = some (.int .i64 a1_0) ∧ w'.cell? ⟨gb134, 1, none⟩ = some (.slice (some ad137) l1_1.length c1_1) ∧ w'.cell? (ad137.add ((x10_1).toNat * 2)) = some (.int .i64 ((rd_T105 l1_1 x10_1).f0)) ∧ w'.cell? ⟨(ad137.add ((x10_1).toNat * 2)).block, (ad137.add ((x10_1).toNat * 2)).off + 1, none⟩ = some (.int .i64 ((rd_T105 l1_1 x10_1).f1))) (ds := []) (bz 7 0) (by kernel_rfl) rfl rfl ⟨(blk_cell BK136.out 0).trans rfl, (blk_cell BK136.out 1).trans rfl, (blk_cell BK134.out 0).trans rfl, (blk_cell BK134.out 1).trans rfl, ((HB.out.cell (World.block_lt_of_cell? w _ hw137_0)).trans hw137_0), ((HB.out.cell (World.block_lt_of_cell? w _ hw137_1)).trans hw137_1)⟩ (fun hHeld => ?_)
         generalize w36.drew = w37 at BK133 BK134 BK136 HB hx137_0 hx137_1 hHeld ⊢
         refine run_ [(0, 1, 2, some 21), (0, 3, 10, some 23), (1, 0, 11, some 20), (1, 2, 15, some 22), (0, 4, 31, some 24), (1, 5, 63, some 25), (0, 6, 127, some 26)] ?_
         repeat (first | (apply tag0; refine run_p (v := ?_) (a' := ?_) rfl rfl (by kernel_rfl) (fun _ _ _ h => h) (by rfl) ?_ ?_ ?_; rotate_left 2; (intro w'; go_simp; with_reducible rfl); (first | (simp only [Act.put, List.setIfInBounds_toArray, List.set_cons_zero, List.set_cons_succ, i64_w, i32_w]; rfl) | rfl)) | (apply tag1; refine run_t (v := ?_) (a' := ?_) rfl rfl (by kernel_rfl) (fun _ _ _ h => h) (by rfl) ?_ hHeld ?_ ?_; rotate_left 2; (rintro w' ⟨s0, s1, s2, s3, s4, s5⟩; go_simp; with_reducible rfl); (first | (simp only [Act.put, List.setIfInBounds_toArray, List.set_cons_zero, List.set_cons_succ, i64_w, i32_w]; rfl) | rfl)))
         refine run_nil ?_
         refine done_ (by kernel_rfl) ?_
         try go_wp2
         go_roundg k1
         case measure => have := HK1.out; omega
         case rel => exact ⟨(wrap64 (x10_1 + 1)), (by first | rfl | (simp; done) | (simp [*]; done)), H', ⟨by have := HK1.out; omega⟩, ⟨bK⟩, ⟨bK⟩, ⟨hB⟩⟩
       ·rw [if_neg c17] at H
        exact absurd H (by simp)
     ·rw [if_neg c9] at H
      exact absurd H (by simp)
    ·rw [if_neg c8] at H
     exact absurd H (by simp)
   ·rw [if_neg c7] at H
    have c7b0 : decide (x10_1 < (l0_1.length : Int)) = false := decide_eq_false c7
    clear c7
    obtain rfl := Option.some.inj H
    have hnb38 := NB133_134.out
    have hnc38 := NB134_133.out
    have hcz39_0 := cz BK133 0
    have hcz39_1 := cz BK133 1
    have hfz39_0 := fz BK133 0
    have hfz39_1 := fz BK133 1
    have hcz40_0 := cz BK134 0
    have hcz40_1 := cz BK134 1
    have hfz40_0 := fz BK134 0
    have hfz40_1 := fz BK134 1
    go_wp2
    go_ret
    exact ⟨by first | rfl | (simp [errW_none, errW_some] <;> rfl) | (simp [*, errW_none, errW_some] <;> rfl), hB⟩

end Go.Proofs.YtjpfbkkikcpmhaaDoor.PFnExactSolutions
