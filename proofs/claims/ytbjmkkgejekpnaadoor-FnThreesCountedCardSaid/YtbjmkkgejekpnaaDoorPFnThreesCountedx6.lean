-- Of this session's own program wip/gen/gen.py (it drives the kit's print): contracts of the functions that the law reaches.
import Derived.Test.YtbjmkkgejekpnaaDoorPFnThreesCountedx0
import Derived.Test.YtbjmkkgejekpnaaDoorPFnThreesCountedx1
import Derived.Test.YtbjmkkgejekpnaaDoorPFnThreesCountedx5
namespace Go.Proofs.YtbjmkkgejekpnaaDoor.PFnThreesCounted
open Go.RowKit Go.Proofs.YtbjmkkgejekpnaaDoorW.PrintWords Go.Proofs.YtbjmkkgejekpnaaDoorW.PrintLast Go.Proofs.YtbjmkkgejekpnaaDoorW.PrintMore Go.Proofs.YtbjmkkgejekpnaaDoor.Base
attribute [local go_sem] max2_int min2_int max_two min_two max_three min_three max_four min_four   -- for this text's walks alone
set_option linter.unusedVariables false
set_option linter.unusedSimpArgs false
set_option maxHeartbeats 8000000
set_option maxRecDepth 100000

/-! ### spec_paGood: function 102 -/
mutual
def spec_paGood.j0 : Nat → Bool → Int → List (S43) → Option (Bool)
 | 0, _, _, _ => none
 | k + 1, x21, x295000, x295001 => if x21 = true then (some false) else (spec_paGood.l0 k x295001 (x295001.length : Int) 0 x295000 x295001)
def spec_paGood.l0 : Nat → List (S43) → Int → Int → Int → List (S43) → Option (Bool)
 | 0, _, _, _, _, _ => none
 | k + 1, x23, x24, x25, x295000, x295001 => if x25 < x24 then (if 0 ≤ x25 then (if x25 < (x23.length : Int) then ((spec_l1In.f ((rd_T43 x23 x25).f0) 0 (wrap64 (x295000 - 1))).bind fun t298 => (if t298 = true then ((spec_l1In.f ((rd_T43 x23 x25).f1) (wrap64 (((rd_T43 x23 x25).f0) + 1)) (wrap64 (x295000 - 1))).bind fun t299 => (if t299 = true then (if x25 > 0 then (if 0 ≤ (wrap64 (x25 - 1)) then (if (wrap64 (x25 - 1)) < (x295001.length : Int) then ((spec_paLess.f ((rd_T43 x295001 (wrap64 (x25 - 1))).f0) ((rd_T43 x295001 (wrap64 (x25 - 1))).f1) ((rd_T43 x23 x25).f0) ((rd_T43 x23 x25).f1)).bind fun t301 => (if t301 = true then (spec_paGood.l0 k x23 x24 (wrap64 (x25 + 1)) x295000 x295001) else (some false))) else (none)) else (none)) else (spec_paGood.l0 k x23 x24 (wrap64 (x25 + 1)) x295000 x295001)) else (some false))) else (some false))) else (none)) else (none)) else (some true)
end
def spec_paGood.f (k : Nat) (a0_0 : Int) (l0_1 : List (S43)) : Option (Bool) := (spec_paPeople.f a0_0).bind fun t295 => (if t295 = true then (spec_paGood.j0 k (decide ((l0_1.length : Int) > (wrap64 (Int.tdiv (wrap64 (a0_0 * (wrap64 (a0_0 - 1)))) 2)))) a0_0 l0_1) else (spec_paGood.j0 k true a0_0 l0_1))
theorem spec_paGood.mono_l : ∀ k, (∀ y0 y1 y2, LeO (spec_paGood.j0 k y0 y1 y2) (spec_paGood.j0 (k + 1) y0 y1 y2)) ∧ (∀ y0 y1 y2 y3 y4, LeO (spec_paGood.l0 k y0 y1 y2 y3 y4) (spec_paGood.l0 (k + 1) y0 y1 y2 y3 y4))
 | 0 => ⟨fun _ _ _ r h => by simp [spec_paGood.j0] at h, fun _ _ _ _ _ r h => by simp [spec_paGood.l0] at h⟩
 | k + 1 => by
  obtain ⟨ih0, ih1⟩ := spec_paGood.mono_l k
  refine ⟨?_, ?_⟩ <;> intros <;> (first | unfold spec_paGood.j0 | unfold spec_paGood.l0)
  all_goals (repeat' first | (with_reducible first | exact ih0 .. | exact ih1 .. | exact LeO.refl _ | exact LeO.none _ | refine LeO.ite ?_ ?_ | refine LeO.bind ?_ (fun _ => ?_)) | exact ih0 .. | exact ih1 .. | exact LeO.none _ | refine LeO.ite ?_ ?_ | refine LeO.bind ?_ (fun _ => ?_))
theorem spec_paGood.mono : ∀ a0 a1 k, LeO (spec_paGood.f k a0 a1) (spec_paGood.f (k + 1) a0 a1) := by
 intro a0 a1 k
 obtain ⟨ih0, ih1⟩ := spec_paGood.mono_l k
 unfold spec_paGood.f
 repeat' first | (with_reducible first | exact ih0 .. | exact ih1 .. | exact LeO.refl _ | exact LeO.none _ | refine LeO.ite ?_ ?_ | refine LeO.bind ?_ (fun _ => ?_)) | exact ih0 .. | exact ih1 .. | exact LeO.none _ | refine LeO.ite ?_ ?_ | refine LeO.bind ?_ (fun _ => ?_)
def spec_paGood.T6 : Bool × List (List Nat × List Nat) := (true, [([], []), ([0], [0]), ([], []), ([2], [2]), ([3], [3]), ([1, 4], [1, 4]), ([5], [5]), ([6, 5], [6]), ([7], [7]), ([8, 7], [7, 8]), ([7], [7]), ([10, 7], [7, 10]), ([11, 7], [7, 11]), ([7], [7]), ([13, 7], [7, 13]), ([14, 7], [7, 14]), ([9, 12, 15, 7, 7], [7, 9, 12, 15]), ([16, 7], [7, 16]), ([7, 17], [7, 17]), ([18, 16], [18]), ([19], [19]), ([20, 19], [19, 20]), ([21, 19, 19], [19, 21]), ([22], [22]), ([23, 22], [22, 23]), ([22], [22]), ([25, 22], [22, 25]), ([24, 26, 22], [22, 24, 26]), ([27, 22], [22, 27]), ([22], [22]), ([28, 29, 22, 22], [22, 28, 29]), ([30, 22], [22, 30]), ([22, 31, 19], [19, 22, 31]), ([19, 32], [19, 32])])
def spec_paGood.B6 : List Nat := [0, 1, 0, 4, 12, 31, 63, 127, 255, 511, 255, 1279, 3327, 255, 8447, 24831, 65535, 131071, 262143, 524287, 1048575, 2097151, 4194303, 8388607, 16777215, 8388607, 41943039, 134217727, 268435455, 8388607, 1073741823, 2147483647, 4294967295, 8589934591]
theorem spec_paGood.tab6 : rtab .any (opsOf Tryd.f102 6) = spec_paGood.T6 := by kernel_rfl
theorem spec_paGood.bits6 : waitsOk spec_paGood.T6.2 spec_paGood.B6 = true := by kernel_rfl
theorem spec_paGood.calls (k : Nat) (a0_0 : Int) (A0_1 : Option Addr) (c0_1 : Nat) (l0_1 : List (S43)) (r : Bool) (w : World) (hr0_1 : Kd.C k43 w A0_1 l0_1.length l0_1) (hc0_1 : l0_1.length ≤ c0_1) (h : spec_paGood.f k a0_0 l0_1 = some r) :
  Calls Tryd.prog 102 #[.agg #[.int .i64 a0_0, .slice A0_1 l0_1.length c0_1]] w fun e w' => e = .returned (.bool r) ∧ Below w.heap.size w w' := by
 have hu52 := Tryd.underlying52
 have hu43 := Tryd.underlying43
 have HR0_1 := Aside0.mk hr0_1
 have HC0_1 := Aside0.mk hc0_1
 clear hr0_1 hc0_1
 have HB := Aside0.mk (Below.refl w.heap.size w)
 have H : ((spec_paPeople.f a0_0).bind fun t295 => (if t295 = true then (spec_paGood.j0 k (decide ((l0_1.length : Int) > (wrap64 (Int.tdiv (wrap64 (a0_0 * (wrap64 (a0_0 - 1)))) 2)))) a0_0 l0_1) else (spec_paGood.j0 k true a0_0 l0_1))) = some r := h
 clear h
 have HC2 := Aside0.mk H
 clear H
 go_enter Tryd.func102, Tryd.ntmps102
 go_upto_region 1 with (first | ((with_reducible refine gate_dst (N := 1) rfl ?_); (try (refine gate_guard (by rfl) ?_; dsimp only)); refine box_event ?hg (N := 1) ?hd (cs := #[.int .i64 a0_0, .slice A0_1 l0_1.length c0_1]) (t := 52) ?hr ?_; (case hd => rfl); (case hg => rfl); (case hr => first | (go_simp; done) | (go_simp; rfl)); intro gb294 hg w3 hbox hb; have BK294 := Aside0.mk (hbox); have GW294 := gS HB hg; have GE294 := gS HB hg; replace HB := hS HB hb; clear hb hbox hg))
 (try simp only [Act.put, List.setIfInBounds_toArray, List.set_cons_zero, List.set_cons_succ])
 go_cut [21] (fun v21 wc => ∃ (kq : Nat) (x21_1 : Bool), v21 = .bool x21_1 ∧ Aside0 (spec_paGood.j0 kq x21_1 a0_0 l0_1 = some r) ∧ Aside0 (kq ≤ k) ∧ Aside0 (wc.heap[gb294]? = some (.cells #[.int .i64 a0_0, (.slice A0_1 l0_1.length c0_1)] 52 (0, 0))) ∧ Aside0 (Below w.heap.size w wc))
 case first =>
  have H := HC2.out
  clear HC2
  replace H := oB H; obtain ⟨t295, A4, H⟩ := H
  by_cases c5 : t295 = true
  ·subst c5
   rw [if_pos rfl] at H
   have H' := Aside0.mk H
   clear H
   obtain ⟨hcz6_0, hcz6_1, hfz6_0, hfz6_1⟩ := cf2 BK294
   go_wp2_with (first | ((with_reducible refine gate_callee (f := 121) rfl ?_); refine goC (N := some 7) Tryd.func121 #[.int .i64 a0_0] rfl ?_; (with_reducible refine (spec_paPeople.calls a0_0 true _ A4.out).mono ?_); rintro e w' ⟨rfl, ⟨nd, rfl⟩⟩; refine ⟨_, rfl, ?_⟩))
   go_meet
   case rel => exact ⟨_, (decide ((l0_1.length : Int) > (wrap64 (Int.tdiv (wrap64 (a0_0 * (wrap64 (a0_0 - 1)))) 2)))), sR, H', ⟨by first | omega | exact Nat.le_refl _⟩, ⟨bK⟩, ⟨hB⟩⟩
  ·replace c5 := Bool.eq_false_iff.mpr c5
   subst c5
   rw [if_neg (show ¬ (false = true) by decide)] at H
   have H' := Aside0.mk H
   clear H
   obtain ⟨hcz7_0, hcz7_1, hfz7_0, hfz7_1⟩ := cf2 BK294
   go_wp2_with (first | ((with_reducible refine gate_callee (f := 121) rfl ?_); refine goC (N := some 7) Tryd.func121 #[.int .i64 a0_0] rfl ?_; (with_reducible refine (spec_paPeople.calls a0_0 false _ A4.out).mono ?_); rintro e w' ⟨rfl, ⟨nd, rfl⟩⟩; refine ⟨_, rfl, ?_⟩))
   go_meet
   case rel => exact ⟨_, (true), sR, H', ⟨by first | omega | exact Nat.le_refl _⟩, ⟨bK⟩, ⟨hB⟩⟩
 case rest =>
  clear HC2
  (try clear c5); (try clear hcz6_0 hcz6_1 hfz6_0 hfz6_1); (try clear hcz7_0 hcz7_1 hfz7_0 hfz7_1)
  obtain ⟨kq, x21_1, rfl, HA, HJ1, BK294, HB⟩ := hcut
  cases kq with
  | zero => exact absurd HA.out (by simp [spec_paGood.j0])
  | succ kj1 =>
   have H := HA.out
   clear HA
   simp only [spec_paGood.j0] at H
   by_cases c8 : x21_1 = true
   ·subst c8
    replace H : (some false) = some r := by rw [if_pos rfl] at H; exact H
    obtain rfl := Option.some.inj H
    go_wp2
    go_ret
    exact ⟨eW, hB⟩
   ·replace c8 := Bool.eq_false_iff.mpr c8
    subst c8
    rw [if_neg (show ¬ (false = true) by decide)] at H
    have H' := Aside0.mk H
    clear H
    obtain ⟨hcz9_0, hcz9_1, hfz9_0, hfz9_1⟩ := cf2 BK294
    go_wp2
    go_loopg [25] kj1 (fun kq v25 w' => ∃ (x25_2 : Int), v25 = .int .i64 x25_2 ∧ Aside0 (spec_paGood.l0 kq l0_1 (l0_1.length : Int) x25_2 a0_0 l0_1 = some r) ∧ Aside0 (kq ≤ kj1) ∧ Aside0 (w'.heap[gb294]? = some (.cells #[.int .i64 a0_0, (.slice A0_1 l0_1.length c0_1)] 52 (0, 0))) ∧ Aside0 (Below w.heap.size w w'))
    case atStart => exact ⟨(0), sR, H', ⟨Nat.le_refl _⟩, ⟨bK⟩, ⟨hB⟩⟩
    case round =>
     clear H'
     (try clear c5); (try clear c8); (try clear hcz6_0 hcz6_1 hfz6_0 hfz6_1); (try clear hcz7_0 hcz7_1 hfz7_0 hfz7_1); (try clear hcz9_0 hcz9_1 hfz9_0 hfz9_1)
     obtain ⟨x25_2, rfl, HA, HK2, BK294, HB⟩ := hrel
     cases gk with
     | zero => exact absurd HA.out (by simp [spec_paGood.l0])
     | succ k2 =>
      have H := HA.out
      clear HA
      simp only [spec_paGood.l0] at H
      by_cases c10 : x25_2 < (l0_1.length : Int)
      ·rw [if_pos c10] at H
       have c10b0 := decide_eq_true c10
       clear c10
       replace H := ifD H; obtain ⟨c11b0, H⟩ := H
       replace H := ifD H; obtain ⟨c12b0, H⟩ := H
       replace H := oB H; obtain ⟨t298, A13, H⟩ := H
       by_cases c14 : t298 = true
       ·subst c14
        rw [if_pos rfl] at H
        replace H := oB H; obtain ⟨t299, A15, H⟩ := H
        by_cases c16 : t299 = true
        ·subst c16
         rw [if_pos rfl] at H
         by_cases c17 : x25_2 > 0
         ·rw [if_pos c17] at H
          have c17b0 : decide (0 < x25_2) = true := decide_eq_true c17
          clear c17
          obtain ⟨ji18, hji18⟩ : ∃ j_ : Int, (wrap64 (x25_2 - 1)) = j_ := ⟨_, rfl⟩
          replace H : (if 0 ≤ (ji18) then (if (ji18) < (l0_1.length : Int) then ((spec_paLess.f ((rd_T43 l0_1 (ji18)).f0) ((rd_T43 l0_1 (ji18)).f1) ((rd_T43 l0_1 x25_2).f0) ((rd_T43 l0_1 x25_2).f1)).bind fun t301 => (if t301 = true then (spec_paGood.l0 k2 l0_1 (l0_1.length : Int) (wrap64 (x25_2 + 1)) a0_0 l0_1) else (some false))) else (none)) else (none)) = some r := by first | (rw [hji18] at H; exact H) | (simp only [hji18] at H ⊢; exact H)
          (try rw [hji18] at A13)
          (try rw [hji18] at A15)
          have hji18w : (IntKind.i64.wrap (x25_2 - 1)) = ji18 := (i64_w _).trans hji18
          replace H := ifD H; obtain ⟨c19b0, H⟩ := H
          replace H := ifD H; obtain ⟨c20b0, H⟩ := H
          replace H := oB H; obtain ⟨t301, A21, H⟩ := H
          by_cases c22 : t301 = true
          ·subst c22
           rw [if_pos rfl] at H
           have H' := Aside0.mk H
           clear H
           have p296 : 0 ≤ (x25_2 : Int) := of_decide_eq_true (by first | (with_reducible assumption) | assumption)
           have q296 : x25_2 < (l0_1.length : Int) := of_decide_eq_true (by first | (with_reducible assumption) | assumption)
           obtain ⟨ad296, e296, hx296_0, hx296_1⟩ := at_T43 HR0_1.out x25_2 p296 q296
           cases e296
           replace hx296_0 := (HB.out.cell (World.block_lt_of_cell? w _ hx296_0)).trans hx296_0
           replace hx296_1 := (HB.out.cell (World.block_lt_of_cell? w _ hx296_1)).trans hx296_1
           replace p296 := eq_true p296
           replace q296 := eq_true q296
           try go_wp2_with (first | ((with_reducible refine gate_dst (N := 4) rfl ?_); (try (refine gate_guard (by rfl) ?_; dsimp only)); refine box_event ?hg (N := 4) ?hd (cs := #[.int .i64 0, .int .i64 0]) (t := 43) ?hr ?_; (case hd => rfl); (case hg => rfl); (case hr => first | (go_simp; done) | (go_simp; rfl)); intro gb297 hg w23 hbox hb; have BK297 := Aside0.mk (hbox); have GW297 := gS HB hg; have GE297 := gS HB hg; have NB294_297 := nL BK294 hg; have NB297_294 := nG BK294 hg; replace BK294 := bS BK294 hb; replace HB := hS HB hb; clear hb hbox hg; have hnb24 := NB297_294.out; have hnc24 := NB294_297.out; obtain ⟨hcz25_0, hcz25_1, hfz25_0, hfz25_1⟩ := cf2 BK297))
           have n0_ : Aside0 (((w23.setCell ⟨gb297, 0, none⟩ (.int .i64 ((rd_T43 l0_1 x25_2).f0))).setCell ⟨gb297, 1, none⟩ (.int .i64 ((rd_T43 l0_1 x25_2).f1))).heap[gb294]? = some (.cells #[.int .i64 a0_0, .slice (some ad296) l0_1.length c0_1] 52 (0, 0))) := ⟨by (with_reducible repeat (first | refine blk_drewN ?_ _ | refine blk_drew ?_ | refine blk_alloc ?_ _)); refine blk_far ?_ NB294_297.out _; (with_reducible repeat (first | refine blk_drewN ?_ _ | refine blk_drew ?_ | refine blk_alloc ?_ _)); refine blk_far ?_ NB294_297.out _; (with_reducible repeat (first | refine blk_drewN ?_ _ | refine blk_drew ?_ | refine blk_alloc ?_ _)); exact BK294.out⟩
           have n1_ : Aside0 (((w23.setCell ⟨gb297, 0, none⟩ (.int .i64 ((rd_T43 l0_1 x25_2).f0))).setCell ⟨gb297, 1, none⟩ (.int .i64 ((rd_T43 l0_1 x25_2).f1))).heap[gb297]? = some (.cells #[.int .i64 ((rd_T43 l0_1 x25_2).f0), .int .i64 ((rd_T43 l0_1 x25_2).f1)] 43 (0, 0))) := ⟨by (with_reducible repeat (first | refine blk_drewN ?_ _ | refine blk_drew ?_ | refine blk_alloc ?_ _)); refine blk_put (cs := #[.int .i64 ((rd_T43 l0_1 x25_2).f0), .int .i64 0]) ?_ 1 _ rfl; (with_reducible repeat (first | refine blk_drewN ?_ _ | refine blk_drew ?_ | refine blk_alloc ?_ _)); refine blk_put (cs := #[.int .i64 0, .int .i64 0]) ?_ 0 _ rfl; (with_reducible repeat (first | refine blk_drewN ?_ _ | refine blk_drew ?_ | refine blk_alloc ?_ _)); exact BK297.out⟩
           have n2_ : Aside0 (Below w.heap.size w ((w23.setCell ⟨gb297, 0, none⟩ (.int .i64 ((rd_T43 l0_1 x25_2).f0))).setCell ⟨gb297, 1, none⟩ (.int .i64 ((rd_T43 l0_1 x25_2).f1)))) := ⟨hB⟩
           (try clear BK294)
           (try clear BK297)
           (try clear HB)
           generalize ((w23.setCell ⟨gb297, 0, none⟩ (.int .i64 ((rd_T43 l0_1 x25_2).f0))).setCell ⟨gb297, 1, none⟩ (.int .i64 ((rd_T43 l0_1 x25_2).f1))) = w26 at n0_ n1_ n2_ ⊢
           have BK294 := n0_
           have BK297 := n1_
           have HB := n2_
           clear n0_ n1_ n2_
           replace BK294 := Aside0.mk (blk_drew BK294.out)
           replace BK297 := Aside0.mk (blk_drew BK297.out)
           replace HB := Aside0.mk (below_drew1 HB.out)
           have p300 : 0 ≤ ((ji18) : Int) := of_decide_eq_true (by first | (with_reducible assumption) | assumption)
           have q300 : (ji18) < (l0_1.length : Int) := of_decide_eq_true (by first | (with_reducible assumption) | assumption)
           obtain ⟨ad300, e300, hx300_0, hx300_1⟩ := at_T43 HR0_1.out (ji18) p300 q300
           have hw300_1 := hx300_1
           have hw300_0 := hx300_0
           obtain rfl : ad296 = ad300 := (by injection e300)
           replace hx300_0 := (HB.out.cell (World.block_lt_of_cell? w _ hx300_0)).trans hx300_0
           replace hx300_1 := (HB.out.cell (World.block_lt_of_cell? w _ hx300_1)).trans hx300_1
           replace p300 := eq_true p300
           replace q300 := eq_true q300
           refine start_ (n := 34) (S := fun w' => w'.cell? ⟨gb297, 0, none⟩ = some (.int .i64 ((rd_T43 l0_1 x25_2).f0)) ∧ w'.cell? ⟨gb297, 1, none⟩ = some (.int .i64 ((rd_T43 l0_1 x25_2).f1)) ∧ w'.cell? ⟨gb294, 0, none⟩ = some (.int .i64 a0_0) ∧ w'.cell? ⟨gb294, 1, none⟩ = some (.slice (some ad296) l0_1.length c0_1) ∧ w'.cell? (ad296.add (((ji18)).toNat * 2)) = some (.int .i64 ((rd_T43 l0_1 (ji18)).f0)) ∧ w'.cell? ⟨(ad296.add (((ji18)).toNat * 2)).block, (ad296.add (((ji18)).toNat * 2)).off + 1, none⟩ = some (.int .i64 ((rd_T43 l0_1 (ji18)).f1))) (ds := []) (bz 34 0) (by kernel_rfl) rfl rfl ⟨(blk_cell BK297.out 0).trans rfl, (blk_cell BK297.out 1).trans rfl, (blk_cell BK294.out 0).trans rfl, (blk_cell BK294.out 1).trans rfl, ((HB.out.cell (World.block_lt_of_cell? w _ hw300_0)).trans hw300_0), ((HB.out.cell (World.block_lt_of_cell? w _ hw300_1)).trans hw300_1)⟩ (fun hHeld => ?_); refine with_tabW spec_paGood.tab6 spec_paGood.bits6 (fun HT_ HW_ => ?_)
           generalize w26.drew = w27 at BK294 BK297 HB hx300_0 hx300_1 hHeld ⊢
           refine run_ [(0, 0, 1, some 30), (0, 2, 5, some 32), (1, 1, 7, some 31), (1, 3, 15, some 33), (0, 4, 31, some 34)] ?_
           repeat (first | (apply tag0; refine run_p (v := ?_) (a' := ?_) rfl rfl (any_of HT_.out (by kernel_rfl)) (fun _ _ _ h => h) (by rfl) ?_ ?_ ?_; rotate_left 2; (intro w'; go_simp; with_reducible rfl); (first | (simp only [Act.put, List.setIfInBounds_toArray, List.set_cons_zero, List.set_cons_succ, i64_w, i32_w]; rfl) | rfl)) | (apply tag1; refine run_t (v := ?_) (a' := ?_) rfl rfl (take_ofW HT_.out HW_.out (by kernel_rfl)) (fun _ _ _ h => h) (by rfl) ?_ hHeld ?_ ?_; rotate_left 2; (rintro w' ⟨s0, s1, s2, s3, s4, s5⟩; go_simp; with_reducible rfl); (first | (simp only [Act.put, List.setIfInBounds_toArray, List.set_cons_zero, List.set_cons_succ, i64_w, i32_w]; rfl) | rfl)))
           refine run_nil ?_
           refine one_ (i := 5) (N := some 35) (bz 34 63) rfl rfl (one_of HT_.out (by kernel_rfl)) (by decide) (fun K hK => ?_)
           refine goes_ Tryd.func87 (by kernel_rfl) rfl #[.int .i64 ((rd_T43 l0_1 x25_2).f0), .int .i64 0, .int .i64 (wrap64 (a0_0 - 1))] (by rfl) rfl rfl mapT ?_
           with_reducible refine (spec_l1In.calls ((rd_T43 l0_1 x25_2).f0) 0 (wrap64 (a0_0 - 1)) true _ A13.out).mono ?_
           rintro e w' ⟨rfl, ⟨nd, rfl⟩⟩
           refine ⟨_, rfl, ?_⟩
           refine hK.out _ _ ⟨(blk_cell BK297.out 0).trans rfl, (blk_cell BK297.out 1).trans rfl, (blk_cell BK294.out 0).trans rfl, (blk_cell BK294.out 1).trans rfl, ((HB.out.cell (World.block_lt_of_cell? w _ hw300_0)).trans hw300_0), ((HB.out.cell (World.block_lt_of_cell? w _ hw300_1)).trans hw300_1)⟩ (fun hHeld => ?_)
           clear hK K
           refine norm_ (a' := ?_) ?_ ?_
           rotate_left
           ·show Act.put _ (some 35) _ = _
            simp only [Act.put, List.setIfInBounds_toArray, List.set_cons_zero, List.set_cons_succ, i64_w, i32_w]
            rfl
           refine run_ [(0, 6, 127, some 36), (0, 7, 255, some 37), (0, 8, 511, some 38), (0, 10, 1535, some 40), (0, 13, 9727, some 43), (1, 9, 10239, some 39), (1, 11, 12287, some 41), (0, 12, 16383, some 42), (1, 14, 32767, some 44), (0, 15, 65535, some 45)] ?_
           repeat (first | (apply tag0; refine run_p (v := ?_) (a' := ?_) rfl rfl (any_of HT_.out (by kernel_rfl)) (fun _ _ _ h => h) (by rfl) ?_ ?_ ?_; rotate_left 2; (intro w'; go_simp; with_reducible rfl); (first | (simp only [Act.put, List.setIfInBounds_toArray, List.set_cons_zero, List.set_cons_succ, i64_w, i32_w]; rfl) | rfl)) | (apply tag1; refine run_t (v := ?_) (a' := ?_) rfl rfl (take_ofW HT_.out HW_.out (by kernel_rfl)) (fun _ _ _ h => h) (by rfl) ?_ hHeld ?_ ?_; rotate_left 2; (rintro w' ⟨s0, s1, s2, s3, s4, s5⟩; go_simp; with_reducible rfl); (first | (simp only [Act.put, List.setIfInBounds_toArray, List.set_cons_zero, List.set_cons_succ, i64_w, i32_w]; rfl) | rfl)))
           refine run_nil ?_
           refine one_ (i := 16) (N := some 46) (bz 34 131071) rfl rfl (one_of HT_.out (by kernel_rfl)) (by decide) (fun K hK => ?_)
           refine goes_ Tryd.func87 (by kernel_rfl) rfl #[.int .i64 ((rd_T43 l0_1 x25_2).f1), .int .i64 (wrap64 (((rd_T43 l0_1 x25_2).f0) + 1)), .int .i64 (wrap64 (a0_0 - 1))] (by rfl) rfl rfl mapT ?_
           with_reducible refine (spec_l1In.calls ((rd_T43 l0_1 x25_2).f1) (wrap64 (((rd_T43 l0_1 x25_2).f0) + 1)) (wrap64 (a0_0 - 1)) true _ A15.out).mono ?_
           rintro e w' ⟨rfl, ⟨nd, rfl⟩⟩
           refine ⟨_, rfl, ?_⟩
           refine hK.out _ _ ⟨(blk_cell BK297.out 0).trans rfl, (blk_cell BK297.out 1).trans rfl, (blk_cell BK294.out 0).trans rfl, (blk_cell BK294.out 1).trans rfl, ((HB.out.cell (World.block_lt_of_cell? w _ hw300_0)).trans hw300_0), ((HB.out.cell (World.block_lt_of_cell? w _ hw300_1)).trans hw300_1)⟩ (fun hHeld => ?_)
           clear hK K
           refine norm_ (a' := ?_) ?_ ?_
           rotate_left
           ·show Act.put _ (some 46) _ = _
            simp only [Act.put, List.setIfInBounds_toArray, List.set_cons_zero, List.set_cons_succ, i64_w, i32_w]
            rfl
           refine run_ [(0, 17, 262143, some 47), (0, 18, 524287, some 48), (0, 19, 1048575, some 49), (0, 20, 2097151, some 50), (0, 21, 4194303, some 51), (0, 22, 8388607, some 52), (0, 23, 16777215, some 53), (0, 25, 50331647, some 55), (0, 26, 117440511, some 56), (1, 24, 134217727, some 54), (0, 27, 268435455, some 57), (1, 28, 536870911, some 58), (1, 29, 1073741823, some 59)] ?_
           repeat (first | (apply tag0; refine run_p (v := ?_) (a' := ?_) rfl rfl (any_of HT_.out (by kernel_rfl)) (fun _ _ _ h => h) (by rfl) ?_ ?_ ?_; rotate_left 2; (intro w'; go_simp; with_reducible rfl); (first | (simp only [Act.put, List.setIfInBounds_toArray, List.set_cons_zero, List.set_cons_succ, i64_w, i32_w]; rfl) | rfl)) | (apply tag1; refine run_t (v := ?_) (a' := ?_) rfl rfl (take_ofW HT_.out HW_.out (by kernel_rfl)) (fun _ _ _ h => h) (by rfl) ?_ hHeld ?_ ?_; rotate_left 2; (rintro w' ⟨s0, s1, s2, s3, s4, s5⟩; go_simp; with_reducible rfl); (first | (simp only [Act.put, List.setIfInBounds_toArray, List.set_cons_zero, List.set_cons_succ, i64_w, i32_w]; rfl) | rfl)))
           refine run_nil ?_
           refine one_ (i := 30) (N := some 60) (bz 34 2147483647) rfl rfl (one_of HT_.out (by kernel_rfl)) (by decide) (fun K hK => ?_)
           refine goes_ Tryd.func150 (by kernel_rfl) rfl #[.agg #[.int .i64 ((rd_T43 l0_1 (ji18)).f0), .int .i64 ((rd_T43 l0_1 (ji18)).f1)], .agg #[.int .i64 ((rd_T43 l0_1 x25_2).f0), .int .i64 ((rd_T43 l0_1 x25_2).f1)]] (by rfl) rfl rfl (by (try simp only [List.map_toArray, List.map_cons, List.map_nil]); first | done | (simp only [hji18]; rfl) | rfl | (simp only [List.length_drop, List.length_take]; rfl)) ?_
           with_reducible refine (spec_paLess.calls ((rd_T43 l0_1 (ji18)).f0) ((rd_T43 l0_1 (ji18)).f1) ((rd_T43 l0_1 x25_2).f0) ((rd_T43 l0_1 x25_2).f1) true _ A21.out).mono ?_
           rintro e w28 ⟨rfl, hb⟩
           refine ⟨_, rfl, ?_⟩
           replace BK294 := bS BK294 hb
           replace BK297 := bS BK297 hb
           replace HB := hS HB hb
           (try clear hb)
           (try clear hb2)
           (try clear hk)
           (try clear hi)
           refine hK.out _ _ ⟨(blk_cell BK297.out 0).trans rfl, (blk_cell BK297.out 1).trans rfl, (blk_cell BK294.out 0).trans rfl, (blk_cell BK294.out 1).trans rfl, ((HB.out.cell (World.block_lt_of_cell? w _ hw300_0)).trans hw300_0), ((HB.out.cell (World.block_lt_of_cell? w _ hw300_1)).trans hw300_1)⟩ (fun hHeld => ?_)
           clear hK K
           refine norm_ (a' := ?_) ?_ ?_
           rotate_left
           ·show Act.put _ (some 60) _ = _
            simp only [Act.put, List.setIfInBounds_toArray, List.set_cons_zero, List.set_cons_succ, i64_w, i32_w]
            rfl
           refine run_ [(0, 31, 4294967295, some 61), (0, 32, 8589934591, some 62), (0, 33, 17179869183, some 63)] ?_
           repeat ((apply tag0; refine run_p (v := ?_) (a' := ?_) rfl rfl (any_of HT_.out (by kernel_rfl)) (fun _ _ _ h => h) (by rfl) ?_ ?_ ?_; rotate_left 2; (intro w'; go_simp; with_reducible rfl); (first | (simp only [Act.put, List.setIfInBounds_toArray, List.set_cons_zero, List.set_cons_succ, i64_w, i32_w]; rfl) | rfl)))
           refine run_nil ?_
           refine done_ (done_of HT_.out (by kernel_rfl)) ?_
           try go_wp2
           go_roundg k2
           case measure => have := HJ1.out; have := HK2.out; omega
           case rel => exact ⟨(wrap64 (x25_2 + 1)), sR, H', ⟨by have := HJ1.out; have := HK2.out; omega⟩, ⟨bK⟩, ⟨hB⟩⟩
          ·replace c22 := Bool.eq_false_iff.mpr c22
           subst c22
           replace H : (some false) = some r := by rw [if_neg (show ¬ (false = true) by decide)] at H; exact H
           obtain rfl := Option.some.inj H
           have p296 : 0 ≤ (x25_2 : Int) := of_decide_eq_true (by first | (with_reducible assumption) | assumption)
           have q296 : x25_2 < (l0_1.length : Int) := of_decide_eq_true (by first | (with_reducible assumption) | assumption)
           obtain ⟨ad296, e296, hx296_0, hx296_1⟩ := at_T43 HR0_1.out x25_2 p296 q296
           cases e296
           replace hx296_0 := (HB.out.cell (World.block_lt_of_cell? w _ hx296_0)).trans hx296_0
           replace hx296_1 := (HB.out.cell (World.block_lt_of_cell? w _ hx296_1)).trans hx296_1
           replace p296 := eq_true p296
           replace q296 := eq_true q296
           try go_wp2_with (first | ((with_reducible refine gate_dst (N := 4) rfl ?_); (try (refine gate_guard (by rfl) ?_; dsimp only)); refine box_event ?hg (N := 4) ?hd (cs := #[.int .i64 0, .int .i64 0]) (t := 43) ?hr ?_; (case hd => rfl); (case hg => rfl); (case hr => first | (go_simp; done) | (go_simp; rfl)); intro gb297 hg w29 hbox hb; have BK297 := Aside0.mk (hbox); have GW297 := gS HB hg; have GE297 := gS HB hg; have NB294_297 := nL BK294 hg; have NB297_294 := nG BK294 hg; replace BK294 := bS BK294 hb; replace HB := hS HB hb; clear hb hbox hg; have hnb30 := NB297_294.out; have hnc30 := NB294_297.out; obtain ⟨hcz31_0, hcz31_1, hfz31_0, hfz31_1⟩ := cf2 BK297))
           have n0_ : Aside0 (((w29.setCell ⟨gb297, 0, none⟩ (.int .i64 ((rd_T43 l0_1 x25_2).f0))).setCell ⟨gb297, 1, none⟩ (.int .i64 ((rd_T43 l0_1 x25_2).f1))).heap[gb294]? = some (.cells #[.int .i64 a0_0, .slice (some ad296) l0_1.length c0_1] 52 (0, 0))) := ⟨by (with_reducible repeat (first | refine blk_drewN ?_ _ | refine blk_drew ?_ | refine blk_alloc ?_ _)); refine blk_far ?_ NB294_297.out _; (with_reducible repeat (first | refine blk_drewN ?_ _ | refine blk_drew ?_ | refine blk_alloc ?_ _)); refine blk_far ?_ NB294_297.out _; (with_reducible repeat (first | refine blk_drewN ?_ _ | refine blk_drew ?_ | refine blk_alloc ?_ _)); exact BK294.out⟩
           have n1_ : Aside0 (((w29.setCell ⟨gb297, 0, none⟩ (.int .i64 ((rd_T43 l0_1 x25_2).f0))).setCell ⟨gb297, 1, none⟩ (.int .i64 ((rd_T43 l0_1 x25_2).f1))).heap[gb297]? = some (.cells #[.int .i64 ((rd_T43 l0_1 x25_2).f0), .int .i64 ((rd_T43 l0_1 x25_2).f1)] 43 (0, 0))) := ⟨by (with_reducible repeat (first | refine blk_drewN ?_ _ | refine blk_drew ?_ | refine blk_alloc ?_ _)); refine blk_put (cs := #[.int .i64 ((rd_T43 l0_1 x25_2).f0), .int .i64 0]) ?_ 1 _ rfl; (with_reducible repeat (first | refine blk_drewN ?_ _ | refine blk_drew ?_ | refine blk_alloc ?_ _)); refine blk_put (cs := #[.int .i64 0, .int .i64 0]) ?_ 0 _ rfl; (with_reducible repeat (first | refine blk_drewN ?_ _ | refine blk_drew ?_ | refine blk_alloc ?_ _)); exact BK297.out⟩
           have n2_ : Aside0 (Below w.heap.size w ((w29.setCell ⟨gb297, 0, none⟩ (.int .i64 ((rd_T43 l0_1 x25_2).f0))).setCell ⟨gb297, 1, none⟩ (.int .i64 ((rd_T43 l0_1 x25_2).f1)))) := ⟨hB⟩
           (try clear BK294)
           (try clear BK297)
           (try clear HB)
           generalize ((w29.setCell ⟨gb297, 0, none⟩ (.int .i64 ((rd_T43 l0_1 x25_2).f0))).setCell ⟨gb297, 1, none⟩ (.int .i64 ((rd_T43 l0_1 x25_2).f1))) = w32 at n0_ n1_ n2_ ⊢
           have BK294 := n0_
           have BK297 := n1_
           have HB := n2_
           clear n0_ n1_ n2_
           replace BK294 := Aside0.mk (blk_drew BK294.out)
           replace BK297 := Aside0.mk (blk_drew BK297.out)
           replace HB := Aside0.mk (below_drew1 HB.out)
           have p300 : 0 ≤ ((ji18) : Int) := of_decide_eq_true (by first | (with_reducible assumption) | assumption)
           have q300 : (ji18) < (l0_1.length : Int) := of_decide_eq_true (by first | (with_reducible assumption) | assumption)
           obtain ⟨ad300, e300, hx300_0, hx300_1⟩ := at_T43 HR0_1.out (ji18) p300 q300
           have hw300_1 := hx300_1
           have hw300_0 := hx300_0
           obtain rfl : ad296 = ad300 := (by injection e300)
           replace hx300_0 := (HB.out.cell (World.block_lt_of_cell? w _ hx300_0)).trans hx300_0
           replace hx300_1 := (HB.out.cell (World.block_lt_of_cell? w _ hx300_1)).trans hx300_1
           replace p300 := eq_true p300
           replace q300 := eq_true q300
           refine start_ (n := 34) (S := fun w' => w'.cell? ⟨gb297, 0, none⟩ = some (.int .i64 ((rd_T43 l0_1 x25_2).f0)) ∧ w'.cell? ⟨gb297, 1, none⟩ = some (.int .i64 ((rd_T43 l0_1 x25_2).f1)) ∧ w'.cell? ⟨gb294, 0, none⟩ = some (.int .i64 a0_0) ∧ w'.cell? ⟨gb294, 1, none⟩ = some (.slice (some ad296) l0_1.length c0_1) ∧ w'.cell? (ad296.add (((ji18)).toNat * 2)) = some (.int .i64 ((rd_T43 l0_1 (ji18)).f0)) ∧ w'.cell? ⟨(ad296.add (((ji18)).toNat * 2)).block, (ad296.add (((ji18)).toNat * 2)).off + 1, none⟩ = some (.int .i64 ((rd_T43 l0_1 (ji18)).f1))) (ds := []) (bz 34 0) (by kernel_rfl) rfl rfl ⟨(blk_cell BK297.out 0).trans rfl, (blk_cell BK297.out 1).trans rfl, (blk_cell BK294.out 0).trans rfl, (blk_cell BK294.out 1).trans rfl, ((HB.out.cell (World.block_lt_of_cell? w _ hw300_0)).trans hw300_0), ((HB.out.cell (World.block_lt_of_cell? w _ hw300_1)).trans hw300_1)⟩ (fun hHeld => ?_); refine with_tabW spec_paGood.tab6 spec_paGood.bits6 (fun HT_ HW_ => ?_)
           generalize w32.drew = w33 at BK294 BK297 HB hx300_0 hx300_1 hHeld ⊢
           refine run_ [(0, 0, 1, some 30), (0, 2, 5, some 32), (1, 1, 7, some 31), (1, 3, 15, some 33), (0, 4, 31, some 34)] ?_
           repeat (first | (apply tag0; refine run_p (v := ?_) (a' := ?_) rfl rfl (any_of HT_.out (by kernel_rfl)) (fun _ _ _ h => h) (by rfl) ?_ ?_ ?_; rotate_left 2; (intro w'; go_simp; with_reducible rfl); (first | (simp only [Act.put, List.setIfInBounds_toArray, List.set_cons_zero, List.set_cons_succ, i64_w, i32_w]; rfl) | rfl)) | (apply tag1; refine run_t (v := ?_) (a' := ?_) rfl rfl (take_ofW HT_.out HW_.out (by kernel_rfl)) (fun _ _ _ h => h) (by rfl) ?_ hHeld ?_ ?_; rotate_left 2; (rintro w' ⟨s0, s1, s2, s3, s4, s5⟩; go_simp; with_reducible rfl); (first | (simp only [Act.put, List.setIfInBounds_toArray, List.set_cons_zero, List.set_cons_succ, i64_w, i32_w]; rfl) | rfl)))
           refine run_nil ?_
           refine one_ (i := 5) (N := some 35) (bz 34 63) rfl rfl (one_of HT_.out (by kernel_rfl)) (by decide) (fun K hK => ?_)
           refine goes_ Tryd.func87 (by kernel_rfl) rfl #[.int .i64 ((rd_T43 l0_1 x25_2).f0), .int .i64 0, .int .i64 (wrap64 (a0_0 - 1))] (by rfl) rfl rfl mapT ?_
           with_reducible refine (spec_l1In.calls ((rd_T43 l0_1 x25_2).f0) 0 (wrap64 (a0_0 - 1)) true _ A13.out).mono ?_
           rintro e w' ⟨rfl, ⟨nd, rfl⟩⟩
           refine ⟨_, rfl, ?_⟩
           refine hK.out _ _ ⟨(blk_cell BK297.out 0).trans rfl, (blk_cell BK297.out 1).trans rfl, (blk_cell BK294.out 0).trans rfl, (blk_cell BK294.out 1).trans rfl, ((HB.out.cell (World.block_lt_of_cell? w _ hw300_0)).trans hw300_0), ((HB.out.cell (World.block_lt_of_cell? w _ hw300_1)).trans hw300_1)⟩ (fun hHeld => ?_)
           clear hK K
           refine norm_ (a' := ?_) ?_ ?_
           rotate_left
           ·show Act.put _ (some 35) _ = _
            simp only [Act.put, List.setIfInBounds_toArray, List.set_cons_zero, List.set_cons_succ, i64_w, i32_w]
            rfl
           refine run_ [(0, 6, 127, some 36), (0, 7, 255, some 37), (0, 8, 511, some 38), (0, 10, 1535, some 40), (0, 13, 9727, some 43), (1, 9, 10239, some 39), (1, 11, 12287, some 41), (0, 12, 16383, some 42), (1, 14, 32767, some 44), (0, 15, 65535, some 45)] ?_
           repeat (first | (apply tag0; refine run_p (v := ?_) (a' := ?_) rfl rfl (any_of HT_.out (by kernel_rfl)) (fun _ _ _ h => h) (by rfl) ?_ ?_ ?_; rotate_left 2; (intro w'; go_simp; with_reducible rfl); (first | (simp only [Act.put, List.setIfInBounds_toArray, List.set_cons_zero, List.set_cons_succ, i64_w, i32_w]; rfl) | rfl)) | (apply tag1; refine run_t (v := ?_) (a' := ?_) rfl rfl (take_ofW HT_.out HW_.out (by kernel_rfl)) (fun _ _ _ h => h) (by rfl) ?_ hHeld ?_ ?_; rotate_left 2; (rintro w' ⟨s0, s1, s2, s3, s4, s5⟩; go_simp; with_reducible rfl); (first | (simp only [Act.put, List.setIfInBounds_toArray, List.set_cons_zero, List.set_cons_succ, i64_w, i32_w]; rfl) | rfl)))
           refine run_nil ?_
           refine one_ (i := 16) (N := some 46) (bz 34 131071) rfl rfl (one_of HT_.out (by kernel_rfl)) (by decide) (fun K hK => ?_)
           refine goes_ Tryd.func87 (by kernel_rfl) rfl #[.int .i64 ((rd_T43 l0_1 x25_2).f1), .int .i64 (wrap64 (((rd_T43 l0_1 x25_2).f0) + 1)), .int .i64 (wrap64 (a0_0 - 1))] (by rfl) rfl rfl mapT ?_
           with_reducible refine (spec_l1In.calls ((rd_T43 l0_1 x25_2).f1) (wrap64 (((rd_T43 l0_1 x25_2).f0) + 1)) (wrap64 (a0_0 - 1)) true _ A15.out).mono ?_
           rintro e w' ⟨rfl, ⟨nd, rfl⟩⟩
           refine ⟨_, rfl, ?_⟩
           refine hK.out _ _ ⟨(blk_cell BK297.out 0).trans rfl, (blk_cell BK297.out 1).trans rfl, (blk_cell BK294.out 0).trans rfl, (blk_cell BK294.out 1).trans rfl, ((HB.out.cell (World.block_lt_of_cell? w _ hw300_0)).trans hw300_0), ((HB.out.cell (World.block_lt_of_cell? w _ hw300_1)).trans hw300_1)⟩ (fun hHeld => ?_)
           clear hK K
           refine norm_ (a' := ?_) ?_ ?_
           rotate_left
           ·show Act.put _ (some 46) _ = _
            simp only [Act.put, List.setIfInBounds_toArray, List.set_cons_zero, List.set_cons_succ, i64_w, i32_w]
            rfl
           refine run_ [(0, 17, 262143, some 47), (0, 18, 524287, some 48), (0, 19, 1048575, some 49), (0, 20, 2097151, some 50), (0, 21, 4194303, some 51), (0, 22, 8388607, some 52), (0, 23, 16777215, some 53), (0, 25, 50331647, some 55), (0, 26, 117440511, some 56), (1, 24, 134217727, some 54), (0, 27, 268435455, some 57), (1, 28, 536870911, some 58), (1, 29, 1073741823, some 59)] ?_
           repeat (first | (apply tag0; refine run_p (v := ?_) (a' := ?_) rfl rfl (any_of HT_.out (by kernel_rfl)) (fun _ _ _ h => h) (by rfl) ?_ ?_ ?_; rotate_left 2; (intro w'; go_simp; with_reducible rfl); (first | (simp only [Act.put, List.setIfInBounds_toArray, List.set_cons_zero, List.set_cons_succ, i64_w, i32_w]; rfl) | rfl)) | (apply tag1; refine run_t (v := ?_) (a' := ?_) rfl rfl (take_ofW HT_.out HW_.out (by kernel_rfl)) (fun _ _ _ h => h) (by rfl) ?_ hHeld ?_ ?_; rotate_left 2; (rintro w' ⟨s0, s1, s2, s3, s4, s5⟩; go_simp; with_reducible rfl); (first | (simp only [Act.put, List.setIfInBounds_toArray, List.set_cons_zero, List.set_cons_succ, i64_w, i32_w]; rfl) | rfl)))
           refine run_nil ?_
           refine one_ (i := 30) (N := some 60) (bz 34 2147483647) rfl rfl (one_of HT_.out (by kernel_rfl)) (by decide) (fun K hK => ?_)
           refine goes_ Tryd.func150 (by kernel_rfl) rfl #[.agg #[.int .i64 ((rd_T43 l0_1 (ji18)).f0), .int .i64 ((rd_T43 l0_1 (ji18)).f1)], .agg #[.int .i64 ((rd_T43 l0_1 x25_2).f0), .int .i64 ((rd_T43 l0_1 x25_2).f1)]] (by rfl) rfl rfl (by (try simp only [List.map_toArray, List.map_cons, List.map_nil]); first | done | (simp only [hji18]; rfl) | rfl | (simp only [List.length_drop, List.length_take]; rfl)) ?_
           with_reducible refine (spec_paLess.calls ((rd_T43 l0_1 (ji18)).f0) ((rd_T43 l0_1 (ji18)).f1) ((rd_T43 l0_1 x25_2).f0) ((rd_T43 l0_1 x25_2).f1) false _ A21.out).mono ?_
           rintro e w34 ⟨rfl, hb⟩
           refine ⟨_, rfl, ?_⟩
           replace BK294 := bS BK294 hb
           replace BK297 := bS BK297 hb
           replace HB := hS HB hb
           (try clear hb)
           (try clear hb2)
           (try clear hk)
           (try clear hi)
           refine hK.out _ _ ⟨(blk_cell BK297.out 0).trans rfl, (blk_cell BK297.out 1).trans rfl, (blk_cell BK294.out 0).trans rfl, (blk_cell BK294.out 1).trans rfl, ((HB.out.cell (World.block_lt_of_cell? w _ hw300_0)).trans hw300_0), ((HB.out.cell (World.block_lt_of_cell? w _ hw300_1)).trans hw300_1)⟩ (fun hHeld => ?_)
           clear hK K
           refine norm_ (a' := ?_) ?_ ?_
           rotate_left
           ·show Act.put _ (some 60) _ = _
            simp only [Act.put, List.setIfInBounds_toArray, List.set_cons_zero, List.set_cons_succ, i64_w, i32_w]
            rfl
           refine run_ [(0, 31, 4294967295, some 61), (0, 32, 8589934591, some 62), (0, 33, 17179869183, some 63)] ?_
           repeat ((apply tag0; refine run_p (v := ?_) (a' := ?_) rfl rfl (any_of HT_.out (by kernel_rfl)) (fun _ _ _ h => h) (by rfl) ?_ ?_ ?_; rotate_left 2; (intro w'; go_simp; with_reducible rfl); (first | (simp only [Act.put, List.setIfInBounds_toArray, List.set_cons_zero, List.set_cons_succ, i64_w, i32_w]; rfl) | rfl)))
           refine run_nil ?_
           refine done_ (done_of HT_.out (by kernel_rfl)) ?_
           try go_wp2
           go_ret
           exact ⟨by first | rfl | (simp [errW_none, errW_some] <;> rfl) | (simp only [← hji18]; first | rfl | (simp [errW_none, errW_some] <;> rfl)) | (simp [*, errW_none, errW_some] <;> rfl), hB⟩
         ·rw [if_neg c17] at H
          have c17b0 : decide (0 < x25_2) = false := decide_eq_false c17
          clear c17
          have H' := Aside0.mk H
          clear H
          have p296 : 0 ≤ (x25_2 : Int) := of_decide_eq_true (by first | (with_reducible assumption) | assumption)
          have q296 : x25_2 < (l0_1.length : Int) := of_decide_eq_true (by first | (with_reducible assumption) | assumption)
          obtain ⟨ad296, e296, hx296_0, hx296_1⟩ := at_T43 HR0_1.out x25_2 p296 q296
          cases e296
          replace hx296_0 := (HB.out.cell (World.block_lt_of_cell? w _ hx296_0)).trans hx296_0
          replace hx296_1 := (HB.out.cell (World.block_lt_of_cell? w _ hx296_1)).trans hx296_1
          replace p296 := eq_true p296
          replace q296 := eq_true q296
          try go_wp2_with (first | ((with_reducible refine gate_dst (N := 4) rfl ?_); (try (refine gate_guard (by rfl) ?_; dsimp only)); refine box_event ?hg (N := 4) ?hd (cs := #[.int .i64 0, .int .i64 0]) (t := 43) ?hr ?_; (case hd => rfl); (case hg => rfl); (case hr => first | (go_simp; done) | (go_simp; rfl)); intro gb297 hg w35 hbox hb; have BK297 := Aside0.mk (hbox); have GW297 := gS HB hg; have GE297 := gS HB hg; have NB294_297 := nL BK294 hg; have NB297_294 := nG BK294 hg; replace BK294 := bS BK294 hb; replace HB := hS HB hb; clear hb hbox hg; have hnb36 := NB297_294.out; have hnc36 := NB294_297.out; obtain ⟨hcz37_0, hcz37_1, hfz37_0, hfz37_1⟩ := cf2 BK297))
          have n0_ : Aside0 (((w35.setCell ⟨gb297, 0, none⟩ (.int .i64 ((rd_T43 l0_1 x25_2).f0))).setCell ⟨gb297, 1, none⟩ (.int .i64 ((rd_T43 l0_1 x25_2).f1))).heap[gb294]? = some (.cells #[.int .i64 a0_0, .slice (some ad296) l0_1.length c0_1] 52 (0, 0))) := ⟨by (with_reducible repeat (first | refine blk_drewN ?_ _ | refine blk_drew ?_ | refine blk_alloc ?_ _)); refine blk_far ?_ NB294_297.out _; (with_reducible repeat (first | refine blk_drewN ?_ _ | refine blk_drew ?_ | refine blk_alloc ?_ _)); refine blk_far ?_ NB294_297.out _; (with_reducible repeat (first | refine blk_drewN ?_ _ | refine blk_drew ?_ | refine blk_alloc ?_ _)); exact BK294.out⟩
          have n1_ : Aside0 (((w35.setCell ⟨gb297, 0, none⟩ (.int .i64 ((rd_T43 l0_1 x25_2).f0))).setCell ⟨gb297, 1, none⟩ (.int .i64 ((rd_T43 l0_1 x25_2).f1))).heap[gb297]? = some (.cells #[.int .i64 ((rd_T43 l0_1 x25_2).f0), .int .i64 ((rd_T43 l0_1 x25_2).f1)] 43 (0, 0))) := ⟨by (with_reducible repeat (first | refine blk_drewN ?_ _ | refine blk_drew ?_ | refine blk_alloc ?_ _)); refine blk_put (cs := #[.int .i64 ((rd_T43 l0_1 x25_2).f0), .int .i64 0]) ?_ 1 _ rfl; (with_reducible repeat (first | refine blk_drewN ?_ _ | refine blk_drew ?_ | refine blk_alloc ?_ _)); refine blk_put (cs := #[.int .i64 0, .int .i64 0]) ?_ 0 _ rfl; (with_reducible repeat (first | refine blk_drewN ?_ _ | refine blk_drew ?_ | refine blk_alloc ?_ _)); exact BK297.out⟩
          have n2_ : Aside0 (Below w.heap.size w ((w35.setCell ⟨gb297, 0, none⟩ (.int .i64 ((rd_T43 l0_1 x25_2).f0))).setCell ⟨gb297, 1, none⟩ (.int .i64 ((rd_T43 l0_1 x25_2).f1)))) := ⟨hB⟩
          (try clear BK294)
          (try clear BK297)
          (try clear HB)
          generalize ((w35.setCell ⟨gb297, 0, none⟩ (.int .i64 ((rd_T43 l0_1 x25_2).f0))).setCell ⟨gb297, 1, none⟩ (.int .i64 ((rd_T43 l0_1 x25_2).f1))) = w38 at n0_ n1_ n2_ ⊢
          have BK294 := n0_
          have BK297 := n1_
          have HB := n2_
          clear n0_ n1_ n2_
          replace BK294 := Aside0.mk (blk_drew BK294.out)
          replace BK297 := Aside0.mk (blk_drew BK297.out)
          replace HB := Aside0.mk (below_drew1 HB.out)
          refine start_ (n := 34) (S := fun w' => w'.cell? ⟨gb297, 0, none⟩ = some (.int .i64 ((rd_T43 l0_1 x25_2).f0)) ∧ w'.cell? ⟨gb297, 1, none⟩ = some (.int .i64 ((rd_T43 l0_1 x25_2).f1)) ∧ w'.cell? ⟨gb294, 0, none⟩ = some (.int .i64 a0_0) ∧ w'.cell? ⟨gb294, 1, none⟩ = some (.slice (some ad296) l0_1.length c0_1)) (ds := []) (bz 34 0) (by kernel_rfl) rfl rfl ⟨(blk_cell BK297.out 0).trans rfl, (blk_cell BK297.out 1).trans rfl, (blk_cell BK294.out 0).trans rfl, (blk_cell BK294.out 1).trans rfl⟩ (fun hHeld => ?_); refine with_tabW spec_paGood.tab6 spec_paGood.bits6 (fun HT_ HW_ => ?_)
          generalize w38.drew = w39 at BK294 BK297 HB hHeld ⊢
          refine run_ [(0, 0, 1, some 30), (0, 2, 5, some 32), (1, 1, 7, some 31), (1, 3, 15, some 33), (0, 4, 31, some 34)] ?_
          repeat (first | (apply tag0; refine run_p (v := ?_) (a' := ?_) rfl rfl (any_of HT_.out (by kernel_rfl)) (fun _ _ _ h => h) (by rfl) ?_ ?_ ?_; rotate_left 2; (intro w'; go_simp; with_reducible rfl); (first | (simp only [Act.put, List.setIfInBounds_toArray, List.set_cons_zero, List.set_cons_succ, i64_w, i32_w]; rfl) | rfl)) | (apply tag1; refine run_t (v := ?_) (a' := ?_) rfl rfl (take_ofW HT_.out HW_.out (by kernel_rfl)) (fun _ _ _ h => h) (by rfl) ?_ hHeld ?_ ?_; rotate_left 2; (rintro w' ⟨s0, s1, s2, s3⟩; go_simp; with_reducible rfl); (first | (simp only [Act.put, List.setIfInBounds_toArray, List.set_cons_zero, List.set_cons_succ, i64_w, i32_w]; rfl) | rfl)))
          refine run_nil ?_
          refine one_ (i := 5) (N := some 35) (bz 34 63) rfl rfl (one_of HT_.out (by kernel_rfl)) (by decide) (fun K hK => ?_)
          refine goes_ Tryd.func87 (by kernel_rfl) rfl #[.int .i64 ((rd_T43 l0_1 x25_2).f0), .int .i64 0, .int .i64 (wrap64 (a0_0 - 1))] (by rfl) rfl rfl mapT ?_
          with_reducible refine (spec_l1In.calls ((rd_T43 l0_1 x25_2).f0) 0 (wrap64 (a0_0 - 1)) true _ A13.out).mono ?_
          rintro e w' ⟨rfl, ⟨nd, rfl⟩⟩
          refine ⟨_, rfl, ?_⟩
          refine hK.out _ _ ⟨(blk_cell BK297.out 0).trans rfl, (blk_cell BK297.out 1).trans rfl, (blk_cell BK294.out 0).trans rfl, (blk_cell BK294.out 1).trans rfl⟩ (fun hHeld => ?_)
          clear hK K
          refine norm_ (a' := ?_) ?_ ?_
          rotate_left
          ·show Act.put _ (some 35) _ = _
           simp only [Act.put, List.setIfInBounds_toArray, List.set_cons_zero, List.set_cons_succ, i64_w, i32_w]
           rfl
          refine run_ [(0, 6, 127, some 36), (0, 7, 255, some 37), (0, 8, 511, some 38), (0, 10, 1535, some 40), (0, 13, 9727, some 43), (1, 9, 10239, some 39), (1, 11, 12287, some 41), (0, 12, 16383, some 42), (1, 14, 32767, some 44), (0, 15, 65535, some 45)] ?_
          repeat (first | (apply tag0; refine run_p (v := ?_) (a' := ?_) rfl rfl (any_of HT_.out (by kernel_rfl)) (fun _ _ _ h => h) (by rfl) ?_ ?_ ?_; rotate_left 2; (intro w'; go_simp; with_reducible rfl); (first | (simp only [Act.put, List.setIfInBounds_toArray, List.set_cons_zero, List.set_cons_succ, i64_w, i32_w]; rfl) | rfl)) | (apply tag1; refine run_t (v := ?_) (a' := ?_) rfl rfl (take_ofW HT_.out HW_.out (by kernel_rfl)) (fun _ _ _ h => h) (by rfl) ?_ hHeld ?_ ?_; rotate_left 2; (rintro w' ⟨s0, s1, s2, s3⟩; go_simp; with_reducible rfl); (first | (simp only [Act.put, List.setIfInBounds_toArray, List.set_cons_zero, List.set_cons_succ, i64_w, i32_w]; rfl) | rfl)))
          refine run_nil ?_
          refine one_ (i := 16) (N := some 46) (bz 34 131071) rfl rfl (one_of HT_.out (by kernel_rfl)) (by decide) (fun K hK => ?_)
          refine goes_ Tryd.func87 (by kernel_rfl) rfl #[.int .i64 ((rd_T43 l0_1 x25_2).f1), .int .i64 (wrap64 (((rd_T43 l0_1 x25_2).f0) + 1)), .int .i64 (wrap64 (a0_0 - 1))] (by rfl) rfl rfl mapT ?_
          with_reducible refine (spec_l1In.calls ((rd_T43 l0_1 x25_2).f1) (wrap64 (((rd_T43 l0_1 x25_2).f0) + 1)) (wrap64 (a0_0 - 1)) true _ A15.out).mono ?_
          rintro e w' ⟨rfl, ⟨nd, rfl⟩⟩
          refine ⟨_, rfl, ?_⟩
          refine hK.out _ _ ⟨(blk_cell BK297.out 0).trans rfl, (blk_cell BK297.out 1).trans rfl, (blk_cell BK294.out 0).trans rfl, (blk_cell BK294.out 1).trans rfl⟩ (fun hHeld => ?_)
          clear hK K
          refine norm_ (a' := ?_) ?_ ?_
          rotate_left
          ·show Act.put _ (some 46) _ = _
           simp only [Act.put, List.setIfInBounds_toArray, List.set_cons_zero, List.set_cons_succ, i64_w, i32_w]
           rfl
          refine run_ [(0, 17, 262143, some 47), (0, 18, 524287, some 48), (0, 19, 1048575, some 49), (0, 20, 2097151, some 50), (0, 21, 4194303, some 51), (0, 22, 8388607, some 52), (2, 23, 16777215, some 53), (2, 24, 33554431, some 54), (2, 25, 67108863, some 55), (2, 26, 134217727, some 56), (2, 27, 268435455, some 57), (2, 28, 536870911, some 58), (2, 29, 1073741823, some 59), (2, 30, 2147483647, some 60), (2, 31, 4294967295, some 61), (0, 32, 8589934591, some 62), (0, 33, 17179869183, some 63)] ?_
          repeat (first | (apply tag0; refine run_p (v := ?_) (a' := ?_) rfl rfl (any_of HT_.out (by kernel_rfl)) (fun _ _ _ h => h) (by rfl) ?_ ?_ ?_; rotate_left 2; (intro w'; go_simp; with_reducible rfl); (first | (simp only [Act.put, List.setIfInBounds_toArray, List.set_cons_zero, List.set_cons_succ, i64_w, i32_w]; rfl) | rfl)) | (apply tag2; refine run_o (a' := ?_) rfl rfl (any_of HT_.out (by kernel_rfl)) (fun _ _ _ h => h) (by rfl) ?_ ?_; rotate_left; (first | (simp only [Act.put, List.setIfInBounds_toArray, List.set_cons_zero, List.set_cons_succ, i64_w, i32_w]; rfl) | rfl)))
          refine run_nil ?_
          refine done_ (done_of HT_.out (by kernel_rfl)) ?_
          try go_wp2
          go_roundg k2
          case measure => have := HJ1.out; have := HK2.out; omega
          case rel => exact ⟨(wrap64 (x25_2 + 1)), sR, H', ⟨by have := HJ1.out; have := HK2.out; omega⟩, ⟨bK⟩, ⟨hB⟩⟩
        ·replace c16 := Bool.eq_false_iff.mpr c16
         subst c16
         replace H : (some false) = some r := by rw [if_neg (show ¬ (false = true) by decide)] at H; exact H
         obtain rfl := Option.some.inj H
         have p296 : 0 ≤ (x25_2 : Int) := of_decide_eq_true (by first | (with_reducible assumption) | assumption)
         have q296 : x25_2 < (l0_1.length : Int) := of_decide_eq_true (by first | (with_reducible assumption) | assumption)
         obtain ⟨ad296, e296, hx296_0, hx296_1⟩ := at_T43 HR0_1.out x25_2 p296 q296
         cases e296
         replace hx296_0 := (HB.out.cell (World.block_lt_of_cell? w _ hx296_0)).trans hx296_0
         replace hx296_1 := (HB.out.cell (World.block_lt_of_cell? w _ hx296_1)).trans hx296_1
         replace p296 := eq_true p296
         replace q296 := eq_true q296
         try go_wp2_with (first | ((with_reducible refine gate_dst (N := 4) rfl ?_); (try (refine gate_guard (by rfl) ?_; dsimp only)); refine box_event ?hg (N := 4) ?hd (cs := #[.int .i64 0, .int .i64 0]) (t := 43) ?hr ?_; (case hd => rfl); (case hg => rfl); (case hr => first | (go_simp; done) | (go_simp; rfl)); intro gb297 hg w40 hbox hb; have BK297 := Aside0.mk (hbox); have GW297 := gS HB hg; have GE297 := gS HB hg; have NB294_297 := nL BK294 hg; have NB297_294 := nG BK294 hg; replace BK294 := bS BK294 hb; replace HB := hS HB hb; clear hb hbox hg; have hnb41 := NB297_294.out; have hnc41 := NB294_297.out; obtain ⟨hcz42_0, hcz42_1, hfz42_0, hfz42_1⟩ := cf2 BK297))
         have n0_ : Aside0 (((w40.setCell ⟨gb297, 0, none⟩ (.int .i64 ((rd_T43 l0_1 x25_2).f0))).setCell ⟨gb297, 1, none⟩ (.int .i64 ((rd_T43 l0_1 x25_2).f1))).heap[gb294]? = some (.cells #[.int .i64 a0_0, .slice (some ad296) l0_1.length c0_1] 52 (0, 0))) := ⟨by (with_reducible repeat (first | refine blk_drewN ?_ _ | refine blk_drew ?_ | refine blk_alloc ?_ _)); refine blk_far ?_ NB294_297.out _; (with_reducible repeat (first | refine blk_drewN ?_ _ | refine blk_drew ?_ | refine blk_alloc ?_ _)); refine blk_far ?_ NB294_297.out _; (with_reducible repeat (first | refine blk_drewN ?_ _ | refine blk_drew ?_ | refine blk_alloc ?_ _)); exact BK294.out⟩
         have n1_ : Aside0 (((w40.setCell ⟨gb297, 0, none⟩ (.int .i64 ((rd_T43 l0_1 x25_2).f0))).setCell ⟨gb297, 1, none⟩ (.int .i64 ((rd_T43 l0_1 x25_2).f1))).heap[gb297]? = some (.cells #[.int .i64 ((rd_T43 l0_1 x25_2).f0), .int .i64 ((rd_T43 l0_1 x25_2).f1)] 43 (0, 0))) := ⟨by (with_reducible repeat (first | refine blk_drewN ?_ _ | refine blk_drew ?_ | refine blk_alloc ?_ _)); refine blk_put (cs := #[.int .i64 ((rd_T43 l0_1 x25_2).f0), .int .i64 0]) ?_ 1 _ rfl; (with_reducible repeat (first | refine blk_drewN ?_ _ | refine blk_drew ?_ | refine blk_alloc ?_ _)); refine blk_put (cs := #[.int .i64 0, .int .i64 0]) ?_ 0 _ rfl; (with_reducible repeat (first | refine blk_drewN ?_ _ | refine blk_drew ?_ | refine blk_alloc ?_ _)); exact BK297.out⟩
         have n2_ : Aside0 (Below w.heap.size w ((w40.setCell ⟨gb297, 0, none⟩ (.int .i64 ((rd_T43 l0_1 x25_2).f0))).setCell ⟨gb297, 1, none⟩ (.int .i64 ((rd_T43 l0_1 x25_2).f1)))) := ⟨hB⟩
         (try clear BK294)
         (try clear BK297)
         (try clear HB)
         generalize ((w40.setCell ⟨gb297, 0, none⟩ (.int .i64 ((rd_T43 l0_1 x25_2).f0))).setCell ⟨gb297, 1, none⟩ (.int .i64 ((rd_T43 l0_1 x25_2).f1))) = w43 at n0_ n1_ n2_ ⊢
         have BK294 := n0_
         have BK297 := n1_
         have HB := n2_
         clear n0_ n1_ n2_
         replace BK294 := Aside0.mk (blk_drew BK294.out)
         replace BK297 := Aside0.mk (blk_drew BK297.out)
         replace HB := Aside0.mk (below_drew1 HB.out)
         refine start_ (n := 34) (S := fun w' => w'.cell? ⟨gb297, 0, none⟩ = some (.int .i64 ((rd_T43 l0_1 x25_2).f0)) ∧ w'.cell? ⟨gb297, 1, none⟩ = some (.int .i64 ((rd_T43 l0_1 x25_2).f1)) ∧ w'.cell? ⟨gb294, 0, none⟩ = some (.int .i64 a0_0) ∧ w'.cell? ⟨gb294, 1, none⟩ = some (.slice (some ad296) l0_1.length c0_1)) (ds := []) (bz 34 0) (by kernel_rfl) rfl rfl ⟨(blk_cell BK297.out 0).trans rfl, (blk_cell BK297.out 1).trans rfl, (blk_cell BK294.out 0).trans rfl, (blk_cell BK294.out 1).trans rfl⟩ (fun hHeld => ?_); refine with_tabW spec_paGood.tab6 spec_paGood.bits6 (fun HT_ HW_ => ?_)
         generalize w43.drew = w44 at BK294 BK297 HB hHeld ⊢
         refine run_ [(0, 0, 1, some 30), (0, 2, 5, some 32), (1, 1, 7, some 31), (1, 3, 15, some 33), (0, 4, 31, some 34)] ?_
         repeat (first | (apply tag0; refine run_p (v := ?_) (a' := ?_) rfl rfl (any_of HT_.out (by kernel_rfl)) (fun _ _ _ h => h) (by rfl) ?_ ?_ ?_; rotate_left 2; (intro w'; go_simp; with_reducible rfl); (first | (simp only [Act.put, List.setIfInBounds_toArray, List.set_cons_zero, List.set_cons_succ, i64_w, i32_w]; rfl) | rfl)) | (apply tag1; refine run_t (v := ?_) (a' := ?_) rfl rfl (take_ofW HT_.out HW_.out (by kernel_rfl)) (fun _ _ _ h => h) (by rfl) ?_ hHeld ?_ ?_; rotate_left 2; (rintro w' ⟨s0, s1, s2, s3⟩; go_simp; with_reducible rfl); (first | (simp only [Act.put, List.setIfInBounds_toArray, List.set_cons_zero, List.set_cons_succ, i64_w, i32_w]; rfl) | rfl)))
         refine run_nil ?_
         refine one_ (i := 5) (N := some 35) (bz 34 63) rfl rfl (one_of HT_.out (by kernel_rfl)) (by decide) (fun K hK => ?_)
         refine goes_ Tryd.func87 (by kernel_rfl) rfl #[.int .i64 ((rd_T43 l0_1 x25_2).f0), .int .i64 0, .int .i64 (wrap64 (a0_0 - 1))] (by rfl) rfl rfl mapT ?_
         with_reducible refine (spec_l1In.calls ((rd_T43 l0_1 x25_2).f0) 0 (wrap64 (a0_0 - 1)) true _ A13.out).mono ?_
         rintro e w' ⟨rfl, ⟨nd, rfl⟩⟩
         refine ⟨_, rfl, ?_⟩
         refine hK.out _ _ ⟨(blk_cell BK297.out 0).trans rfl, (blk_cell BK297.out 1).trans rfl, (blk_cell BK294.out 0).trans rfl, (blk_cell BK294.out 1).trans rfl⟩ (fun hHeld => ?_)
         clear hK K
         refine norm_ (a' := ?_) ?_ ?_
         rotate_left
         ·show Act.put _ (some 35) _ = _
          simp only [Act.put, List.setIfInBounds_toArray, List.set_cons_zero, List.set_cons_succ, i64_w, i32_w]
          rfl
         refine run_ [(0, 6, 127, some 36), (0, 7, 255, some 37), (0, 8, 511, some 38), (0, 10, 1535, some 40), (0, 13, 9727, some 43), (1, 9, 10239, some 39), (1, 11, 12287, some 41), (0, 12, 16383, some 42), (1, 14, 32767, some 44), (0, 15, 65535, some 45)] ?_
         repeat (first | (apply tag0; refine run_p (v := ?_) (a' := ?_) rfl rfl (any_of HT_.out (by kernel_rfl)) (fun _ _ _ h => h) (by rfl) ?_ ?_ ?_; rotate_left 2; (intro w'; go_simp; with_reducible rfl); (first | (simp only [Act.put, List.setIfInBounds_toArray, List.set_cons_zero, List.set_cons_succ, i64_w, i32_w]; rfl) | rfl)) | (apply tag1; refine run_t (v := ?_) (a' := ?_) rfl rfl (take_ofW HT_.out HW_.out (by kernel_rfl)) (fun _ _ _ h => h) (by rfl) ?_ hHeld ?_ ?_; rotate_left 2; (rintro w' ⟨s0, s1, s2, s3⟩; go_simp; with_reducible rfl); (first | (simp only [Act.put, List.setIfInBounds_toArray, List.set_cons_zero, List.set_cons_succ, i64_w, i32_w]; rfl) | rfl)))
         refine run_nil ?_
         refine one_ (i := 16) (N := some 46) (bz 34 131071) rfl rfl (one_of HT_.out (by kernel_rfl)) (by decide) (fun K hK => ?_)
         refine goes_ Tryd.func87 (by kernel_rfl) rfl #[.int .i64 ((rd_T43 l0_1 x25_2).f1), .int .i64 (wrap64 (((rd_T43 l0_1 x25_2).f0) + 1)), .int .i64 (wrap64 (a0_0 - 1))] (by rfl) rfl rfl mapT ?_
         with_reducible refine (spec_l1In.calls ((rd_T43 l0_1 x25_2).f1) (wrap64 (((rd_T43 l0_1 x25_2).f0) + 1)) (wrap64 (a0_0 - 1)) false _ A15.out).mono ?_
         rintro e w' ⟨rfl, ⟨nd, rfl⟩⟩
         refine ⟨_, rfl, ?_⟩
         refine hK.out _ _ ⟨(blk_cell BK297.out 0).trans rfl, (blk_cell BK297.out 1).trans rfl, (blk_cell BK294.out 0).trans rfl, (blk_cell BK294.out 1).trans rfl⟩ (fun hHeld => ?_)
         clear hK K
         refine norm_ (a' := ?_) ?_ ?_
         rotate_left
         ·show Act.put _ (some 46) _ = _
          simp only [Act.put, List.setIfInBounds_toArray, List.set_cons_zero, List.set_cons_succ, i64_w, i32_w]
          rfl
         refine run_ [(0, 17, 262143, some 47), (0, 18, 524287, some 48), (0, 19, 1048575, some 49), (2, 20, 2097151, some 50), (2, 21, 4194303, some 51), (2, 22, 8388607, some 52), (2, 23, 16777215, some 53), (2, 24, 33554431, some 54), (2, 25, 67108863, some 55), (2, 26, 134217727, some 56), (2, 27, 268435455, some 57), (2, 28, 536870911, some 58), (2, 29, 1073741823, some 59), (2, 30, 2147483647, some 60), (2, 31, 4294967295, some 61), (2, 32, 8589934591, some 62), (0, 33, 17179869183, some 63)] ?_
         repeat (first | (apply tag0; refine run_p (v := ?_) (a' := ?_) rfl rfl (any_of HT_.out (by kernel_rfl)) (fun _ _ _ h => h) (by rfl) ?_ ?_ ?_; rotate_left 2; (intro w'; go_simp; with_reducible rfl); (first | (simp only [Act.put, List.setIfInBounds_toArray, List.set_cons_zero, List.set_cons_succ, i64_w, i32_w]; rfl) | rfl)) | (apply tag2; refine run_o (a' := ?_) rfl rfl (any_of HT_.out (by kernel_rfl)) (fun _ _ _ h => h) (by rfl) ?_ ?_; rotate_left; (first | (simp only [Act.put, List.setIfInBounds_toArray, List.set_cons_zero, List.set_cons_succ, i64_w, i32_w]; rfl) | rfl)))
         refine run_nil ?_
         refine done_ (done_of HT_.out (by kernel_rfl)) ?_
         try go_wp2
         go_ret
         exact ⟨eW, hB⟩
       ·replace c14 := Bool.eq_false_iff.mpr c14
        subst c14
        replace H : (some false) = some r := by rw [if_neg (show ¬ (false = true) by decide)] at H; exact H
        obtain rfl := Option.some.inj H
        have p296 : 0 ≤ (x25_2 : Int) := of_decide_eq_true (by first | (with_reducible assumption) | assumption)
        have q296 : x25_2 < (l0_1.length : Int) := of_decide_eq_true (by first | (with_reducible assumption) | assumption)
        obtain ⟨ad296, e296, hx296_0, hx296_1⟩ := at_T43 HR0_1.out x25_2 p296 q296
        cases e296
        replace hx296_0 := (HB.out.cell (World.block_lt_of_cell? w _ hx296_0)).trans hx296_0
        replace hx296_1 := (HB.out.cell (World.block_lt_of_cell? w _ hx296_1)).trans hx296_1
        replace p296 := eq_true p296
        replace q296 := eq_true q296
        try go_wp2_with (first | ((with_reducible refine gate_dst (N := 4) rfl ?_); (try (refine gate_guard (by rfl) ?_; dsimp only)); refine box_event ?hg (N := 4) ?hd (cs := #[.int .i64 0, .int .i64 0]) (t := 43) ?hr ?_; (case hd => rfl); (case hg => rfl); (case hr => first | (go_simp; done) | (go_simp; rfl)); intro gb297 hg w45 hbox hb; have BK297 := Aside0.mk (hbox); have GW297 := gS HB hg; have GE297 := gS HB hg; have NB294_297 := nL BK294 hg; have NB297_294 := nG BK294 hg; replace BK294 := bS BK294 hb; replace HB := hS HB hb; clear hb hbox hg; have hnb46 := NB297_294.out; have hnc46 := NB294_297.out; obtain ⟨hcz47_0, hcz47_1, hfz47_0, hfz47_1⟩ := cf2 BK297))
        have n0_ : Aside0 (((w45.setCell ⟨gb297, 0, none⟩ (.int .i64 ((rd_T43 l0_1 x25_2).f0))).setCell ⟨gb297, 1, none⟩ (.int .i64 ((rd_T43 l0_1 x25_2).f1))).heap[gb294]? = some (.cells #[.int .i64 a0_0, .slice (some ad296) l0_1.length c0_1] 52 (0, 0))) := ⟨by (with_reducible repeat (first | refine blk_drewN ?_ _ | refine blk_drew ?_ | refine blk_alloc ?_ _)); refine blk_far ?_ NB294_297.out _; (with_reducible repeat (first | refine blk_drewN ?_ _ | refine blk_drew ?_ | refine blk_alloc ?_ _)); refine blk_far ?_ NB294_297.out _; (with_reducible repeat (first | refine blk_drewN ?_ _ | refine blk_drew ?_ | refine blk_alloc ?_ _)); exact BK294.out⟩
        have n1_ : Aside0 (((w45.setCell ⟨gb297, 0, none⟩ (.int .i64 ((rd_T43 l0_1 x25_2).f0))).setCell ⟨gb297, 1, none⟩ (.int .i64 ((rd_T43 l0_1 x25_2).f1))).heap[gb297]? = some (.cells #[.int .i64 ((rd_T43 l0_1 x25_2).f0), .int .i64 ((rd_T43 l0_1 x25_2).f1)] 43 (0, 0))) := ⟨by (with_reducible repeat (first | refine blk_drewN ?_ _ | refine blk_drew ?_ | refine blk_alloc ?_ _)); refine blk_put (cs := #[.int .i64 ((rd_T43 l0_1 x25_2).f0), .int .i64 0]) ?_ 1 _ rfl; (with_reducible repeat (first | refine blk_drewN ?_ _ | refine blk_drew ?_ | refine blk_alloc ?_ _)); refine blk_put (cs := #[.int .i64 0, .int .i64 0]) ?_ 0 _ rfl; (with_reducible repeat (first | refine blk_drewN ?_ _ | refine blk_drew ?_ | refine blk_alloc ?_ _)); exact BK297.out⟩
        have n2_ : Aside0 (Below w.heap.size w ((w45.setCell ⟨gb297, 0, none⟩ (.int .i64 ((rd_T43 l0_1 x25_2).f0))).setCell ⟨gb297, 1, none⟩ (.int .i64 ((rd_T43 l0_1 x25_2).f1)))) := ⟨hB⟩
        (try clear BK294)
        (try clear BK297)
        (try clear HB)
        generalize ((w45.setCell ⟨gb297, 0, none⟩ (.int .i64 ((rd_T43 l0_1 x25_2).f0))).setCell ⟨gb297, 1, none⟩ (.int .i64 ((rd_T43 l0_1 x25_2).f1))) = w48 at n0_ n1_ n2_ ⊢
        have BK294 := n0_
        have BK297 := n1_
        have HB := n2_
        clear n0_ n1_ n2_
        replace BK294 := Aside0.mk (blk_drew BK294.out)
        replace BK297 := Aside0.mk (blk_drew BK297.out)
        replace HB := Aside0.mk (below_drew1 HB.out)
        refine start_ (n := 34) (S := fun w' => w'.cell? ⟨gb297, 0, none⟩ = some (.int .i64 ((rd_T43 l0_1 x25_2).f0)) ∧ w'.cell? ⟨gb297, 1, none⟩ = some (.int .i64 ((rd_T43 l0_1 x25_2).f1)) ∧ w'.cell? ⟨gb294, 0, none⟩ = some (.int .i64 a0_0) ∧ w'.cell? ⟨gb294, 1, none⟩ = some (.slice (some ad296) l0_1.length c0_1)) (ds := []) (bz 34 0) (by kernel_rfl) rfl rfl ⟨(blk_cell BK297.out 0).trans rfl, (blk_cell BK297.out 1).trans rfl, (blk_cell BK294.out 0).trans rfl, (blk_cell BK294.out 1).trans rfl⟩ (fun hHeld => ?_); refine with_tabW spec_paGood.tab6 spec_paGood.bits6 (fun HT_ HW_ => ?_)
        generalize w48.drew = w49 at BK294 BK297 HB hHeld ⊢
        refine run_ [(0, 0, 1, some 30), (0, 2, 5, some 32), (1, 1, 7, some 31), (1, 3, 15, some 33), (0, 4, 31, some 34)] ?_
        repeat (first | (apply tag0; refine run_p (v := ?_) (a' := ?_) rfl rfl (any_of HT_.out (by kernel_rfl)) (fun _ _ _ h => h) (by rfl) ?_ ?_ ?_; rotate_left 2; (intro w'; go_simp; with_reducible rfl); (first | (simp only [Act.put, List.setIfInBounds_toArray, List.set_cons_zero, List.set_cons_succ, i64_w, i32_w]; rfl) | rfl)) | (apply tag1; refine run_t (v := ?_) (a' := ?_) rfl rfl (take_ofW HT_.out HW_.out (by kernel_rfl)) (fun _ _ _ h => h) (by rfl) ?_ hHeld ?_ ?_; rotate_left 2; (rintro w' ⟨s0, s1, s2, s3⟩; go_simp; with_reducible rfl); (first | (simp only [Act.put, List.setIfInBounds_toArray, List.set_cons_zero, List.set_cons_succ, i64_w, i32_w]; rfl) | rfl)))
        refine run_nil ?_
        refine one_ (i := 5) (N := some 35) (bz 34 63) rfl rfl (one_of HT_.out (by kernel_rfl)) (by decide) (fun K hK => ?_)
        refine goes_ Tryd.func87 (by kernel_rfl) rfl #[.int .i64 ((rd_T43 l0_1 x25_2).f0), .int .i64 0, .int .i64 (wrap64 (a0_0 - 1))] (by rfl) rfl rfl mapT ?_
        with_reducible refine (spec_l1In.calls ((rd_T43 l0_1 x25_2).f0) 0 (wrap64 (a0_0 - 1)) false _ A13.out).mono ?_
        rintro e w' ⟨rfl, ⟨nd, rfl⟩⟩
        refine ⟨_, rfl, ?_⟩
        refine hK.out _ _ ⟨(blk_cell BK297.out 0).trans rfl, (blk_cell BK297.out 1).trans rfl, (blk_cell BK294.out 0).trans rfl, (blk_cell BK294.out 1).trans rfl⟩ (fun hHeld => ?_)
        clear hK K
        refine norm_ (a' := ?_) ?_ ?_
        rotate_left
        ·show Act.put _ (some 35) _ = _
         simp only [Act.put, List.setIfInBounds_toArray, List.set_cons_zero, List.set_cons_succ, i64_w, i32_w]
         rfl
        refine run_ [(0, 6, 127, some 36), (0, 7, 255, some 37), (2, 8, 511, some 38), (2, 9, 1023, some 39), (2, 10, 2047, some 40), (2, 11, 4095, some 41), (2, 12, 8191, some 42), (2, 13, 16383, some 43), (2, 14, 32767, some 44), (2, 15, 65535, some 45), (2, 16, 131071, some 46), (2, 17, 262143, some 47), (0, 18, 524287, some 48), (0, 19, 1048575, some 49), (2, 20, 2097151, some 50), (2, 21, 4194303, some 51), (2, 22, 8388607, some 52), (2, 23, 16777215, some 53), (2, 24, 33554431, some 54), (2, 25, 67108863, some 55), (2, 26, 134217727, some 56), (2, 27, 268435455, some 57), (2, 28, 536870911, some 58), (2, 29, 1073741823, some 59), (2, 30, 2147483647, some 60), (2, 31, 4294967295, some 61), (2, 32, 8589934591, some 62), (0, 33, 17179869183, some 63)] ?_
        repeat (first | (apply tag0; refine run_p (v := ?_) (a' := ?_) rfl rfl (any_of HT_.out (by kernel_rfl)) (fun _ _ _ h => h) (by rfl) ?_ ?_ ?_; rotate_left 2; (intro w'; go_simp; with_reducible rfl); (first | (simp only [Act.put, List.setIfInBounds_toArray, List.set_cons_zero, List.set_cons_succ, i64_w, i32_w]; rfl) | rfl)) | (apply tag2; refine run_o (a' := ?_) rfl rfl (any_of HT_.out (by kernel_rfl)) (fun _ _ _ h => h) (by rfl) ?_ ?_; rotate_left; (first | (simp only [Act.put, List.setIfInBounds_toArray, List.set_cons_zero, List.set_cons_succ, i64_w, i32_w]; rfl) | rfl)))
        refine run_nil ?_
        refine done_ (done_of HT_.out (by kernel_rfl)) ?_
        try go_wp2
        go_ret
        exact ⟨eW, hB⟩
      ·rw [if_neg c10] at H
       have c10b0 := decide_eq_false c10
       clear c10
       obtain rfl := Option.some.inj H
       go_wp2
       go_ret
       exact ⟨eW, hB⟩

/-! ### spec_trThrees: function 103 -/
mutual
def spec_trThrees.l0 : Nat → List (List Bool) → List Int → Int → Int → Option (List Int)
 | 0, _, _, _, _ => none
 | k + 1, x3, x4, x15, x16 => if x16 < x15 then (spec_trThrees.l1 k x3 x4 x16 (wrap64 (x16 + 1)) x15 x16) else (some x4)
def spec_trThrees.l1 : Nat → List (List Bool) → List Int → Int → Int → Int → Int → Option (List Int)
 | 0, _, _, _, _, _, _ => none
 | k + 1, x3, x4, x5, x6, x15, x16 => if x6 < (x3.length : Int) then (spec_trThrees.l2 k x3 x4 x5 x6 (wrap64 (x6 + 1)) x15 x16) else (spec_trThrees.l0 k x3 x4 x15 (wrap64 (x16 + 1)))
def spec_trThrees.l2 : Nat → List (List Bool) → List Int → Int → Int → Int → Int → Int → Option (List Int)
 | 0, _, _, _, _, _, _, _ => none
 | k + 1, x3, x4, x5, x6, x7, x15, x16 => if x7 < (x3.length : Int) then (if 0 ≤ x5 then (if x5 < (x3.length : Int) then (if 0 ≤ x6 then (if x6 < ((rd_L5 x3 x5).length : Int) then (if 0 ≤ x7 then (if x7 < ((rd_L5 x3 x5).length : Int) then (if x6 < (x3.length : Int) then (if x7 < ((rd_L5 x3 x6).length : Int) then ((some (([rdOf false (rd_L5 x3 x5) x6, rdOf false (rd_L5 x3 x5) x7, rdOf false (rd_L5 x3 x6) x7] : List Bool) : List Bool)).bind fun y315 => (spec_trThrees.l3 k x3 x4 x5 x6 x7 0 x15 x16 y315 (y315.length : Int) 0)) else (none)) else (none)) else (none)) else (none)) else (none)) else (none)) else (none)) else (none)) else (spec_trThrees.l1 k x3 x4 x5 (wrap64 (x6 + 1)) x15 x16)
def spec_trThrees.l3 : Nat → List (List Bool) → List Int → Int → Int → Int → Int → Int → Int → List Bool → Int → Int → Option (List Int)
 | 0, _, _, _, _, _, _, _, _, _, _, _ => none
 | k + 1, x3, x4, x5, x6, x7, x8, x15, x16, x56, x57, x58 => if x58 < x57 then (if 0 ≤ x58 then (if x58 < (x56.length : Int) then (if rdOf false x56 x58 = true then (spec_trThrees.l3 k x3 x4 x5 x6 x7 (wrap64 (x8 + 1)) x15 x16 x56 x57 (wrap64 (x58 + 1))) else (spec_trThrees.l3 k x3 x4 x5 x6 x7 x8 x15 x16 x56 x57 (wrap64 (x58 + 1)))) else (none)) else (none)) else (if 0 ≤ x8 then (if x8 < (x4.length : Int) then (spec_trThrees.l2 k x3 (x4.set (x8 : Int).toNat (wrap64 ((rd x4 x8) + 1))) x5 x6 (wrap64 (x7 + 1)) x15 x16) else (none)) else (none))
end
def spec_trThrees.f (k : Nat) (a0_0 : Int) (l0_1 : List (S43)) : Option (List Int) := (spec_paTable.f k a0_0 l0_1).bind fun t303 => (if 4 ≤ 35184372088832 then (spec_trThrees.l0 k t303 (List.replicate 4 0) (t303.length : Int) 0) else (none))
theorem spec_trThrees.mono_l : ∀ k, (∀ y0 y1 y2 y3, LeO (spec_trThrees.l0 k y0 y1 y2 y3) (spec_trThrees.l0 (k + 1) y0 y1 y2 y3)) ∧ (∀ y0 y1 y2 y3 y4 y5, LeO (spec_trThrees.l1 k y0 y1 y2 y3 y4 y5) (spec_trThrees.l1 (k + 1) y0 y1 y2 y3 y4 y5)) ∧ (∀ y0 y1 y2 y3 y4 y5 y6, LeO (spec_trThrees.l2 k y0 y1 y2 y3 y4 y5 y6) (spec_trThrees.l2 (k + 1) y0 y1 y2 y3 y4 y5 y6)) ∧ (∀ y0 y1 y2 y3 y4 y5 y6 y7 y8 y9 y10, LeO (spec_trThrees.l3 k y0 y1 y2 y3 y4 y5 y6 y7 y8 y9 y10) (spec_trThrees.l3 (k + 1) y0 y1 y2 y3 y4 y5 y6 y7 y8 y9 y10))
 | 0 => ⟨fun _ _ _ _ r h => by simp [spec_trThrees.l0] at h, fun _ _ _ _ _ _ r h => by simp [spec_trThrees.l1] at h, fun _ _ _ _ _ _ _ r h => by simp [spec_trThrees.l2] at h, fun _ _ _ _ _ _ _ _ _ _ _ r h => by simp [spec_trThrees.l3] at h⟩
 | k + 1 => by
  obtain ⟨ih0, ih1, ih2, ih3⟩ := spec_trThrees.mono_l k
  refine ⟨?_, ?_, ?_, ?_⟩ <;> intros <;> (first | unfold spec_trThrees.l0 | unfold spec_trThrees.l1 | unfold spec_trThrees.l2 | unfold spec_trThrees.l3)
  all_goals (repeat' first | (with_reducible first | exact ih0 .. | exact ih1 .. | exact ih2 .. | exact ih3 .. | exact spec_paTable.mono .. | exact LeO.refl _ | exact LeO.none _ | refine LeO.ite ?_ ?_ | refine LeO.bind ?_ (fun _ => ?_)) | exact ih0 .. | exact ih1 .. | exact ih2 .. | exact ih3 .. | exact spec_paTable.mono .. | exact LeO.none _ | refine LeO.ite ?_ ?_ | refine LeO.bind ?_ (fun _ => ?_))
theorem spec_trThrees.mono : ∀ a0 a1 k, LeO (spec_trThrees.f k a0 a1) (spec_trThrees.f (k + 1) a0 a1) := by
 intro a0 a1 k
 obtain ⟨ih0, ih1, ih2, ih3⟩ := spec_trThrees.mono_l k
 unfold spec_trThrees.f
 repeat' first | (with_reducible first | exact ih0 .. | exact ih1 .. | exact ih2 .. | exact ih3 .. | exact spec_paTable.mono .. | exact LeO.refl _ | exact LeO.none _ | refine LeO.ite ?_ ?_ | refine LeO.bind ?_ (fun _ => ?_)) | exact ih0 .. | exact ih1 .. | exact ih2 .. | exact ih3 .. | exact spec_paTable.mono .. | exact LeO.none _ | refine LeO.ite ?_ ?_ | refine LeO.bind ?_ (fun _ => ?_)
def spec_trThrees.T13 : Bool × List (List Nat × List Nat) := (true, [([], []), ([], []), ([0, 1], [0, 1]), ([2], [2]), ([], []), ([3, 4], [3, 4]), ([5], [5]), ([], []), ([], []), ([7, 8], [7, 8]), ([9], [9]), ([], []), ([10, 11], [10, 11]), ([12], [12]), ([], []), ([], []), ([14, 15], [14, 15]), ([16], [16]), ([], []), ([17, 18], [17, 18]), ([19], [19]), ([6, 13, 20], [6, 13, 20]), ([21], [21]), ([], [])])
def spec_trThrees.B13 : List Nat := [0, 0, 3, 7, 0, 31, 63, 0, 0, 384, 896, 0, 3968, 8064, 0, 0, 49152, 114688, 0, 507904, 1032192, 2097151, 4194303, 0]
theorem spec_trThrees.tab13 : rtab .any (opsOf Tryd.f103 13) = spec_trThrees.T13 := by kernel_rfl
theorem spec_trThrees.bits13 : waitsOk spec_trThrees.T13.2 spec_trThrees.B13 = true := by kernel_rfl
theorem spec_trThrees.calls (k : Nat) (a0_0 : Int) (A0_1 : Option Addr) (c0_1 : Nat) (l0_1 : List (S43)) (r : List Int) (w : World) (hr0_1 : Kd.C k43 w A0_1 l0_1.length l0_1) (hc0_1 : l0_1.length ≤ c0_1) (h : spec_trThrees.f k a0_0 l0_1 = some r) :
  Calls Tryd.prog 103 #[.agg #[.int .i64 a0_0, .slice A0_1 l0_1.length c0_1]] w fun e w' => ∃ v0_ : Value, e = .returned (v0_) ∧ Kd.R (Kd.int .i64) 3 w' w.heap.size (fun _ => True) v0_ r ∧ Below w.heap.size w w' := by
 have hu52 := Tryd.underlying52
 have HR0_1 := Aside0.mk hr0_1
 have HC0_1 := Aside0.mk hc0_1
 clear hr0_1 hc0_1
 have HB := Aside0.mk (Below.refl w.heap.size w)
 have H : ((spec_paTable.f k a0_0 l0_1).bind fun t303 => (if 4 ≤ 35184372088832 then (spec_trThrees.l0 k t303 (List.replicate 4 0) (t303.length : Int) 0) else (none))) = some r := h
 clear h
 replace H := oB H; obtain ⟨t303, A2, H⟩ := H
 by_cases c3 : 4 ≤ 35184372088832
 ·rw [if_pos c3] at H
  have c3b0 := eq_true c3
  have c3b1 : decide (4 ≤ 35184372088832) = true := decide_eq_true c3
  clear c3
  obtain ⟨y306, hy306⟩ : ∃ y_ : List Int, y_ = (List.replicate 4 0) := ⟨_, rfl⟩
  replace H : (spec_trThrees.l0 k t303 y306 (t303.length : Int) 0) = some r := by first | (rw [hy306]; with_reducible exact H) | (have H2_ := (Option.bind_some _ _).symm.trans H; rw [hy306]; with_reducible exact H2_) | (have H2_ := (Option.bind_some _ _).symm.trans H; with_reducible exact H2_) | with_reducible exact H | (rw [hy306]; exact H) | exact H
  have Ny306 := Aside0.mk hy306
  clear hy306
  have H' := Aside0.mk H
  clear H
  go_enter Tryd.func103, Tryd.ntmps103
  go_wp2_with (first | ((with_reducible refine gate_dst (N := 1) rfl ?_); refine bxE 1 #[.int .i64 a0_0, .slice A0_1 l0_1.length c0_1] 52 rfl ?_; intro gb302 hg w4 hbox hb; have BK302 := Aside0.mk (hbox); have GW302 := gS HB hg; have GE302 := gS HB hg; replace HB := hS HB hb; clear hb hbox hg; obtain ⟨hcz5_0, hcz5_1, hfz5_0, hfz5_1⟩ := cf2 BK302) | ((with_reducible refine gate_callee (f := 105) rfl ?_); refine goC (N := some 12) Tryd.func105 #[.agg #[.int .i64 a0_0, .slice A0_1 l0_1.length c0_1]] rfl ?_; (with_reducible refine (spec_paTable.calls k a0_0 _ _ l0_1 t303 _ ?side1 ?side2 A2.out).mono ?_); (case side1 => exact cS (Kd.C_below HR0_1.out HB.out)); (case side2 => exact HC0_1.out); rintro e w6 ⟨v304, rfl, ho0, hb⟩; refine ⟨_, rfl, ?_⟩; have HO305 := Aside0.mk (Kd.S_lower ho0 (below_size hB)); replace BK302 := bS BK302 hb; replace HB := hS HB hb; (try clear hb ho0)) | ((with_reducible refine gate_dst (N := 13) rfl ?_); refine Kd.R_make (Kd.int .i64) _ 3 rfl (N := 13) rfl 32 _ _ rfl 4 rfl rfl Tryd.underlying32 (.int .i64 0) 8 info3 rfl (by decide) (by omega) 0 (ok := fun _ => True) (okp := fun _ => True) rfl (fun _ hk => hk) trivial (by omega) (by omega) (Below.refl _ _) (Nat.le_refl _) ?_; intro v307 w7 ho8 hb hg_ hnew_; clear hg_ hnew_; (first | rw [← Ny306.out] at ho8 | (simp only [Int.reduceToNat] at ho8; rw [← Ny306.out] at ho8)); have HO308 := Aside0.mk (Kd.R_lower ho8 (below_size hB)); replace HO305 := Aside0.mk (Kd.S_below (sU HO305) hb); replace BK302 := bS BK302 hb; replace HB := hS HB hb; clear hb ho8; obtain ⟨Ao9, co9, eo9⟩ := Kd.S_slice HO305.out; subst eo9))
  go_loopg [16] k (fun kq v16 w' => ∃ (x4_1 : List Int) (x16_1 : Int), v16 = .int .i64 x16_1 ∧ Aside0 (spec_trThrees.l0 kq t303 x4_1 (t303.length : Int) x16_1 = some r) ∧ Aside0 (kq ≤ k) ∧ Aside0 (Kd.S (Kd.slice 4 Kd.bool) 66 w' w.heap.size (fun _ => True) (.slice Ao9 t303.length co9) t303) ∧ Aside0 (Kd.R (Kd.int .i64) 3 w' w.heap.size (fun _ => True) v307 x4_1) ∧ Aside0 (w'.heap[gb302]? = some (.cells #[.int .i64 a0_0, (.slice A0_1 l0_1.length c0_1)] 52 (0, 0))) ∧ Aside0 (Below w.heap.size w w'))
  case atStart => exact ⟨(y306), (0), sR, H', ⟨Nat.le_refl _⟩, ⟨sU HO305⟩, ⟨rU HO308⟩, ⟨bK⟩, ⟨hB⟩⟩
  case round =>
   clear H'
   (try clear c3); (try clear c3b0); (try clear c3b1); (try clear hcz5_0 hcz5_1 hfz5_0 hfz5_1)
   obtain ⟨x4_1, x16_1, rfl, HA, HK1, HO_3, HO_4, BK302, HB⟩ := hrel
   cases gk with
   | zero => exact absurd HA.out (by simp [spec_trThrees.l0])
   | succ k1 =>
    have H := HA.out
    clear HA
    simp only [spec_trThrees.l0] at H
    by_cases c10 : x16_1 < (t303.length : Int)
    ·rw [if_pos c10] at H
     have c10b0 := decide_eq_true c10
     clear c10
     have H' := Aside0.mk H
     clear H
     go_wp2
     go_loopg [6] k1 (fun kq v6 w' => ∃ (x4_2 : List Int) (x6_2 : Int), v6 = .int .i64 x6_2 ∧ Aside0 (spec_trThrees.l1 kq t303 x4_2 x16_1 x6_2 (t303.length : Int) x16_1 = some r) ∧ Aside0 (kq ≤ k1) ∧ Aside0 (Kd.S (Kd.slice 4 Kd.bool) 66 w' w.heap.size (fun _ => True) (.slice Ao9 t303.length co9) t303) ∧ Aside0 (Kd.R (Kd.int .i64) 3 w' w.heap.size (fun _ => True) v307 x4_2) ∧ Aside0 (w'.heap[gb302]? = some (.cells #[.int .i64 a0_0, (.slice A0_1 l0_1.length c0_1)] 52 (0, 0))) ∧ Aside0 (Below w.heap.size w w'))
     case atStart => exact ⟨(x4_1), (wrap64 (x16_1 + 1)), sR, H', ⟨Nat.le_refl _⟩, ⟨sU HO_3⟩, ⟨rU HO_4⟩, ⟨bK⟩, ⟨hB⟩⟩
     case round =>
      clear H'
      (try clear c3); (try clear c3b0); (try clear c3b1); (try clear c10); (try clear c10b0); (try clear hcz5_0 hcz5_1 hfz5_0 hfz5_1)
      obtain ⟨x4_2, x6_2, rfl, HA, HK2, HO_3, HO_4, BK302, HB⟩ := hrel
      cases gk with
      | zero => exact absurd HA.out (by simp [spec_trThrees.l1])
      | succ k2 =>
       have H := HA.out
       clear HA
       simp only [spec_trThrees.l1] at H
       by_cases c11 : x6_2 < (t303.length : Int)
       ·rw [if_pos c11] at H
        have c11b0 := decide_eq_true c11
        clear c11
        have H' := Aside0.mk H
        clear H
        go_wp2
        go_loopg [7] k2 (fun kq v7 w' => ∃ (x4_3 : List Int) (x7_3 : Int), v7 = .int .i64 x7_3 ∧ Aside0 (spec_trThrees.l2 kq t303 x4_3 x16_1 x6_2 x7_3 (t303.length : Int) x16_1 = some r) ∧ Aside0 (kq ≤ k2) ∧ Aside0 (Kd.S (Kd.slice 4 Kd.bool) 66 w' w.heap.size (fun _ => True) (.slice Ao9 t303.length co9) t303) ∧ Aside0 (Kd.R (Kd.int .i64) 3 w' w.heap.size (fun _ => True) v307 x4_3) ∧ Aside0 (w'.heap[gb302]? = some (.cells #[.int .i64 a0_0, (.slice A0_1 l0_1.length c0_1)] 52 (0, 0))) ∧ Aside0 (Below w.heap.size w w'))
        case atStart => exact ⟨(x4_2), (wrap64 (x6_2 + 1)), sR, H', ⟨Nat.le_refl _⟩, ⟨sU HO_3⟩, ⟨rU HO_4⟩, ⟨bK⟩, ⟨hB⟩⟩
        case round =>
         clear H'
         (try clear c3); (try clear c3b0); (try clear c3b1); (try clear c10); (try clear c10b0); (try clear c11); (try clear c11b0); (try clear hcz5_0 hcz5_1 hfz5_0 hfz5_1)
         obtain ⟨x4_3, x7_3, rfl, HA, HK3, HO_3, HO_4, BK302, HB⟩ := hrel
         cases gk with
         | zero => exact absurd HA.out (by simp [spec_trThrees.l2])
         | succ k3 =>
          have H := HA.out
          clear HA
          simp only [spec_trThrees.l2] at H
          by_cases c12 : x7_3 < (t303.length : Int)
          ·rw [if_pos c12] at H
           have c12b0 := decide_eq_true c12
           clear c12
           replace H := ifD H; obtain ⟨c13b0, H⟩ := H
           replace H := ifD H; obtain ⟨c14b0, H⟩ := H
           replace H := ifD H; obtain ⟨c15b0, H⟩ := H
           replace H := ifD H; obtain ⟨c16b0, H⟩ := H
           replace H := ifD H; obtain ⟨c17b0, H⟩ := H
           replace H := ifD H; obtain ⟨c18b0, H⟩ := H
           replace H := ifD H; obtain ⟨c19b0, H⟩ := H
           replace H := ifD H; obtain ⟨c20b0, H⟩ := H
           obtain ⟨y315, hy315⟩ : ∃ y_ : List Bool, y_ = (([rdOf false (rd_L5 t303 x16_1) x6_2, rdOf false (rd_L5 t303 x16_1) x7_3, rdOf false (rd_L5 t303 x6_2) x7_3] : List Bool)) := ⟨_, rfl⟩
           replace H : (spec_trThrees.l3 k3 t303 x4_3 x16_1 x6_2 x7_3 0 (t303.length : Int) x16_1 y315 (y315.length : Int) 0) = some r := by first | (rw [hy315]; with_reducible exact H) | (have H2_ := (Option.bind_some _ _).symm.trans H; rw [hy315]; with_reducible exact H2_) | (have H2_ := (Option.bind_some _ _).symm.trans H; with_reducible exact H2_) | with_reducible exact H | (rw [hy315]; exact H) | exact H
           have Ny315 := Aside0.mk hy315
           clear hy315
           have H' := Aside0.mk H
           clear H
           try go_wp2
           replace HO_3 := Aside0.mk (Kd.S_drew HO_3.out)
           replace HO_4 := Aside0.mk (Kd.R_drew HO_4.out)
           replace BK302 := Aside0.mk (blk_drew BK302.out)
           replace HB := Aside0.mk (below_drew1 HB.out)
           have p309 : 0 ≤ (x16_1 : Int) := of_decide_eq_true (by first | (with_reducible assumption) | assumption)
           have q309 : x16_1 < (t303.length : Int) := of_decide_eq_true (by first | (with_reducible assumption) | assumption)
           obtain ⟨ad309, A309_0, c309_0, e309, hx309_0, hl309_0, hi309_0⟩ := at_L5 (Kd.S_reads' HO_3.out).2.2 x16_1 p309 q309
           cases e309
           obtain ⟨ce309, hce309, hMe309, hcc309⟩ := Kd.S_get HO_3.out [] x16_1 p309 (by first | exact q309 | exact of_decide_eq_true (by first | (with_reducible assumption) | assumption) | (have e_ := (Kd.S_reads' HO_3.out).1; omega))
           obtain ⟨ve309_0, rfl, ge309_0⟩ := hMe309
           have hv309_0 := hcc309 0 _ rfl
           rw [Nat.add_zero, show ((Kd.slice 4 Kd.bool)).sz = 1 from rfl, Nat.mul_one] at hv309_0
           replace hv309_0 := Option.some.inj (hv309_0.symm.trans hx309_0)
           rw [hv309_0] at ge309_0
           have HL309_0 := Aside0.mk (show Kd.R Kd.bool 4 _ _ _ _ (rd_L5 t303 x16_1) from ge309_0)
           clear hv309_0 ge309_0
           clear hcc309 hce309
           have HR309_0 := Aside0.mk hi309_0
           have HC309_0 := Aside0.mk hl309_0
           clear hi309_0 hl309_0
           replace p309 := eq_true p309
           replace q309 := eq_true q309
           have p310 : 0 ≤ (x6_2 : Int) := of_decide_eq_true (by first | (with_reducible assumption) | assumption)
           have q310 : x6_2 < ((rd_L5 t303 x16_1).length : Int) := of_decide_eq_true (by first | (with_reducible assumption) | assumption)
           obtain ⟨ad310, e310, hx310_0⟩ := Kd.at_bool (by repeat (first | (with_reducible exact HR309_0.out) | (with_reducible refine Kd.C_alloc ?_ _) | (with_reducible refine Kd.C_drewN ?_ _) | (with_reducible refine Kd.C_drew ?_) | exact HR309_0.out)) x6_2 p310 q310
           cases e310
           replace p310 := eq_true p310
           replace q310 := eq_true q310
           have p311 : 0 ≤ (x16_1 : Int) := of_decide_eq_true (by first | (with_reducible assumption) | assumption)
           have q311 : x16_1 < (t303.length : Int) := of_decide_eq_true (by first | (with_reducible assumption) | assumption)
           obtain ⟨ad311, A311_0, c311_0, e311, hx311_0, hl311_0, hi311_0⟩ := at_L5 (Kd.S_reads' HO_3.out).2.2 x16_1 p311 q311
           obtain rfl : ad309 = ad311 := (by injection e311)
           obtain ⟨ce311, hce311, hMe311, hcc311⟩ := Kd.S_get HO_3.out [] x16_1 p311 (by first | exact q311 | exact of_decide_eq_true (by first | (with_reducible assumption) | assumption) | (have e_ := (Kd.S_reads' HO_3.out).1; omega))
           obtain ⟨ve311_0, rfl, ge311_0⟩ := hMe311
           have hv311_0 := hcc311 0 _ rfl
           rw [Nat.add_zero, show ((Kd.slice 4 Kd.bool)).sz = 1 from rfl, Nat.mul_one] at hv311_0
           replace hv311_0 := Option.some.inj (hv311_0.symm.trans hx311_0)
           rw [hv311_0] at ge311_0
           have HL311_0 := Aside0.mk (show Kd.R Kd.bool 4 _ _ _ _ (rd_L5 t303 x16_1) from ge311_0)
           clear hv311_0 ge311_0
           clear hcc311 hce311
           have HR311_0 := Aside0.mk hi311_0
           have HC311_0 := Aside0.mk hl311_0
           clear hi311_0 hl311_0
           replace p311 := eq_true p311
           replace q311 := eq_true q311
           have ea_ := Option.some.inj (hx309_0.symm.trans hx311_0)
           injection ea_ with ea_ en_ ec_
           subst ea_
           subst ec_
           clear en_
           have p312 : 0 ≤ (x7_3 : Int) := of_decide_eq_true (by first | (with_reducible assumption) | assumption)
           have q312 : x7_3 < ((rd_L5 t303 x16_1).length : Int) := of_decide_eq_true (by first | (with_reducible assumption) | assumption)
           obtain ⟨ad312, e312, hx312_0⟩ := Kd.at_bool (by repeat (first | (with_reducible exact HR311_0.out) | (with_reducible refine Kd.C_alloc ?_ _) | (with_reducible refine Kd.C_drewN ?_ _) | (with_reducible refine Kd.C_drew ?_) | exact HR311_0.out)) x7_3 p312 q312
           cases e312
           replace p312 := eq_true p312
           replace q312 := eq_true q312
           have p313 : 0 ≤ (x6_2 : Int) := of_decide_eq_true (by first | (with_reducible assumption) | assumption)
           have q313 : x6_2 < (t303.length : Int) := of_decide_eq_true (by first | (with_reducible assumption) | assumption)
           obtain ⟨ad313, A313_0, c313_0, e313, hx313_0, hl313_0, hi313_0⟩ := at_L5 (Kd.S_reads' HO_3.out).2.2 x6_2 p313 q313
           obtain rfl : ad309 = ad313 := (by injection e313)
           obtain ⟨ce313, hce313, hMe313, hcc313⟩ := Kd.S_get HO_3.out [] x6_2 p313 (by first | exact q313 | exact of_decide_eq_true (by first | (with_reducible assumption) | assumption) | (have e_ := (Kd.S_reads' HO_3.out).1; omega))
           obtain ⟨ve313_0, rfl, ge313_0⟩ := hMe313
           have hv313_0 := hcc313 0 _ rfl
           rw [Nat.add_zero, show ((Kd.slice 4 Kd.bool)).sz = 1 from rfl, Nat.mul_one] at hv313_0
           replace hv313_0 := Option.some.inj (hv313_0.symm.trans hx313_0)
           rw [hv313_0] at ge313_0
           have HL313_0 := Aside0.mk (show Kd.R Kd.bool 4 _ _ _ _ (rd_L5 t303 x6_2) from ge313_0)
           clear hv313_0 ge313_0
           clear hcc313 hce313
           have HR313_0 := Aside0.mk hi313_0
           have HC313_0 := Aside0.mk hl313_0
           clear hi313_0 hl313_0
           replace p313 := eq_true p313
           replace q313 := eq_true q313
           have p314 : 0 ≤ (x7_3 : Int) := of_decide_eq_true (by first | (with_reducible assumption) | assumption)
           have q314 : x7_3 < ((rd_L5 t303 x6_2).length : Int) := of_decide_eq_true (by first | (with_reducible assumption) | assumption)
           obtain ⟨ad314, e314, hx314_0⟩ := Kd.at_bool (by repeat (first | (with_reducible exact HR313_0.out) | (with_reducible refine Kd.C_alloc ?_ _) | (with_reducible refine Kd.C_drewN ?_ _) | (with_reducible refine Kd.C_drew ?_) | exact HR313_0.out)) x7_3 p314 q314
           cases e314
           replace p314 := eq_true p314
           replace q314 := eq_true q314
           refine start_ (n := 24) (S := fun w' => w'.cell? (ad309.add (x16_1).toNat) = some (.slice (some ad310) (rd_L5 t303 x16_1).length c309_0) ∧ w'.cell? (ad310.add (x6_2).toNat) = some (.bool (rdOf false (rd_L5 t303 x16_1) x6_2)) ∧ w'.cell? (ad309.add (x16_1).toNat) = some (.slice (some ad310) (rd_L5 t303 x16_1).length c309_0) ∧ w'.cell? (ad310.add (x7_3).toNat) = some (.bool (rdOf false (rd_L5 t303 x16_1) x7_3)) ∧ w'.cell? (ad309.add (x6_2).toNat) = some (.slice (some ad314) (rd_L5 t303 x6_2).length c313_0) ∧ w'.cell? (ad314.add (x7_3).toNat) = some (.bool (rdOf false (rd_L5 t303 x6_2) x7_3))) (ds := []) (bz 24 0) (by kernel_rfl) rfl rfl ⟨hx309_0, hx310_0, hx311_0, hx312_0, hx313_0, hx314_0⟩ (fun hHeld => ?_); refine with_tabW spec_trThrees.tab13 spec_trThrees.bits13 (fun HT_ HW_ => ?_)
           generalize wr.drew = w21 at HO_3 HO_4 BK302 HB HL309_0 HL311_0 HL313_0 HR309_0 HR311_0 HR313_0 hx309_0 hx310_0 hx311_0 hx312_0 hx313_0 hx314_0 hHeld ⊢
           refine run_ [(0, 0, 1, some 35), (0, 1, 3, some 36), (0, 2, 7, some 37), (0, 4, 23, some 39), (0, 7, 151, some 42), (0, 8, 407, some 43), (0, 9, 919, some 44), (0, 11, 2967, some 46), (0, 14, 19351, some 49), (0, 15, 52119, some 50), (0, 16, 117655, some 51), (0, 18, 379799, some 53), (0, 23, 8768407, some 58), (1, 3, 8768415, some 38), (0, 5, 8768447, some 40), (1, 6, 8768511, some 41), (1, 10, 8769535, some 45), (0, 12, 8773631, some 47), (1, 13, 8781823, some 48), (1, 17, 8912895, some 52), (0, 19, 9437183, some 54), (1, 20, 10485759, some 55)] ?_
           repeat (first | (apply tag0; refine run_p (v := ?_) (a' := ?_) rfl rfl (any_of HT_.out (by kernel_rfl)) (fun _ _ _ h => h) (by rfl) ?_ ?_ ?_; rotate_left 2; (intro w'; go_simp; with_reducible rfl); (first | (simp only [Act.put, List.setIfInBounds_toArray, List.set_cons_zero, List.set_cons_succ, i64_w, i32_w]; rfl) | rfl)) | (apply tag1; refine run_t (v := ?_) (a' := ?_) rfl rfl (take_ofW HT_.out HW_.out (by kernel_rfl)) (fun _ _ _ h => h) (by rfl) ?_ hHeld ?_ ?_; rotate_left 2; (rintro w' ⟨s0, s1, s2, s3, s4, s5⟩; go_simp; with_reducible rfl); (first | (simp only [Act.put, List.setIfInBounds_toArray, List.set_cons_zero, List.set_cons_succ, i64_w, i32_w]; rfl) | rfl)))
           refine run_nil ?_
           refine one_ (i := 21) (N := some 56) (bz 24 12582911) rfl rfl (one_of HT_.out (by kernel_rfl)) (by decide) (fun K hK => ?_)
           refine Kd.R_lit_step Kd.bool _ 4 ?hg (N := 56) ?hd (xs := ([rdOf false (rd_L5 t303 x16_1) x6_2, rdOf false (rd_L5 t303 x16_1) x7_3, rdOf false (rd_L5 t303 x6_2) x7_3] : List Bool)) (inner := [.bool (rdOf false (rd_L5 t303 x16_1) x6_2), .bool (rdOf false (rd_L5 t303 x16_1) x7_3), .bool (rdOf false (rd_L5 t303 x6_2) x7_3)]) (ok := fun _ => True) (okp := fun _ => True) ?hr ?hp (fun _ hk => hk) trivial (Below.refl _ _) (Nat.le_refl _) (by simp) ?_; (case hd => rfl); (case hg => rfl); (case hr => first | (go_simp; done) | (go_simp; rfl)); (case hp => exact (Reps.one (show Kd.M Kd.bool _ _ _ (rdOf false (rd_L5 t303 x16_1) x6_2) [.bool (rdOf false (rd_L5 t303 x16_1) x6_2)] from rfl) (Reps.one (show Kd.M Kd.bool _ _ _ (rdOf false (rd_L5 t303 x16_1) x7_3) [.bool (rdOf false (rd_L5 t303 x16_1) x7_3)] from rfl) (Reps.one (show Kd.M Kd.bool _ _ _ (rdOf false (rd_L5 t303 x6_2) x7_3) [.bool (rdOf false (rd_L5 t303 x6_2) x7_3)] from rfl) (Reps.none _ _)))))
           intro v316 w22 ho23 hb hg_ hnew_
           have HS0_ := (hb.cell (World.block_lt_of_cell? _ _ (hHeld.1))).trans (hHeld.1)
           have HS1_ := (hb.cell (World.block_lt_of_cell? _ _ (hHeld.2.1))).trans (hHeld.2.1)
           have HS2_ := (hb.cell (World.block_lt_of_cell? _ _ (hHeld.2.2.1))).trans (hHeld.2.2.1)
           have HS3_ := (hb.cell (World.block_lt_of_cell? _ _ (hHeld.2.2.2.1))).trans (hHeld.2.2.2.1)
           have HS4_ := (hb.cell (World.block_lt_of_cell? _ _ (hHeld.2.2.2.2.1))).trans (hHeld.2.2.2.2.1)
           have HS5_ := (hb.cell (World.block_lt_of_cell? _ _ (hHeld.2.2.2.2.2))).trans (hHeld.2.2.2.2.2)
           clear hg_ hnew_
           (first | rw [← Ny315.out] at ho23 | (simp only [Int.reduceToNat] at ho23; rw [← Ny315.out] at ho23))
           have HO317 := Aside0.mk (Kd.R_lower (Kd.R_new' (Kd.R_new' (Kd.R_new' ho23 (Kd.R_lt (by (with_reducible repeat (first | apply Kd.R_alloc | apply Kd.R_drewN | apply Kd.R_drew)); exact HL309_0.out))) (Kd.R_lt (by (with_reducible repeat (first | apply Kd.R_alloc | apply Kd.R_drewN | apply Kd.R_drew)); exact HL311_0.out))) (Kd.R_lt (by (with_reducible repeat (first | apply Kd.R_alloc | apply Kd.R_drewN | apply Kd.R_drew)); exact HL313_0.out))) (below_size hB))
           replace HO_3 := Aside0.mk (Kd.S_elder' (sU HO_3) (Kd.R_base ho23) hb)
           replace HO_4 := rB HO_4 hb
           replace HL309_0 := Aside0.mk (Kd.R_elder' (by (with_reducible repeat (first | apply Kd.R_alloc | apply Kd.R_drewN | apply Kd.R_drew)); exact HL309_0.out) (Kd.R_base ho23) hb)
           replace HL311_0 := Aside0.mk (Kd.R_elder' (by (with_reducible repeat (first | apply Kd.R_alloc | apply Kd.R_drewN | apply Kd.R_drew)); exact HL311_0.out) (Kd.R_base ho23) hb)
           replace HL313_0 := Aside0.mk (Kd.R_elder' (by (with_reducible repeat (first | apply Kd.R_alloc | apply Kd.R_drewN | apply Kd.R_drew)); exact HL313_0.out) (Kd.R_base ho23) hb)
           replace BK302 := bS BK302 hb
           replace HR309_0 := Aside0.mk (Kd.C_below (by repeat (first | (with_reducible exact HR309_0.out) | (with_reducible refine Kd.C_alloc ?_ _) | (with_reducible refine Kd.C_drewN ?_ _) | (with_reducible refine Kd.C_drew ?_) | exact HR309_0.out)) hb)
           replace HR311_0 := Aside0.mk (Kd.C_below (by repeat (first | (with_reducible exact HR311_0.out) | (with_reducible refine Kd.C_alloc ?_ _) | (with_reducible refine Kd.C_drewN ?_ _) | (with_reducible refine Kd.C_drew ?_) | exact HR311_0.out)) hb)
           replace HR313_0 := Aside0.mk (Kd.C_below (by repeat (first | (with_reducible exact HR313_0.out) | (with_reducible refine Kd.C_alloc ?_ _) | (with_reducible refine Kd.C_drewN ?_ _) | (with_reducible refine Kd.C_drew ?_) | exact HR313_0.out)) hb)
           replace HB := hS HB hb
           clear hb ho23
           obtain ⟨Ao24, co24, eo24⟩ := Kd.R_slice HO317.out
           (first | subst eo24 | (injection eo24 with f1_ f2_ f3_; have f4_ := f1_.symm; have f5_ := f3_.symm; clear f1_ f2_ f3_; subst f4_; subst f5_))
           refine hK.out _ _ ⟨HS0_, HS1_, HS2_, HS3_, HS4_, HS5_⟩ (fun hHeld => ?_)
           clear hK K
           refine norm_ (a' := ?_) ?_ ?_
           rotate_left
           ·show Act.put _ (some 56) _ = _
            simp only [Act.put, List.setIfInBounds_toArray, List.set_cons_zero, List.set_cons_succ, i64_w, i32_w]
            rfl
           refine run_ [(0, 22, 16777215, some 57)] ?_
           repeat ((apply tag0; refine run_p (v := ?_) (a' := ?_) rfl rfl (any_of HT_.out (by kernel_rfl)) (fun _ _ _ h => h) (by rfl) ?_ ?_ ?_; rotate_left 2; (intro w'; go_simp; with_reducible rfl); (first | (simp only [Act.put, List.setIfInBounds_toArray, List.set_cons_zero, List.set_cons_succ, i64_w, i32_w]; rfl) | rfl)))
           refine run_nil ?_
           refine done_ (done_of HT_.out (by kernel_rfl)) ?_
           try go_wp2
           go_loopg [8, 58] k3 (fun kq v8 v58 w' => ∃ (x8_4 : Int) (x58_4 : Int), v8 = .int .i64 x8_4 ∧ v58 = .int .i64 x58_4 ∧ Aside0 (spec_trThrees.l3 kq t303 x4_3 x16_1 x6_2 x7_3 x8_4 (t303.length : Int) x16_1 y315 (y315.length : Int) x58_4 = some r) ∧ Aside0 (kq ≤ k3) ∧ Aside0 (Kd.S (Kd.slice 4 Kd.bool) 66 w' w.heap.size (fun k_ => some k_ ≠ ((.slice Ao24 y315.length co24) : Value).ownBlock) (.slice (some ad309) t303.length co9) t303) ∧ Aside0 (Kd.R (Kd.int .i64) 3 w' w.heap.size (fun _ => True) v307 x4_3) ∧ Aside0 (Kd.R Kd.bool 4 w' w.heap.size (fun _ => True) (.slice Ao24 y315.length co24) y315) ∧ Aside0 (w'.heap[gb302]? = some (.cells #[.int .i64 a0_0, (.slice A0_1 l0_1.length c0_1)] 52 (0, 0))) ∧ Aside0 (Kd.C Kd.bool w' (some ad310) (rd_L5 t303 x16_1).length (rd_L5 t303 x16_1)) ∧ Aside0 (Kd.C Kd.bool w' (some ad310) (rd_L5 t303 x16_1).length (rd_L5 t303 x16_1)) ∧ Aside0 (Kd.C Kd.bool w' (some ad314) (rd_L5 t303 x6_2).length (rd_L5 t303 x6_2)) ∧ Aside0 (Below w.heap.size w w'))
           case atStart => exact ⟨(0), (0), sR, sR, H', ⟨Nat.le_refl _⟩, ⟨by (with_reducible repeat (first | apply Kd.S_alloc | apply Kd.S_drewN | apply Kd.S_drew)); exact Kd.S_mono HO_3.out (fun _ hk => hk.2)⟩, ⟨rU HO_4⟩, ⟨by (with_reducible repeat (first | apply Kd.R_alloc | apply Kd.R_drewN | apply Kd.R_drew)); exact Kd.R_mono HO317.out (fun _ hk => trivial)⟩, ⟨bK⟩, ⟨by repeat (first | (with_reducible exact HR309_0.out) | (with_reducible refine Kd.C_alloc ?_ _) | (with_reducible refine Kd.C_drewN ?_ _) | (with_reducible refine Kd.C_drew ?_) | exact HR309_0.out)⟩, ⟨by repeat (first | (with_reducible exact HR311_0.out) | (with_reducible refine Kd.C_alloc ?_ _) | (with_reducible refine Kd.C_drewN ?_ _) | (with_reducible refine Kd.C_drew ?_) | exact HR311_0.out)⟩, ⟨by repeat (first | (with_reducible exact HR313_0.out) | (with_reducible refine Kd.C_alloc ?_ _) | (with_reducible refine Kd.C_drewN ?_ _) | (with_reducible refine Kd.C_drew ?_) | exact HR313_0.out)⟩, ⟨hB⟩⟩
           case round =>
            clear H'
            (try clear c3); (try clear c3b0); (try clear c3b1); (try clear c10); (try clear c10b0); (try clear c11); (try clear c11b0); (try clear c12); (try clear c12b0); (try clear c13b0); (try clear c14b0); (try clear c15b0); (try clear c16b0); (try clear c17b0); (try clear c18b0); (try clear c19b0); (try clear c20b0); (try clear hcz5_0 hcz5_1 hfz5_0 hfz5_1); (try clear hx309_0); (try clear hx310_0); (try clear hx311_0); (try clear hx312_0); (try clear hx313_0); (try clear hx314_0); (try clear p309); (try clear p310); (try clear p311); (try clear p312); (try clear p313); (try clear p314); (try clear q309); (try clear q310); (try clear q311); (try clear q312); (try clear q313); (try clear q314)
            obtain ⟨x8_4, x58_4, rfl, rfl, HA, HK4, HO_3, HO_4, HO_56, BK302, HR309_0, HR311_0, HR313_0, HB⟩ := hrel
            cases gk with
            | zero => exact absurd HA.out (by simp [spec_trThrees.l3])
            | succ k4 =>
             have H := HA.out
             clear HA
             simp only [spec_trThrees.l3] at H
             by_cases c25 : x58_4 < (y315.length : Int)
             ·rw [if_pos c25] at H
              have c25b0 := decide_eq_true c25
              clear c25
              replace H := ifD H; obtain ⟨c26b0, H⟩ := H
              replace H := ifD H; obtain ⟨c27b0, H⟩ := H
              obtain ⟨bq28, hbq28⟩ : ∃ b_ : Bool, b_ = (rdOf false y315 x58_4) := ⟨_, rfl⟩
              replace H : (if bq28 = true then (spec_trThrees.l3 k4 t303 x4_3 x16_1 x6_2 x7_3 (wrap64 (x8_4 + 1)) (t303.length : Int) x16_1 y315 (y315.length : Int) (wrap64 (x58_4 + 1))) else (spec_trThrees.l3 k4 t303 x4_3 x16_1 x6_2 x7_3 x8_4 (t303.length : Int) x16_1 y315 (y315.length : Int) (wrap64 (x58_4 + 1)))) = some r := by rw [← hbq28] at H; exact H
              have Nbq28 := Aside0.mk hbq28
              clear hbq28
              by_cases c29 : bq28 = true
              ·subst c29
               rw [if_pos rfl] at H
               have H' := Aside0.mk H
               clear H
               have p318 : 0 ≤ (x58_4 : Int) := of_decide_eq_true (by first | (with_reducible assumption) | assumption)
               have q318 : x58_4 < (y315.length : Int) := of_decide_eq_true (by first | (with_reducible assumption) | assumption)
               obtain ⟨ad318, e318, hx318_0⟩ := Kd.at_bool (Kd.R_reads' HO_56.out).2.2 x58_4 p318 q318
               (try rw [← Nbq28.out] at hx318_0)
               cases e318
               replace p318 := eq_true p318
               replace q318 := eq_true q318
               go_wp2
               go_roundg k4
               case measure => have := HK1.out; have := HK2.out; have := HK3.out; have := HK4.out; omega
               case rel => exact ⟨(wrap64 (x8_4 + 1)), (wrap64 (x58_4 + 1)), sR, sR, H', ⟨by have := HK1.out; have := HK2.out; have := HK3.out; have := HK4.out; omega⟩, ⟨sU HO_3⟩, ⟨rU HO_4⟩, ⟨rU HO_56⟩, ⟨bK⟩, ⟨by repeat (first | (with_reducible exact HR309_0.out) | (with_reducible refine Kd.C_alloc ?_ _) | (with_reducible refine Kd.C_drewN ?_ _) | (with_reducible refine Kd.C_drew ?_) | exact HR309_0.out)⟩, ⟨by repeat (first | (with_reducible exact HR311_0.out) | (with_reducible refine Kd.C_alloc ?_ _) | (with_reducible refine Kd.C_drewN ?_ _) | (with_reducible refine Kd.C_drew ?_) | exact HR311_0.out)⟩, ⟨by repeat (first | (with_reducible exact HR313_0.out) | (with_reducible refine Kd.C_alloc ?_ _) | (with_reducible refine Kd.C_drewN ?_ _) | (with_reducible refine Kd.C_drew ?_) | exact HR313_0.out)⟩, ⟨hB⟩⟩
              ·replace c29 := Bool.eq_false_iff.mpr c29
               subst c29
               rw [if_neg (show ¬ (false = true) by decide)] at H
               have H' := Aside0.mk H
               clear H
               have p318 : 0 ≤ (x58_4 : Int) := of_decide_eq_true (by first | (with_reducible assumption) | assumption)
               have q318 : x58_4 < (y315.length : Int) := of_decide_eq_true (by first | (with_reducible assumption) | assumption)
               obtain ⟨ad318, e318, hx318_0⟩ := Kd.at_bool (Kd.R_reads' HO_56.out).2.2 x58_4 p318 q318
               (try rw [← Nbq28.out] at hx318_0)
               cases e318
               replace p318 := eq_true p318
               replace q318 := eq_true q318
               go_wp2
               go_roundg k4
               case measure => have := HK1.out; have := HK2.out; have := HK3.out; have := HK4.out; omega
               case rel => exact ⟨(x8_4), (wrap64 (x58_4 + 1)), sR, sR, H', ⟨by have := HK1.out; have := HK2.out; have := HK3.out; have := HK4.out; omega⟩, ⟨sU HO_3⟩, ⟨rU HO_4⟩, ⟨rU HO_56⟩, ⟨bK⟩, ⟨by repeat (first | (with_reducible exact HR309_0.out) | (with_reducible refine Kd.C_alloc ?_ _) | (with_reducible refine Kd.C_drewN ?_ _) | (with_reducible refine Kd.C_drew ?_) | exact HR309_0.out)⟩, ⟨by repeat (first | (with_reducible exact HR311_0.out) | (with_reducible refine Kd.C_alloc ?_ _) | (with_reducible refine Kd.C_drewN ?_ _) | (with_reducible refine Kd.C_drew ?_) | exact HR311_0.out)⟩, ⟨by repeat (first | (with_reducible exact HR313_0.out) | (with_reducible refine Kd.C_alloc ?_ _) | (with_reducible refine Kd.C_drewN ?_ _) | (with_reducible refine Kd.C_drew ?_) | exact HR313_0.out)⟩, ⟨hB⟩⟩
             ·rw [if_neg c25] at H
              have c25b0 := decide_eq_false c25
              clear c25
              replace H := ifD H; obtain ⟨c30b0, H⟩ := H
              replace H := ifD H; obtain ⟨c31b0, H⟩ := H
              obtain ⟨y320, hy320⟩ : ∃ y_ : List Int, y_ = (x4_3.set (x8_4 : Int).toNat (wrap64 ((rd x4_3 x8_4) + 1))) := ⟨_, rfl⟩
              replace H : (spec_trThrees.l2 k4 t303 y320 x16_1 x6_2 (wrap64 (x7_3 + 1)) (t303.length : Int) x16_1) = some r := by first | (rw [hy320]; with_reducible exact H) | (have H2_ := (Option.bind_some _ _).symm.trans H; rw [hy320]; with_reducible exact H2_) | (have H2_ := (Option.bind_some _ _).symm.trans H; with_reducible exact H2_) | with_reducible exact H | (rw [hy320]; exact H) | exact H
              have Ny320 := Aside0.mk hy320
              clear hy320
              have H' := Aside0.mk H
              clear H
              obtain ⟨Ao33, co33, eo33⟩ := Kd.R_slice HO_4.out
              subst eo33
              have p319 : 0 ≤ (x8_4 : Int) := of_decide_eq_true (by first | (with_reducible assumption) | assumption)
              have q319 : x8_4 < (x4_3.length : Int) := of_decide_eq_true (by first | (with_reducible assumption) | assumption)
              obtain ⟨ad319, e319, hx319_0⟩ := Kd.at_int (Kd.R_reads' HO_4.out).2.2 x8_4 p319 q319
              cases e319
              replace p319 := eq_true p319
              replace q319 := eq_true q319
              have p32 : 0 ≤ (x8_4 : Int) := of_decide_eq_true (by first | (with_reducible assumption) | assumption)
              have q32 : (x8_4 : Int) < ((x4_3.length : Int) : Int) := of_decide_eq_true (by first | (with_reducible assumption) | assumption)
              obtain ⟨go32, co32, eo32, gb32, gl32, cl32, HG32⟩ := Kd.R_form HO_4.out (by omega)
              (first | cases eo32 | (injection eo32 with ea_ en_ ec_; (first | subst ea_ | (injection ea_ with ea_; subst ea_)); subst ec_; clear en_))
              have GB32 := Aside0.mk gb32
              have GG32 := Aside0.mk HG32
              clear gb32 gl32 HG32
              (first | simp only [add_plain] at hx319_0 | skip)
              obtain ⟨hx32_0, hf32_0⟩ := Kd.R_celln 0 HO_4.out (x8_4 : Int) p32 q32
              replace p32 := eq_true p32
              replace q32 := eq_true q32
              have HP34 := Kd.R_putg HO_4.out (x8_4 : Int) (wrap64 ((rd x4_3 x8_4) + 1))
              go_wp2_with (first | ((with_reducible refine gate_store (t := 3) (p := 71) rfl ?_); refine store_event (t := 3) (p := 71) (v := ?vo_w35) (w1 := (wr.setCell ⟨go32, (x8_4 : Int).toNat, none⟩ (.int .i64 (wrap64 ((rd x4_3 x8_4) + 1))))) ?hg ?ho ?hn ?hr ?_; (case ho => rfl); (case hg => rfl); (case hn => rfl); (case hr => first | (go_simp; done) | (go_simp; rfl)); intro w35 hw; have hg : wr.grownBy w35 (some go32) := (by rw [hw]; exact HP34.2); have hp_ : Kd.R (Kd.int .i64) 3 w35 w.heap.size (fun _ => True) (.slice (some ⟨go32, 0, none⟩) x4_3.length co33) y320 := (by rw [hw, Ny320.out]; exact HP34.1); clear HP34; replace HO_3 := Aside0.mk (Kd.S_over' (v := (.slice (some ⟨go32, 0, none⟩) x4_3.length co33)) (sU HO_3) (Kd.R_typed HO_4.out) (by decide) hg); replace HO_56 := Aside0.mk (Kd.R_over' (v := (.slice (some ⟨go32, 0, none⟩) x4_3.length co33)) (rU HO_56) (Kd.R_typed HO_4.out) (by decide) hg); replace BK302 := Aside0.mk (blk_grown (g := gb302) (o := .cells #[.int .i64 a0_0, .slice A0_1 l0_1.length c0_1] 52 (0, 0)) bK hg (Kd.R_ne HO_4.out BK302.out (by decide))); replace HO_4 := Aside0.mk (hp_); replace HB := Aside0.mk ((by rw [hw]; exact below_set (HB.out) GB32.out : Below w.heap.size w w35)); clear hg hw hp_))
              go_roundg k4
              case measure => have := HK1.out; have := HK2.out; have := HK3.out; have := HK4.out; omega
              case rel => exact ⟨(y320), (wrap64 (x7_3 + 1)), sR, H', ⟨by have := HK1.out; have := HK2.out; have := HK3.out; have := HK4.out; omega⟩, ⟨by (with_reducible repeat (first | apply Kd.S_alloc | apply Kd.S_drewN | apply Kd.S_drew)); exact Kd.S_mono HO_3.out (fun _ hk => trivial)⟩, ⟨rU HO_4⟩, ⟨bK⟩, ⟨hB⟩⟩
          ·rw [if_neg c12] at H
           have c12b0 := decide_eq_false c12
           clear c12
           have H' := Aside0.mk H
           clear H
           go_wp2
           go_roundg k3
           case measure => have := HK1.out; have := HK2.out; have := HK3.out; omega
           case rel => exact ⟨(x4_3), (wrap64 (x6_2 + 1)), sR, H', ⟨by have := HK1.out; have := HK2.out; have := HK3.out; omega⟩, ⟨sU HO_3⟩, ⟨rU HO_4⟩, ⟨bK⟩, ⟨hB⟩⟩
       ·rw [if_neg c11] at H
        have c11b0 := decide_eq_false c11
        clear c11
        have H' := Aside0.mk H
        clear H
        go_wp2
        go_roundg k2
        case measure => have := HK1.out; have := HK2.out; omega
        case rel => exact ⟨(x4_2), (wrap64 (x16_1 + 1)), sR, H', ⟨by have := HK1.out; have := HK2.out; omega⟩, ⟨sU HO_3⟩, ⟨rU HO_4⟩, ⟨bK⟩, ⟨hB⟩⟩
    ·rw [if_neg c10] at H
     have c10b0 := decide_eq_false c10
     clear c10
     obtain rfl := Option.some.inj H
     go_wp2
     go_ret
     exact ⟨_, eW, rU HO_4, hB⟩
 ·rw [if_neg c3] at H
  exact absurd H (by simp)

end Go.Proofs.YtbjmkkgejekpnaaDoor.PFnThreesCounted
