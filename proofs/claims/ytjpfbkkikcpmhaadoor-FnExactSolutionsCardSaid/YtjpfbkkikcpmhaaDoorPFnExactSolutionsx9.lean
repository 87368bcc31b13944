-- Of this session's own program wip/gen/gen.py (it drives the kit's print): contracts of the functions that the law reaches.
import Derived.Test.YtjpfbkkikcpmhaaDoorPFnExactSolutionsx0
import Derived.Test.YtjpfbkkikcpmhaaDoorPFnExactSolutionsx3
import Derived.Test.YtjpfbkkikcpmhaaDoorPFnExactSolutionsx5
import Derived.Test.YtjpfbkkikcpmhaaDoorPFnExactSolutionsx6
import Derived.Test.YtjpfbkkikcpmhaaDoorPFnExactSolutionsx7
import Derived.Test.YtjpfbkkikcpmhaaDoorPFnExactSolutionsx8
namespace Go.Proofs.YtjpfbkkikcpmhaaDoor.PFnExactSolutions
open Go.RowKit Go.Proofs.YtjpfbkkikcpmhaaDoorW.PrintWords Go.Proofs.YtjpfbkkikcpmhaaDoorW.PrintLast Go.Proofs.YtjpfbkkikcpmhaaDoorW.PrintMore Go.Proofs.YtjpfbkkikcpmhaaDoor.Base
attribute [local go_sem] max2_int min2_int max_two min_two max_three min_three max_four min_four   -- for this text's walks alone
set_option linter.unusedVariables false
set_option linter.unusedSimpArgs false

/-! ### spec_pzFits: function 112 -/
def spec_pzFits.f (k : Nat) (a0_0 : Int) (a0_1 : Int) (a0_2 : Int) (a1_0 : Int) (l1_1 : List (S105)) : Option (Bool) := if a0_0 = 0 then ((spec_paTable.f k a1_0 l1_1).bind fun t295 => (if 0 ≤ a0_1 then (if a0_1 < (t295.length : Int) then (if 0 ≤ a0_2 then (if a0_2 < ((rd_L7 t295 a0_1).length : Int) then (some (rdOf false (rd_L7 t295 a0_1) a0_2)) else (none)) else (none)) else (none)) else (none))) else (if a0_0 = 1 then ((spec_paTable.f k a1_0 l1_1).bind fun t300 => (if 0 ≤ a0_1 then (if a0_1 < (t300.length : Int) then (if 0 ≤ a0_2 then (if a0_2 < ((rd_L7 t300 a0_1).length : Int) then (some (!(rdOf false (rd_L7 t300 a0_1) a0_2))) else (none)) else (none)) else (none)) else (none))) else (if a0_0 = 2 then ((spec_paNumbers.f k a1_0 l1_1).bind fun t305 => (if 0 ≤ a0_1 then (if a0_1 < (t305.length : Int) then (some ((rd t305 a0_1) == a0_2)) else (none)) else (none))) else (if a0_0 = 3 then (some ((l1_1.length : Int) == a0_1)) else (if a0_0 = 4 then ((spec_pzThrees.f k a1_0 l1_1).bind fun t309 => (some (t309 == a0_1))) else ((spec_paParts.f k a1_0 l1_1).bind fun t310 => (some ((t310.length : Int) == a0_1)))))))
theorem spec_pzFits.mono : ∀ a0 a1 a2 a3 a4 k, LeO (spec_pzFits.f k a0 a1 a2 a3 a4) (spec_pzFits.f (k + 1) a0 a1 a2 a3 a4) := by
 intro a0 a1 a2 a3 a4 k
 unfold spec_pzFits.f
 repeat' first
   | (with_reducible exact spec_paNumbers.mono _ _ _)
   | (with_reducible exact spec_paParts.mono _ _ _)
   | (with_reducible exact spec_paTable.mono _ _ _)
   | (with_reducible exact spec_pzThrees.mono _ _ _)
   | (with_reducible exact LeO.refl _)
   | (with_reducible exact LeO.none _)
   | (with_reducible refine LeO.ite ?_ ?_)
   | (with_reducible refine LeO.bind ?_ (fun _ => ?_))
   | exact spec_paNumbers.mono _ _ _
   | exact spec_paParts.mono _ _ _
   | exact spec_paTable.mono _ _ _
   | exact spec_pzThrees.mono _ _ _
   | exact LeO.none _
   | refine LeO.ite ?_ ?_
   | refine LeO.bind ?_ (fun _ => ?_)
def spec_pzFits.T3 : Bool × List (List Nat × List Nat) := (true, [([], []), ([0], [0]), ([], []), ([2], [2]), ([1, 3], [1, 3]), ([4], [4]), ([], []), ([6], [6]), ([5, 7], [5, 7]), ([8], [8]), ([9, 1, 0, 1, 2, 3, 4, 5, 6, 7, 8, 9], [9])])
def spec_pzFits.B3 : List Nat := [0, 1, 0, 4, 15, 31, 0, 64, 255, 511, 1023]
theorem spec_pzFits.tab3 : rtab .any (opsOf Tryd.f112 3) = spec_pzFits.T3 := by kernel_rfl
theorem spec_pzFits.bits3 : waitsOk spec_pzFits.T3.2 spec_pzFits.B3 = true := by kernel_rfl
def spec_pzFits.T5 : Bool × List (List Nat × List Nat) := (true, [([], []), ([0], [0]), ([], []), ([2], [2]), ([1, 3], [1, 3]), ([4], [4]), ([], []), ([6], [6]), ([5, 7], [5, 7]), ([8], [8]), ([9], [9]), ([10, 1, 0, 1, 2, 3, 4, 5, 6, 7, 8, 9, 10], [10])])
def spec_pzFits.B5 : List Nat := [0, 1, 0, 4, 15, 31, 0, 64, 255, 511, 1023, 2047]
theorem spec_pzFits.tab5 : rtab .any (opsOf Tryd.f112 5) = spec_pzFits.T5 := by kernel_rfl
theorem spec_pzFits.bits5 : waitsOk spec_pzFits.T5.2 spec_pzFits.B5 = true := by kernel_rfl
def spec_pzFits.T7 : Bool × List (List Nat × List Nat) := (true, [([], []), ([0], [0]), ([], []), ([2], [2]), ([1, 3], [1, 3]), ([4], [4]), ([], []), ([6], [6]), ([5, 7], [5, 7]), ([8, 1, 0, 1, 2, 3, 4, 5, 6, 7, 8], [8])])
def spec_pzFits.B7 : List Nat := [0, 1, 0, 4, 15, 31, 0, 64, 255, 511]
theorem spec_pzFits.tab7 : rtab .any (opsOf Tryd.f112 7) = spec_pzFits.T7 := by kernel_rfl
theorem spec_pzFits.bits7 : waitsOk spec_pzFits.T7.2 spec_pzFits.B7 = true := by kernel_rfl
set_option maxHeartbeats 8000000 in
set_option maxRecDepth 100000 in
theorem spec_pzFits.calls (k : Nat) (a0_0 : Int) (a0_1 : Int) (a0_2 : Int) (a1_0 : Int) (A1_1 : Option Addr) (c1_1 : Nat) (l1_1 : List (S105)) (r : Bool) (w : World) (hr1_1 : Kd.C k105 w A1_1 l1_1.length l1_1) (hc1_1 : l1_1.length ≤ c1_1) (h : spec_pzFits.f k a0_0 a0_1 a0_2 a1_0 l1_1 = some r) :
  Calls Tryd.prog 112 #[.agg #[.int .i64 a0_0, .int .i64 a0_1, .int .i64 a0_2], .agg #[.int .i64 a1_0, .slice A1_1 l1_1.length c1_1]] w fun e w' => e = .returned (.bool r) ∧ Below w.heap.size w w' := by
 have hu70 := Tryd.underlying70
 have hu33 := Tryd.underlying33
 have HR1_1 := Aside0.mk hr1_1
 have HC1_1 := Aside0.mk hc1_1
 clear hr1_1 hc1_1
 have HB := Aside0.mk (Below.refl w.heap.size w)
 have H : (if a0_0 = 0 then ((spec_paTable.f k a1_0 l1_1).bind fun t295 => (if 0 ≤ a0_1 then (if a0_1 < (t295.length : Int) then (if 0 ≤ a0_2 then (if a0_2 < ((rd_L7 t295 a0_1).length : Int) then (some (rdOf false (rd_L7 t295 a0_1) a0_2)) else (none)) else (none)) else (none)) else (none))) else (if a0_0 = 1 then ((spec_paTable.f k a1_0 l1_1).bind fun t300 => (if 0 ≤ a0_1 then (if a0_1 < (t300.length : Int) then (if 0 ≤ a0_2 then (if a0_2 < ((rd_L7 t300 a0_1).length : Int) then (some (!(rdOf false (rd_L7 t300 a0_1) a0_2))) else (none)) else (none)) else (none)) else (none))) else (if a0_0 = 2 then ((spec_paNumbers.f k a1_0 l1_1).bind fun t305 => (if 0 ≤ a0_1 then (if a0_1 < (t305.length : Int) then (some ((rd t305 a0_1) == a0_2)) else (none)) else (none))) else (if a0_0 = 3 then (some ((l1_1.length : Int) == a0_1)) else (if a0_0 = 4 then ((spec_pzThrees.f k a1_0 l1_1).bind fun t309 => (some (t309 == a0_1))) else ((spec_paParts.f k a1_0 l1_1).bind fun t310 => (some ((t310.length : Int) == a0_1)))))))) = some r := h
 clear h
 by_cases c3 : a0_0 = 0
 ·rw [if_pos c3] at H
  have c3b0 : (a0_0 == 0) = true := beq_iff_eq.mpr c3
  have c3b1 : (a0_0 != 0) = false := bne_eq_false_iff_eq.mpr c3
  clear c3
  replace H := Option.bind_eq_some_iff.mp H
  obtain ⟨t295, A40, H⟩ := H
  try dsimp only at H
  have A4 := Aside0.mk A40
  clear A40
  by_cases c5 : 0 ≤ a0_1
  ·rw [if_pos c5] at H
   have c5b0 : decide (0 ≤ a0_1) = true := decide_eq_true c5
   clear c5
   by_cases c6 : a0_1 < (t295.length : Int)
   ·rw [if_pos c6] at H
    have c6b0 : decide (a0_1 < (t295.length : Int)) = true := decide_eq_true c6
    clear c6
    by_cases c7 : 0 ≤ a0_2
    ·rw [if_pos c7] at H
     have c7b0 : decide (0 ≤ a0_2) = true := decide_eq_true c7
     clear c7
     by_cases c8 : a0_2 < ((rd_L7 t295 a0_1).length : Int)
     ·rw [if_pos c8] at H
      have c8b0 : decide (a0_2 < ((rd_L7 t295 a0_1).length : Int)) = true := decide_eq_true c8
      clear c8
      obtain rfl := Option.some.inj H
      go_enter Tryd.func112, Tryd.ntmps112
      try go_wp2_with (first | ((with_reducible refine gate_dst (N := 2) rfl ?_); refine bxE 2 #[.int .i64 a0_0, .int .i64 a0_1, .int .i64 a0_2] 70 rfl ?_; intro gb293 hg w9 hbox hb; have BK293 := Aside0.mk (hbox); have GW293 := gS HB hg; have GE293 := gS HB hg; replace HB := hS HB hb; clear hb hbox hg) | ((with_reducible refine gate_dst (N := 3) rfl ?_); refine bxE 3 #[.int .i64 a1_0, .slice A1_1 l1_1.length c1_1] 33 rfl ?_; intro gb294 hg w10 hbox hb; have BK294 := Aside0.mk (hbox); have GW294 := gS HB hg; have GE294 := gS HB hg; have NB293_294 := nL BK293 hg; have NB294_293 := nG BK293 hg; replace BK293 := bS BK293 hb; replace HB := hS HB hb; clear hb hbox hg; have hnb11 := NB293_294.out; have hnc11 := NB294_293.out; have hcz12_0 := cz BK293 0; have hcz12_1 := cz BK293 1; have hcz12_2 := cz BK293 2; have hfz12_0 := fz BK293 0; have hfz12_1 := fz BK293 1; have hfz12_2 := fz BK293 2))
      replace BK293 := Aside0.mk (blk_drew BK293.out)
      replace BK294 := Aside0.mk (blk_drew BK294.out)
      replace HB := Aside0.mk (below_drew1 HB.out)
      refine start_ (n := 11) (S := fun w' => w'.cell? ⟨gb294, 0, none⟩ = some (.int .i64 a1_0) ∧ w'.cell? ⟨gb294, 1, none⟩ = some (.slice A1_1 l1_1.length c1_1) ∧ w'.cell? ⟨gb293, 0, none⟩ = some (.int .i64 a0_0) ∧ w'.cell? ⟨gb293, 1, none⟩ = some (.int .i64 a0_1) ∧ w'.cell? ⟨gb293, 2, none⟩ = some (.int .i64 a0_2)) (ds := []) (bz 11 0) (by kernel_rfl) rfl rfl ⟨(blk_cell BK294.out 0).trans rfl, (blk_cell BK294.out 1).trans rfl, (blk_cell BK293.out 0).trans rfl, (blk_cell BK293.out 1).trans rfl, (blk_cell BK293.out 2).trans rfl⟩ (fun hHeld => ?_); refine with_tabW spec_pzFits.tab3 spec_pzFits.bits3 (fun HT_ HW_ => ?_)
      generalize w10.drew = w13 at BK293 BK294 HB hHeld ⊢
      refine run_ [(0, 2, 4, some 11), (0, 6, 68, some 15), (1, 0, 69, some 9), (1, 3, 77, some 12), (1, 7, 205, some 16)] ?_
      repeat (first | (apply tag0; refine run_p (v := ?_) (a' := ?_) rfl rfl (any_of HT_.out (by kernel_rfl)) (fun _ _ _ h => h) (by rfl) ?_ ?_ ?_; rotate_left 2; (intro w'; go_simp; with_reducible rfl); (first | (simp only [Act.put, List.setIfInBounds_toArray, List.set_cons_zero, List.set_cons_succ, i64_w, i32_w]; rfl) | rfl)) | (apply tag1; refine run_t (v := ?_) (a' := ?_) rfl rfl (take_ofW HT_.out HW_.out (by kernel_rfl)) (fun _ _ _ h => h) (by rfl) ?_ hHeld ?_ ?_; rotate_left 2; (rintro w' ⟨s0, s1, s2, s3, s4⟩; go_simp; with_reducible rfl); (first | (simp only [Act.put, List.setIfInBounds_toArray, List.set_cons_zero, List.set_cons_succ, i64_w, i32_w]; rfl) | rfl)))
      refine run_nil ?_
      refine one_ (i := 1) (N := some 10) (bz 11 207) rfl rfl (one_of HT_.out (by kernel_rfl)) (by decide) (fun K hK => ?_)
      refine goes_ Tryd.func54 (by kernel_rfl) rfl #[.agg #[.int .i64 a1_0, .slice A1_1 l1_1.length c1_1]] (by rfl) rfl rfl mapT ?_
      with_reducible refine (spec_paTable.calls k a1_0 _ _ l1_1 t295 _ ?side1 ?side2 A4.out).mono ?_
      (case side1 => exact cS (Kd.C_below HR1_1.out HB.out))
      (case side2 => exact HC1_1.out)
      rintro e w14 ⟨v296, rfl, ho0, hb⟩
      refine ⟨_, rfl, ?_⟩
      have HO297 := Aside0.mk (Kd.S_lower ho0 (below_size hB))
      replace BK293 := bS BK293 hb
      replace BK294 := bS BK294 hb
      replace HB := hS HB hb
      (try clear hb)
      (try clear hb2)
      (try clear hk)
      (try clear hi)
      (try clear ho0)
      obtain ⟨Ao15, co15, eo15⟩ := Kd.S_slice HO297.out
      (first | subst eo15 | (injection eo15 with f1_ f2_ f3_; have f4_ := f1_.symm; have f5_ := f3_.symm; clear f1_ f2_ f3_; subst f4_; subst f5_))
      have p298 : 0 ≤ (a0_1 : Int) := of_decide_eq_true (by first | (with_reducible assumption) | assumption)
      have q298 : a0_1 < (t295.length : Int) := of_decide_eq_true (by first | (with_reducible assumption) | assumption)
      obtain ⟨ad298, A298_0, c298_0, e298, hx298_0, hl298_0, hi298_0⟩ := at_L7 (Kd.S_reads' HO297.out).2.2 a0_1 p298 q298
      cases e298
      obtain ⟨ce298, hce298, hMe298, hcc298⟩ := Kd.S_get HO297.out [] a0_1 p298 (by first | exact q298 | exact of_decide_eq_true (by first | (with_reducible assumption) | assumption) | (have e_ := (Kd.S_reads' HO297.out).1; omega))
      obtain ⟨ve298_0, rfl, ge298_0⟩ := hMe298
      have hv298_0 := hcc298 0 _ rfl
      rw [Nat.add_zero, show ((Kd.slice 4 Kd.bool)).sz = 1 from rfl, Nat.mul_one] at hv298_0
      replace hv298_0 := Option.some.inj (hv298_0.symm.trans hx298_0)
      rw [hv298_0] at ge298_0
      have HL298_0 := Aside0.mk (show Kd.R Kd.bool 4 _ _ _ _ (rd_L7 t295 a0_1) from ge298_0)
      clear hv298_0 ge298_0
      clear hcc298 hce298
      have HR298_0 := Aside0.mk hi298_0
      have HC298_0 := Aside0.mk hl298_0
      clear hi298_0 hl298_0
      replace p298 := eq_true p298
      replace q298 := eq_true q298
      have p299 : 0 ≤ (a0_2 : Int) := of_decide_eq_true (by first | (with_reducible assumption) | assumption)
      have q299 : a0_2 < ((rd_L7 t295 a0_1).length : Int) := of_decide_eq_true (by first | (with_reducible assumption) | assumption)
      obtain ⟨ad299, e299, hx299_0⟩ := Kd.at_bool (by repeat (first | (with_reducible exact HR298_0.out) | (with_reducible refine Kd.C_alloc ?_ _) | (with_reducible refine Kd.C_drewN ?_ _) | (with_reducible refine Kd.C_drew ?_) | exact HR298_0.out)) a0_2 p299 q299
      cases e299
      replace p299 := eq_true p299
      replace q299 := eq_true q299
      refine hK.out _ _ ⟨(blk_cell BK294.out 0).trans rfl, (blk_cell BK294.out 1).trans rfl, (blk_cell BK293.out 0).trans rfl, (blk_cell BK293.out 1).trans rfl, (blk_cell BK293.out 2).trans rfl⟩ (fun hHeld => ?_)
      have hHeld2 : (fun w' : World => w'.cell? ⟨gb294, 0, none⟩ = some (.int .i64 a1_0) ∧ w'.cell? ⟨gb294, 1, none⟩ = some (.slice A1_1 l1_1.length c1_1) ∧ w'.cell? ⟨gb293, 0, none⟩ = some (.int .i64 a0_0) ∧ w'.cell? ⟨gb293, 1, none⟩ = some (.int .i64 a0_1) ∧ w'.cell? ⟨gb293, 2, none⟩ = some (.int .i64 a0_2) ∧ w'.cell? (ad298.add (a0_1).toNat) = some (.slice (some ad299) (rd_L7 t295 a0_1).length c298_0) ∧ w'.cell? (ad299.add (a0_2).toNat) = some (.bool (rdOf false (rd_L7 t295 a0_1) a0_2))) _ := ⟨(blk_cell BK294.out 0).trans rfl, (blk_cell BK294.out 1).trans rfl, (blk_cell BK293.out 0).trans rfl, (blk_cell BK293.out 1).trans rfl, (blk_cell BK293.out 2).trans rfl, hx298_0, hx299_0⟩
      refine more_ (fun w' : World => w'.cell? ⟨gb294, 0, none⟩ = some (.int .i64 a1_0) ∧ w'.cell? ⟨gb294, 1, none⟩ = some (.slice A1_1 l1_1.length c1_1) ∧ w'.cell? ⟨gb293, 0, none⟩ = some (.int .i64 a0_0) ∧ w'.cell? ⟨gb293, 1, none⟩ = some (.int .i64 a0_1) ∧ w'.cell? ⟨gb293, 2, none⟩ = some (.int .i64 a0_2) ∧ w'.cell? (ad298.add (a0_1).toNat) = some (.slice (some ad299) (rd_L7 t295 a0_1).length c298_0) ∧ w'.cell? (ad299.add (a0_2).toNat) = some (.bool (rdOf false (rd_L7 t295 a0_1) a0_2))) (fun _ ⟨s0, s1, s2, s3, s4, s5, s6⟩ => ⟨s0, s1, s2, s3, s4⟩) _ _ _ _ hHeld2 ?_
      clear hHeld
      have hHeld := hHeld2
      clear hHeld2
      clear hK K
      refine norm_ (a' := ?_) ?_ ?_
      rotate_left
      ·show Act.put _ (some 10) _ = _
       simp only [Act.put, List.setIfInBounds_toArray, List.set_cons_zero, List.set_cons_succ, i64_w, i32_w]
       rfl
      refine run_ [(0, 4, 223, some 13), (1, 5, 255, some 14), (0, 8, 511, some 17), (1, 9, 1023, some 18), (0, 10, 2047, some 4)] ?_
      repeat (first | (apply tag0; refine run_p (v := ?_) (a' := ?_) rfl rfl (any_of HT_.out (by kernel_rfl)) (fun _ _ _ h => h) (by rfl) ?_ ?_ ?_; rotate_left 2; (intro w'; go_simp; with_reducible rfl); (first | (simp only [Act.put, List.setIfInBounds_toArray, List.set_cons_zero, List.set_cons_succ, i64_w, i32_w]; rfl) | rfl)) | (apply tag1; refine run_t (v := ?_) (a' := ?_) rfl rfl (take_ofW HT_.out HW_.out (by kernel_rfl)) (fun _ _ _ h => h) (by rfl) ?_ hHeld ?_ ?_; rotate_left 2; (rintro w' ⟨s0, s1, s2, s3, s4, s5, s6⟩; go_simp; with_reducible rfl); (first | (simp only [Act.put, List.setIfInBounds_toArray, List.set_cons_zero, List.set_cons_succ, i64_w, i32_w]; rfl) | rfl)))
      refine run_nil ?_
      refine done_ (done_of HT_.out (by kernel_rfl)) ?_
      try go_wp2
      go_ret
      exact ⟨by first | rfl | (simp [errW_none, errW_some] <;> rfl) | (simp [*, errW_none, errW_some] <;> rfl), hB⟩
     ·rw [if_neg c8] at H
      exact absurd H (by simp)
    ·rw [if_neg c7] at H
     exact absurd H (by simp)
   ·rw [if_neg c6] at H
    exact absurd H (by simp)
  ·rw [if_neg c5] at H
   exact absurd H (by simp)
 ·rw [if_neg c3] at H
  have c3b0 : (a0_0 == 0) = false := beq_eq_false_iff_ne.mpr c3
  have c3b1 : (a0_0 != 0) = true := bne_iff_ne.mpr c3
  by_cases c16 : a0_0 = 1
  ·rw [if_pos c16] at H
   have c16b0 : (a0_0 == 1) = true := beq_iff_eq.mpr c16
   have c16b1 : (a0_0 != 1) = false := bne_eq_false_iff_eq.mpr c16
   clear c16
   replace H := Option.bind_eq_some_iff.mp H
   obtain ⟨t300, A170, H⟩ := H
   try dsimp only at H
   have A17 := Aside0.mk A170
   clear A170
   by_cases c18 : 0 ≤ a0_1
   ·rw [if_pos c18] at H
    have c18b0 : decide (0 ≤ a0_1) = true := decide_eq_true c18
    clear c18
    by_cases c19 : a0_1 < (t300.length : Int)
    ·rw [if_pos c19] at H
     have c19b0 : decide (a0_1 < (t300.length : Int)) = true := decide_eq_true c19
     clear c19
     by_cases c20 : 0 ≤ a0_2
     ·rw [if_pos c20] at H
      have c20b0 : decide (0 ≤ a0_2) = true := decide_eq_true c20
      clear c20
      by_cases c21 : a0_2 < ((rd_L7 t300 a0_1).length : Int)
      ·rw [if_pos c21] at H
       have c21b0 : decide (a0_2 < ((rd_L7 t300 a0_1).length : Int)) = true := decide_eq_true c21
       clear c21
       obtain rfl := Option.some.inj H
       go_enter Tryd.func112, Tryd.ntmps112
       try go_wp2_with (first | ((with_reducible refine gate_dst (N := 2) rfl ?_); refine bxE 2 #[.int .i64 a0_0, .int .i64 a0_1, .int .i64 a0_2] 70 rfl ?_; intro gb293 hg w22 hbox hb; have BK293 := Aside0.mk (hbox); have GW293 := gS HB hg; have GE293 := gS HB hg; replace HB := hS HB hb; clear hb hbox hg) | ((with_reducible refine gate_dst (N := 3) rfl ?_); refine bxE 3 #[.int .i64 a1_0, .slice A1_1 l1_1.length c1_1] 33 rfl ?_; intro gb294 hg w23 hbox hb; have BK294 := Aside0.mk (hbox); have GW294 := gS HB hg; have GE294 := gS HB hg; have NB293_294 := nL BK293 hg; have NB294_293 := nG BK293 hg; replace BK293 := bS BK293 hb; replace HB := hS HB hb; clear hb hbox hg; have hnb24 := NB293_294.out; have hnc24 := NB294_293.out; have hcz25_0 := cz BK293 0; have hcz25_1 := cz BK293 1; have hcz25_2 := cz BK293 2; have hfz25_0 := fz BK293 0; have hfz25_1 := fz BK293 1; have hfz25_2 := fz BK293 2))
       replace BK293 := Aside0.mk (blk_drew BK293.out)
       replace BK294 := Aside0.mk (blk_drew BK294.out)
       replace HB := Aside0.mk (below_drew1 HB.out)
       refine start_ (n := 12) (S := fun w' => w'.cell? ⟨gb294, 0, none⟩ = some (.int .i64 a1_0) ∧ w'.cell? ⟨gb294, 1, none⟩ = some (.slice A1_1 l1_1.length c1_1) ∧ w'.cell? ⟨gb293, 0, none⟩ = some (.int .i64 a0_0) ∧ w'.cell? ⟨gb293, 1, none⟩ = some (.int .i64 a0_1) ∧ w'.cell? ⟨gb293, 2, none⟩ = some (.int .i64 a0_2)) (ds := []) (bz 12 0) (by kernel_rfl) rfl rfl ⟨(blk_cell BK294.out 0).trans rfl, (blk_cell BK294.out 1).trans rfl, (blk_cell BK293.out 0).trans rfl, (blk_cell BK293.out 1).trans rfl, (blk_cell BK293.out 2).trans rfl⟩ (fun hHeld => ?_); refine with_tabW spec_pzFits.tab5 spec_pzFits.bits5 (fun HT_ HW_ => ?_)
       generalize w23.drew = w26 at BK293 BK294 HB hHeld ⊢
       refine run_ [(0, 2, 4, some 23), (0, 6, 68, some 27), (1, 0, 69, some 21), (1, 3, 77, some 24), (1, 7, 205, some 28)] ?_
       repeat (first | (apply tag0; refine run_p (v := ?_) (a' := ?_) rfl rfl (any_of HT_.out (by kernel_rfl)) (fun _ _ _ h => h) (by rfl) ?_ ?_ ?_; rotate_left 2; (intro w'; go_simp; with_reducible rfl); (first | (simp only [Act.put, List.setIfInBounds_toArray, List.set_cons_zero, List.set_cons_succ, i64_w, i32_w]; rfl) | rfl)) | (apply tag1; refine run_t (v := ?_) (a' := ?_) rfl rfl (take_ofW HT_.out HW_.out (by kernel_rfl)) (fun _ _ _ h => h) (by rfl) ?_ hHeld ?_ ?_; rotate_left 2; (rintro w' ⟨s0, s1, s2, s3, s4⟩; go_simp; with_reducible rfl); (first | (simp only [Act.put, List.setIfInBounds_toArray, List.set_cons_zero, List.set_cons_succ, i64_w, i32_w]; rfl) | rfl)))
       refine run_nil ?_
       refine one_ (i := 1) (N := some 22) (bz 12 207) rfl rfl (one_of HT_.out (by kernel_rfl)) (by decide) (fun K hK => ?_)
       refine goes_ Tryd.func54 (by kernel_rfl) rfl #[.agg #[.int .i64 a1_0, .slice A1_1 l1_1.length c1_1]] (by rfl) rfl rfl mapT ?_
       with_reducible refine (spec_paTable.calls k a1_0 _ _ l1_1 t300 _ ?side1 ?side2 A17.out).mono ?_
       (case side1 => exact cS (Kd.C_below HR1_1.out HB.out))
       (case side2 => exact HC1_1.out)
       rintro e w27 ⟨v301, rfl, ho0, hb⟩
       refine ⟨_, rfl, ?_⟩
       have HO302 := Aside0.mk (Kd.S_lower ho0 (below_size hB))
       replace BK293 := bS BK293 hb
       replace BK294 := bS BK294 hb
       replace HB := hS HB hb
       (try clear hb)
       (try clear hb2)
       (try clear hk)
       (try clear hi)
       (try clear ho0)
       obtain ⟨Ao28, co28, eo28⟩ := Kd.S_slice HO302.out
       (first | subst eo28 | (injection eo28 with f1_ f2_ f3_; have f4_ := f1_.symm; have f5_ := f3_.symm; clear f1_ f2_ f3_; subst f4_; subst f5_))
       have p303 : 0 ≤ (a0_1 : Int) := of_decide_eq_true (by first | (with_reducible assumption) | assumption)
       have q303 : a0_1 < (t300.length : Int) := of_decide_eq_true (by first | (with_reducible assumption) | assumption)
       obtain ⟨ad303, A303_0, c303_0, e303, hx303_0, hl303_0, hi303_0⟩ := at_L7 (Kd.S_reads' HO302.out).2.2 a0_1 p303 q303
       cases e303
       obtain ⟨ce303, hce303, hMe303, hcc303⟩ := Kd.S_get HO302.out [] a0_1 p303 (by first | exact q303 | exact of_decide_eq_true (by first | (with_reducible assumption) | assumption) | (have e_ := (Kd.S_reads' HO302.out).1; omega))
       obtain ⟨ve303_0, rfl, ge303_0⟩ := hMe303
       have hv303_0 := hcc303 0 _ rfl
       rw [Nat.add_zero, show ((Kd.slice 4 Kd.bool)).sz = 1 from rfl, Nat.mul_one] at hv303_0
       replace hv303_0 := Option.some.inj (hv303_0.symm.trans hx303_0)
       rw [hv303_0] at ge303_0
       have HL303_0 := Aside0.mk (show Kd.R Kd.bool 4 _ _ _ _ (rd_L7 t300 a0_1) from ge303_0)
       clear hv303_0 ge303_0
       clear hcc303 hce303
       have HR303_0 := Aside0.mk hi303_0
       have HC303_0 := Aside0.mk hl303_0
       clear hi303_0 hl303_0
       replace p303 := eq_true p303
       replace q303 := eq_true q303
       have p304 : 0 ≤ (a0_2 : Int) := of_decide_eq_true (by first | (with_reducible assumption) | assumption)
       have q304 : a0_2 < ((rd_L7 t300 a0_1).length : Int) := of_decide_eq_true (by first | (with_reducible assumption) | assumption)
       obtain ⟨ad304, e304, hx304_0⟩ := Kd.at_bool (by repeat (first | (with_reducible exact HR303_0.out) | (with_reducible refine Kd.C_alloc ?_ _) | (with_reducible refine Kd.C_drewN ?_ _) | (with_reducible refine Kd.C_drew ?_) | exact HR303_0.out)) a0_2 p304 q304
       cases e304
       replace p304 := eq_true p304
       replace q304 := eq_true q304
       refine hK.out _ _ ⟨(blk_cell BK294.out 0).trans rfl, (blk_cell BK294.out 1).trans rfl, (blk_cell BK293.out 0).trans rfl, (blk_cell BK293.out 1).trans rfl, (blk_cell BK293.out 2).trans rfl⟩ (fun hHeld => ?_)
       have hHeld2 : (fun w' : World => w'.cell? ⟨gb294, 0, none⟩ = some (.int .i64 a1_0) ∧ w'.cell? ⟨gb294, 1, none⟩ = some (.slice A1_1 l1_1.length c1_1) ∧ w'.cell? ⟨gb293, 0, none⟩ = some (.int .i64 a0_0) ∧ w'.cell? ⟨gb293, 1, none⟩ = some (.int .i64 a0_1) ∧ w'.cell? ⟨gb293, 2, none⟩ = some (.int .i64 a0_2) ∧ w'.cell? (ad303.add (a0_1).toNat) = some (.slice (some ad304) (rd_L7 t300 a0_1).length c303_0) ∧ w'.cell? (ad304.add (a0_2).toNat) = some (.bool (rdOf false (rd_L7 t300 a0_1) a0_2))) _ := ⟨(blk_cell BK294.out 0).trans rfl, (blk_cell BK294.out 1).trans rfl, (blk_cell BK293.out 0).trans rfl, (blk_cell BK293.out 1).trans rfl, (blk_cell BK293.out 2).trans rfl, hx303_0, hx304_0⟩
       refine more_ (fun w' : World => w'.cell? ⟨gb294, 0, none⟩ = some (.int .i64 a1_0) ∧ w'.cell? ⟨gb294, 1, none⟩ = some (.slice A1_1 l1_1.length c1_1) ∧ w'.cell? ⟨gb293, 0, none⟩ = some (.int .i64 a0_0) ∧ w'.cell? ⟨gb293, 1, none⟩ = some (.int .i64 a0_1) ∧ w'.cell? ⟨gb293, 2, none⟩ = some (.int .i64 a0_2) ∧ w'.cell? (ad303.add (a0_1).toNat) = some (.slice (some ad304) (rd_L7 t300 a0_1).length c303_0) ∧ w'.cell? (ad304.add (a0_2).toNat) = some (.bool (rdOf false (rd_L7 t300 a0_1) a0_2))) (fun _ ⟨s0, s1, s2, s3, s4, s5, s6⟩ => ⟨s0, s1, s2, s3, s4⟩) _ _ _ _ hHeld2 ?_
       clear hHeld
       have hHeld := hHeld2
       clear hHeld2
       clear hK K
       refine norm_ (a' := ?_) ?_ ?_
       rotate_left
       ·show Act.put _ (some 22) _ = _
        simp only [Act.put, List.setIfInBounds_toArray, List.set_cons_zero, List.set_cons_succ, i64_w, i32_w]
        rfl
       refine run_ [(0, 4, 223, some 25), (1, 5, 255, some 26), (0, 8, 511, some 29), (1, 9, 1023, some 30), (0, 10, 2047, some 31), (0, 11, 4095, some 4)] ?_
       repeat (first | (apply tag0; refine run_p (v := ?_) (a' := ?_) rfl rfl (any_of HT_.out (by kernel_rfl)) (fun _ _ _ h => h) (by rfl) ?_ ?_ ?_; rotate_left 2; (intro w'; go_simp; with_reducible rfl); (first | (simp only [Act.put, List.setIfInBounds_toArray, List.set_cons_zero, List.set_cons_succ, i64_w, i32_w]; rfl) | rfl)) | (apply tag1; refine run_t (v := ?_) (a' := ?_) rfl rfl (take_ofW HT_.out HW_.out (by kernel_rfl)) (fun _ _ _ h => h) (by rfl) ?_ hHeld ?_ ?_; rotate_left 2; (rintro w' ⟨s0, s1, s2, s3, s4, s5, s6⟩; go_simp; with_reducible rfl); (first | (simp only [Act.put, List.setIfInBounds_toArray, List.set_cons_zero, List.set_cons_succ, i64_w, i32_w]; rfl) | rfl)))
       refine run_nil ?_
       refine done_ (done_of HT_.out (by kernel_rfl)) ?_
       try go_wp2
       go_ret
       exact ⟨by first | rfl | (simp [errW_none, errW_some] <;> rfl) | (simp [*, errW_none, errW_some] <;> rfl), hB⟩
      ·rw [if_neg c21] at H
       exact absurd H (by simp)
     ·rw [if_neg c20] at H
      exact absurd H (by simp)
    ·rw [if_neg c19] at H
     exact absurd H (by simp)
   ·rw [if_neg c18] at H
    exact absurd H (by simp)
  ·rw [if_neg c16] at H
   have c16b0 : (a0_0 == 1) = false := beq_eq_false_iff_ne.mpr c16
   have c16b1 : (a0_0 != 1) = true := bne_iff_ne.mpr c16
   by_cases c29 : a0_0 = 2
   ·rw [if_pos c29] at H
    have c29b0 : (a0_0 == 2) = true := beq_iff_eq.mpr c29
    have c29b1 : (a0_0 != 2) = false := bne_eq_false_iff_eq.mpr c29
    clear c29
    replace H := Option.bind_eq_some_iff.mp H
    obtain ⟨t305, A300, H⟩ := H
    try dsimp only at H
    have A30 := Aside0.mk A300
    clear A300
    by_cases c31 : 0 ≤ a0_1
    ·rw [if_pos c31] at H
     have c31b0 : decide (0 ≤ a0_1) = true := decide_eq_true c31
     clear c31
     by_cases c32 : a0_1 < (t305.length : Int)
     ·rw [if_pos c32] at H
      have c32b0 : decide (a0_1 < (t305.length : Int)) = true := decide_eq_true c32
      clear c32
      obtain rfl := Option.some.inj H
      go_enter Tryd.func112, Tryd.ntmps112
      try go_wp2_with (first | ((with_reducible refine gate_dst (N := 2) rfl ?_); refine bxE 2 #[.int .i64 a0_0, .int .i64 a0_1, .int .i64 a0_2] 70 rfl ?_; intro gb293 hg w33 hbox hb; have BK293 := Aside0.mk (hbox); have GW293 := gS HB hg; have GE293 := gS HB hg; replace HB := hS HB hb; clear hb hbox hg) | ((with_reducible refine gate_dst (N := 3) rfl ?_); refine bxE 3 #[.int .i64 a1_0, .slice A1_1 l1_1.length c1_1] 33 rfl ?_; intro gb294 hg w34 hbox hb; have BK294 := Aside0.mk (hbox); have GW294 := gS HB hg; have GE294 := gS HB hg; have NB293_294 := nL BK293 hg; have NB294_293 := nG BK293 hg; replace BK293 := bS BK293 hb; replace HB := hS HB hb; clear hb hbox hg; have hnb35 := NB293_294.out; have hnc35 := NB294_293.out; have hcz36_0 := cz BK293 0; have hcz36_1 := cz BK293 1; have hcz36_2 := cz BK293 2; have hfz36_0 := fz BK293 0; have hfz36_1 := fz BK293 1; have hfz36_2 := fz BK293 2))
      replace BK293 := Aside0.mk (blk_drew BK293.out)
      replace BK294 := Aside0.mk (blk_drew BK294.out)
      replace HB := Aside0.mk (below_drew1 HB.out)
      refine start_ (n := 10) (S := fun w' => w'.cell? ⟨gb294, 0, none⟩ = some (.int .i64 a1_0) ∧ w'.cell? ⟨gb294, 1, none⟩ = some (.slice A1_1 l1_1.length c1_1) ∧ w'.cell? ⟨gb293, 0, none⟩ = some (.int .i64 a0_0) ∧ w'.cell? ⟨gb293, 1, none⟩ = some (.int .i64 a0_1) ∧ w'.cell? ⟨gb293, 2, none⟩ = some (.int .i64 a0_2)) (ds := []) (bz 10 0) (by kernel_rfl) rfl rfl ⟨(blk_cell BK294.out 0).trans rfl, (blk_cell BK294.out 1).trans rfl, (blk_cell BK293.out 0).trans rfl, (blk_cell BK293.out 1).trans rfl, (blk_cell BK293.out 2).trans rfl⟩ (fun hHeld => ?_); refine with_tabW spec_pzFits.tab7 spec_pzFits.bits7 (fun HT_ HW_ => ?_)
      generalize w34.drew = w37 at BK293 BK294 HB hHeld ⊢
      refine run_ [(0, 2, 4, some 36), (0, 6, 68, some 40), (1, 0, 69, some 34), (1, 3, 77, some 37), (1, 7, 205, some 41)] ?_
      repeat (first | (apply tag0; refine run_p (v := ?_) (a' := ?_) rfl rfl (any_of HT_.out (by kernel_rfl)) (fun _ _ _ h => h) (by rfl) ?_ ?_ ?_; rotate_left 2; (intro w'; go_simp; with_reducible rfl); (first | (simp only [Act.put, List.setIfInBounds_toArray, List.set_cons_zero, List.set_cons_succ, i64_w, i32_w]; rfl) | rfl)) | (apply tag1; refine run_t (v := ?_) (a' := ?_) rfl rfl (take_ofW HT_.out HW_.out (by kernel_rfl)) (fun _ _ _ h => h) (by rfl) ?_ hHeld ?_ ?_; rotate_left 2; (rintro w' ⟨s0, s1, s2, s3, s4⟩; go_simp; with_reducible rfl); (first | (simp only [Act.put, List.setIfInBounds_toArray, List.set_cons_zero, List.set_cons_succ, i64_w, i32_w]; rfl) | rfl)))
      refine run_nil ?_
      refine one_ (i := 1) (N := some 35) (bz 10 207) rfl rfl (one_of HT_.out (by kernel_rfl)) (by decide) (fun K hK => ?_)
      refine goes_ Tryd.func55 (by kernel_rfl) rfl #[.agg #[.int .i64 a1_0, .slice A1_1 l1_1.length c1_1]] (by rfl) rfl rfl mapT ?_
      with_reducible refine (spec_paNumbers.calls k a1_0 _ _ l1_1 t305 _ ?side1 ?side2 A30.out).mono ?_
      (case side1 => exact cS (Kd.C_below HR1_1.out HB.out))
      (case side2 => exact HC1_1.out)
      rintro e w38 ⟨v306, rfl, ho0, hb⟩
      refine ⟨_, rfl, ?_⟩
      have HO307 := Aside0.mk (Kd.R_lower ho0 (below_size hB))
      replace BK293 := bS BK293 hb
      replace BK294 := bS BK294 hb
      replace HB := hS HB hb
      (try clear hb)
      (try clear hb2)
      (try clear hk)
      (try clear hi)
      (try clear ho0)
      obtain ⟨Ao39, co39, eo39⟩ := Kd.R_slice HO307.out
      (first | subst eo39 | (injection eo39 with f1_ f2_ f3_; have f4_ := f1_.symm; have f5_ := f3_.symm; clear f1_ f2_ f3_; subst f4_; subst f5_))
      have p308 : 0 ≤ (a0_1 : Int) := of_decide_eq_true (by first | (with_reducible assumption) | assumption)
      have q308 : a0_1 < (t305.length : Int) := of_decide_eq_true (by first | (with_reducible assumption) | assumption)
      obtain ⟨ad308, e308, hx308_0⟩ := Kd.at_int (Kd.R_reads' HO307.out).2.2 a0_1 p308 q308
      cases e308
      replace p308 := eq_true p308
      replace q308 := eq_true q308
      refine hK.out _ _ ⟨(blk_cell BK294.out 0).trans rfl, (blk_cell BK294.out 1).trans rfl, (blk_cell BK293.out 0).trans rfl, (blk_cell BK293.out 1).trans rfl, (blk_cell BK293.out 2).trans rfl⟩ (fun hHeld => ?_)
      have hHeld2 : (fun w' : World => w'.cell? ⟨gb294, 0, none⟩ = some (.int .i64 a1_0) ∧ w'.cell? ⟨gb294, 1, none⟩ = some (.slice A1_1 l1_1.length c1_1) ∧ w'.cell? ⟨gb293, 0, none⟩ = some (.int .i64 a0_0) ∧ w'.cell? ⟨gb293, 1, none⟩ = some (.int .i64 a0_1) ∧ w'.cell? ⟨gb293, 2, none⟩ = some (.int .i64 a0_2) ∧ w'.cell? (ad308.add (a0_1).toNat) = some (.int .i64 (rd t305 a0_1))) _ := ⟨(blk_cell BK294.out 0).trans rfl, (blk_cell BK294.out 1).trans rfl, (blk_cell BK293.out 0).trans rfl, (blk_cell BK293.out 1).trans rfl, (blk_cell BK293.out 2).trans rfl, hx308_0⟩
      refine more_ (fun w' : World => w'.cell? ⟨gb294, 0, none⟩ = some (.int .i64 a1_0) ∧ w'.cell? ⟨gb294, 1, none⟩ = some (.slice A1_1 l1_1.length c1_1) ∧ w'.cell? ⟨gb293, 0, none⟩ = some (.int .i64 a0_0) ∧ w'.cell? ⟨gb293, 1, none⟩ = some (.int .i64 a0_1) ∧ w'.cell? ⟨gb293, 2, none⟩ = some (.int .i64 a0_2) ∧ w'.cell? (ad308.add (a0_1).toNat) = some (.int .i64 (rd t305 a0_1))) (fun _ ⟨s0, s1, s2, s3, s4, s5⟩ => ⟨s0, s1, s2, s3, s4⟩) _ _ _ _ hHeld2 ?_
      clear hHeld
      have hHeld := hHeld2
      clear hHeld2
      clear hK K
      refine norm_ (a' := ?_) ?_ ?_
      rotate_left
      ·show Act.put _ (some 35) _ = _
       simp only [Act.put, List.setIfInBounds_toArray, List.set_cons_zero, List.set_cons_succ, i64_w, i32_w]
       rfl
      refine run_ [(0, 4, 223, some 38), (1, 5, 255, some 39), (0, 8, 511, some 42), (0, 9, 1023, some 4)] ?_
      repeat (first | (apply tag0; refine run_p (v := ?_) (a' := ?_) rfl rfl (any_of HT_.out (by kernel_rfl)) (fun _ _ _ h => h) (by rfl) ?_ ?_ ?_; rotate_left 2; (intro w'; go_simp; with_reducible rfl); (first | (simp only [Act.put, List.setIfInBounds_toArray, List.set_cons_zero, List.set_cons_succ, i64_w, i32_w]; rfl) | rfl)) | (apply tag1; refine run_t (v := ?_) (a' := ?_) rfl rfl (take_ofW HT_.out HW_.out (by kernel_rfl)) (fun _ _ _ h => h) (by rfl) ?_ hHeld ?_ ?_; rotate_left 2; (rintro w' ⟨s0, s1, s2, s3, s4, s5⟩; go_simp; with_reducible rfl); (first | (simp only [Act.put, List.setIfInBounds_toArray, List.set_cons_zero, List.set_cons_succ, i64_w, i32_w]; rfl) | rfl)))
      refine run_nil ?_
      refine done_ (done_of HT_.out (by kernel_rfl)) ?_
      try go_wp2
      go_ret
      exact ⟨by first | rfl | (simp [errW_none, errW_some] <;> rfl) | (simp [*, errW_none, errW_some] <;> rfl), hB⟩
     ·rw [if_neg c32] at H
      exact absurd H (by simp)
    ·rw [if_neg c31] at H
     exact absurd H (by simp)
   ·rw [if_neg c29] at H
    have c29b0 : (a0_0 == 2) = false := beq_eq_false_iff_ne.mpr c29
    have c29b1 : (a0_0 != 2) = true := bne_iff_ne.mpr c29
    by_cases c40 : a0_0 = 3
    ·rw [if_pos c40] at H
     have c40b0 : (a0_0 == 3) = true := beq_iff_eq.mpr c40
     have c40b1 : (a0_0 != 3) = false := bne_eq_false_iff_eq.mpr c40
     clear c40
     obtain rfl := Option.some.inj H
     go_enter Tryd.func112, Tryd.ntmps112
     go_wp2_with (first | ((with_reducible refine gate_dst (N := 2) rfl ?_); refine bxE 2 #[.int .i64 a0_0, .int .i64 a0_1, .int .i64 a0_2] 70 rfl ?_; intro gb293 hg w41 hbox hb; have BK293 := Aside0.mk (hbox); have GW293 := gS HB hg; have GE293 := gS HB hg; replace HB := hS HB hb; clear hb hbox hg) | ((with_reducible refine gate_dst (N := 3) rfl ?_); refine bxE 3 #[.int .i64 a1_0, .slice A1_1 l1_1.length c1_1] 33 rfl ?_; intro gb294 hg w42 hbox hb; have BK294 := Aside0.mk (hbox); have GW294 := gS HB hg; have GE294 := gS HB hg; have NB293_294 := nL BK293 hg; have NB294_293 := nG BK293 hg; replace BK293 := bS BK293 hb; replace HB := hS HB hb; clear hb hbox hg; have hnb43 := NB293_294.out; have hnc43 := NB294_293.out; have hcz44_0 := cz BK293 0; have hcz44_1 := cz BK293 1; have hcz44_2 := cz BK293 2; have hfz44_0 := fz BK293 0; have hfz44_1 := fz BK293 1; have hfz44_2 := fz BK293 2; have hcz45_0 := cz BK294 0; have hcz45_1 := cz BK294 1; have hfz45_0 := fz BK294 0; have hfz45_1 := fz BK294 1))
     go_ret
     exact ⟨by first | rfl | (simp [errW_none, errW_some] <;> rfl) | (simp [*, errW_none, errW_some] <;> rfl), hB⟩
    ·rw [if_neg c40] at H
     have c40b0 : (a0_0 == 3) = false := beq_eq_false_iff_ne.mpr c40
     have c40b1 : (a0_0 != 3) = true := bne_iff_ne.mpr c40
     by_cases c46 : a0_0 = 4
     ·rw [if_pos c46] at H
      have c46b0 : (a0_0 == 4) = true := beq_iff_eq.mpr c46
      have c46b1 : (a0_0 != 4) = false := bne_eq_false_iff_eq.mpr c46
      clear c46
      replace H := Option.bind_eq_some_iff.mp H
      obtain ⟨t309, A470, H⟩ := H
      replace H : (some (t309 == a0_1)) = some r := H
      have A47 := Aside0.mk A470
      clear A470
      obtain rfl := Option.some.inj H
      go_enter Tryd.func112, Tryd.ntmps112
      try go_wp2_with (first | ((with_reducible refine gate_dst (N := 2) rfl ?_); refine bxE 2 #[.int .i64 a0_0, .int .i64 a0_1, .int .i64 a0_2] 70 rfl ?_; intro gb293 hg w48 hbox hb; have BK293 := Aside0.mk (hbox); have GW293 := gS HB hg; have GE293 := gS HB hg; replace HB := hS HB hb; clear hb hbox hg) | ((with_reducible refine gate_dst (N := 3) rfl ?_); refine bxE 3 #[.int .i64 a1_0, .slice A1_1 l1_1.length c1_1] 33 rfl ?_; intro gb294 hg w49 hbox hb; have BK294 := Aside0.mk (hbox); have GW294 := gS HB hg; have GE294 := gS HB hg; have NB293_294 := nL BK293 hg; have NB294_293 := nG BK293 hg; replace BK293 := bS BK293 hb; replace HB := hS HB hb; clear hb hbox hg; have hnb50 := NB293_294.out; have hnc50 := NB294_293.out; have hcz51_0 := cz BK293 0; have hcz51_1 := cz BK293 1; have hcz51_2 := cz BK293 2; have hfz51_0 := fz BK293 0; have hfz51_1 := fz BK293 1; have hfz51_2 := fz BK293 2))
      replace BK293 := Aside0.mk (blk_drew BK293.out)
      replace BK294 := Aside0.mk (blk_drew BK294.out)
      replace HB := Aside0.mk (below_drew1 HB.out)
      refine start_ (n := 6) (S := fun w' => w'.cell? ⟨gb294, 0, none⟩ = some (.int .i64 a1_0) ∧ w'.cell? ⟨gb294, 1, none⟩ = some (.slice A1_1 l1_1.length c1_1) ∧ w'.cell? ⟨gb293, 0, none⟩ = some (.int .i64 a0_0) ∧ w'.cell? ⟨gb293, 1, none⟩ = some (.int .i64 a0_1) ∧ w'.cell? ⟨gb293, 2, none⟩ = some (.int .i64 a0_2)) (ds := []) (bz 6 0) (by kernel_rfl) rfl rfl ⟨(blk_cell BK294.out 0).trans rfl, (blk_cell BK294.out 1).trans rfl, (blk_cell BK293.out 0).trans rfl, (blk_cell BK293.out 1).trans rfl, (blk_cell BK293.out 2).trans rfl⟩ (fun hHeld => ?_)
      generalize w49.drew = w52 at BK293 BK294 HB hHeld ⊢
      refine run_ [(0, 2, 4, some 55), (1, 0, 5, some 53), (1, 3, 13, some 56)] ?_
      repeat (first | (apply tag0; refine run_p (v := ?_) (a' := ?_) rfl rfl (by kernel_rfl) (fun _ _ _ h => h) (by rfl) ?_ ?_ ?_; rotate_left 2; (intro w'; go_simp; with_reducible rfl); (first | (simp only [Act.put, List.setIfInBounds_toArray, List.set_cons_zero, List.set_cons_succ, i64_w, i32_w]; rfl) | rfl)) | (apply tag1; refine run_t (v := ?_) (a' := ?_) rfl rfl (by kernel_rfl) (fun _ _ _ h => h) (by rfl) ?_ hHeld ?_ ?_; rotate_left 2; (rintro w' ⟨s0, s1, s2, s3, s4⟩; go_simp; with_reducible rfl); (first | (simp only [Act.put, List.setIfInBounds_toArray, List.set_cons_zero, List.set_cons_succ, i64_w, i32_w]; rfl) | rfl)))
      refine run_nil ?_
      refine one_ (i := 1) (N := some 54) (bz 6 15) rfl rfl (by kernel_rfl) (by decide) (fun K hK => ?_)
      refine goes_ Tryd.func56 (by kernel_rfl) rfl #[.agg #[.int .i64 a1_0, .slice A1_1 l1_1.length c1_1]] (by rfl) rfl rfl mapT ?_
      with_reducible refine (spec_pzThrees.calls k a1_0 _ _ l1_1 t309 _ ?side1 ?side2 A47.out).mono ?_
      (case side1 => exact cS (Kd.C_below HR1_1.out HB.out))
      (case side2 => exact HC1_1.out)
      rintro e w53 ⟨rfl, hb⟩
      refine ⟨_, rfl, ?_⟩
      replace BK293 := bS BK293 hb
      replace BK294 := bS BK294 hb
      replace HB := hS HB hb
      (try clear hb)
      (try clear hb2)
      (try clear hk)
      (try clear hi)
      refine hK.out _ _ ⟨(blk_cell BK294.out 0).trans rfl, (blk_cell BK294.out 1).trans rfl, (blk_cell BK293.out 0).trans rfl, (blk_cell BK293.out 1).trans rfl, (blk_cell BK293.out 2).trans rfl⟩ (fun hHeld => ?_)
      clear hK K
      refine norm_ (a' := ?_) ?_ ?_
      rotate_left
      ·show Act.put _ (some 54) _ = _
       simp only [Act.put, List.setIfInBounds_toArray, List.set_cons_zero, List.set_cons_succ, i64_w, i32_w]
       rfl
      refine run_ [(0, 4, 31, some 57), (0, 5, 63, some 4)] ?_
      repeat ((apply tag0; refine run_p (v := ?_) (a' := ?_) rfl rfl (by kernel_rfl) (fun _ _ _ h => h) (by rfl) ?_ ?_ ?_; rotate_left 2; (intro w'; go_simp; with_reducible rfl); (first | (simp only [Act.put, List.setIfInBounds_toArray, List.set_cons_zero, List.set_cons_succ, i64_w, i32_w]; rfl) | rfl)))
      refine run_nil ?_
      refine done_ (by kernel_rfl) ?_
      try go_wp2
      go_ret
      exact ⟨by first | rfl | (simp [errW_none, errW_some] <;> rfl) | (simp [*, errW_none, errW_some] <;> rfl), hB⟩
     ·rw [if_neg c46] at H
      have c46b0 : (a0_0 == 4) = false := beq_eq_false_iff_ne.mpr c46
      have c46b1 : (a0_0 != 4) = true := bne_iff_ne.mpr c46
      replace H := Option.bind_eq_some_iff.mp H
      obtain ⟨t310, A540, H⟩ := H
      try dsimp only at H
      have A54 := Aside0.mk A540
      clear A540
      obtain rfl := Option.some.inj H
      go_enter Tryd.func112, Tryd.ntmps112
      try go_wp2_with (first | ((with_reducible refine gate_dst (N := 2) rfl ?_); refine bxE 2 #[.int .i64 a0_0, .int .i64 a0_1, .int .i64 a0_2] 70 rfl ?_; intro gb293 hg w55 hbox hb; have BK293 := Aside0.mk (hbox); have GW293 := gS HB hg; have GE293 := gS HB hg; replace HB := hS HB hb; clear hb hbox hg) | ((with_reducible refine gate_dst (N := 3) rfl ?_); refine bxE 3 #[.int .i64 a1_0, .slice A1_1 l1_1.length c1_1] 33 rfl ?_; intro gb294 hg w56 hbox hb; have BK294 := Aside0.mk (hbox); have GW294 := gS HB hg; have GE294 := gS HB hg; have NB293_294 := nL BK293 hg; have NB294_293 := nG BK293 hg; replace BK293 := bS BK293 hb; replace HB := hS HB hb; clear hb hbox hg; have hnb57 := NB293_294.out; have hnc57 := NB294_293.out; have hcz58_0 := cz BK293 0; have hcz58_1 := cz BK293 1; have hcz58_2 := cz BK293 2; have hfz58_0 := fz BK293 0; have hfz58_1 := fz BK293 1; have hfz58_2 := fz BK293 2))
      replace BK293 := Aside0.mk (blk_drew BK293.out)
      replace BK294 := Aside0.mk (blk_drew BK294.out)
      replace HB := Aside0.mk (below_drew1 HB.out)
      refine start_ (n := 7) (S := fun w' => w'.cell? ⟨gb294, 0, none⟩ = some (.int .i64 a1_0) ∧ w'.cell? ⟨gb294, 1, none⟩ = some (.slice A1_1 l1_1.length c1_1) ∧ w'.cell? ⟨gb293, 0, none⟩ = some (.int .i64 a0_0) ∧ w'.cell? ⟨gb293, 1, none⟩ = some (.int .i64 a0_1) ∧ w'.cell? ⟨gb293, 2, none⟩ = some (.int .i64 a0_2)) (ds := []) (bz 7 0) (by kernel_rfl) rfl rfl ⟨(blk_cell BK294.out 0).trans rfl, (blk_cell BK294.out 1).trans rfl, (blk_cell BK293.out 0).trans rfl, (blk_cell BK293.out 1).trans rfl, (blk_cell BK293.out 2).trans rfl⟩ (fun hHeld => ?_)
      generalize w56.drew = w59 at BK293 BK294 HB hHeld ⊢
      refine run_ [(0, 3, 8, some 61), (1, 0, 9, some 58), (1, 4, 25, some 62)] ?_
      repeat (first | (apply tag0; refine run_p (v := ?_) (a' := ?_) rfl rfl (by kernel_rfl) (fun _ _ _ h => h) (by rfl) ?_ ?_ ?_; rotate_left 2; (intro w'; go_simp; with_reducible rfl); (first | (simp only [Act.put, List.setIfInBounds_toArray, List.set_cons_zero, List.set_cons_succ, i64_w, i32_w]; rfl) | rfl)) | (apply tag1; refine run_t (v := ?_) (a' := ?_) rfl rfl (by kernel_rfl) (fun _ _ _ h => h) (by rfl) ?_ hHeld ?_ ?_; rotate_left 2; (rintro w' ⟨s0, s1, s2, s3, s4⟩; go_simp; with_reducible rfl); (first | (simp only [Act.put, List.setIfInBounds_toArray, List.set_cons_zero, List.set_cons_succ, i64_w, i32_w]; rfl) | rfl)))
      refine run_nil ?_
      refine one_ (i := 1) (N := some 59) (bz 7 27) rfl rfl (by kernel_rfl) (by decide) (fun K hK => ?_)
      refine goes_ Tryd.func57 (by kernel_rfl) rfl #[.agg #[.int .i64 a1_0, .slice A1_1 l1_1.length c1_1]] (by rfl) rfl rfl mapT ?_
      with_reducible refine (spec_paParts.calls k a1_0 _ _ l1_1 t310 _ ?side1 ?side2 A54.out).mono ?_
      (case side1 => exact cS (Kd.C_below HR1_1.out HB.out))
      (case side2 => exact HC1_1.out)
      rintro e w60 ⟨v311, rfl, ho0, hb⟩
      refine ⟨_, rfl, ?_⟩
      have HO312 := Aside0.mk (Kd.S_lower ho0 (below_size hB))
      replace BK293 := bS BK293 hb
      replace BK294 := bS BK294 hb
      replace HB := hS HB hb
      (try clear hb)
      (try clear hb2)
      (try clear hk)
      (try clear hi)
      (try clear ho0)
      obtain ⟨Ao61, co61, eo61⟩ := Kd.S_slice HO312.out
      (first | subst eo61 | (injection eo61 with f1_ f2_ f3_; have f4_ := f1_.symm; have f5_ := f3_.symm; clear f1_ f2_ f3_; subst f4_; subst f5_))
      refine hK.out _ _ ⟨(blk_cell BK294.out 0).trans rfl, (blk_cell BK294.out 1).trans rfl, (blk_cell BK293.out 0).trans rfl, (blk_cell BK293.out 1).trans rfl, (blk_cell BK293.out 2).trans rfl⟩ (fun hHeld => ?_)
      clear hK K
      refine norm_ (a' := ?_) ?_ ?_
      rotate_left
      ·show Act.put _ (some 59) _ = _
       simp only [Act.put, List.setIfInBounds_toArray, List.set_cons_zero, List.set_cons_succ, i64_w, i32_w]
       rfl
      refine run_ [(0, 2, 31, some 60), (0, 5, 63, some 63), (0, 6, 127, some 4)] ?_
      repeat ((apply tag0; refine run_p (v := ?_) (a' := ?_) rfl rfl (by kernel_rfl) (fun _ _ _ h => h) (by rfl) ?_ ?_ ?_; rotate_left 2; (intro w'; go_simp; with_reducible rfl); (first | (simp only [Act.put, List.setIfInBounds_toArray, List.set_cons_zero, List.set_cons_succ, i64_w, i32_w]; rfl) | rfl)))
      refine run_nil ?_
      refine done_ (by kernel_rfl) ?_
      try go_wp2
      go_ret
      exact ⟨by first | rfl | (simp [errW_none, errW_some] <;> rfl) | (simp [*, errW_none, errW_some] <;> rfl), hB⟩

/-! ### spec_pzAll: function 71 (a text of this session's own) -/

mutual
def spec_pzAll.l0 : Nat → List S70 → List S33 → List S33 → Int → Option (List S33)
 | 0, _, _, _, _ => none
 | k + 1, cs, L, xs, i => if i < (L.length : Int) then (if 0 ≤ i then spec_pzAll.l1 k cs L xs i true 0 else none) else some xs
def spec_pzAll.l1 : Nat → List S70 → List S33 → List S33 → Int → Bool → Int → Option (List S33)
 | 0, _, _, _, _, _, _ => none
 | k + 1, cs, L, xs, i, fb, j => if j < (cs.length : Int) then (if 0 ≤ j then (if fb = true then ((spec_pzFits.f k (rd_T70 cs j).f0 (rd_T70 cs j).f1 (rd_T70 cs j).f2 (rd_T33 L i).f0 (rd_T33 L i).f1).bind fun b => spec_pzAll.l1 k cs L xs i b (wrap64 (j + 1))) else spec_pzAll.l1 k cs L xs i false (wrap64 (j + 1))) else none) else (if fb = true then (if xs.length < 4398046511104 then spec_pzAll.l0 k cs L (xs ++ [rd_T33 L i]) (wrap64 (i + 1)) else none) else spec_pzAll.l0 k cs L xs (wrap64 (i + 1)))
end
theorem spec_pzAll.mono_l : ∀ k, (∀ y0 y1 y2 y3, LeO (spec_pzAll.l0 k y0 y1 y2 y3) (spec_pzAll.l0 (k + 1) y0 y1 y2 y3)) ∧ (∀ y0 y1 y2 y3 y4 y5, LeO (spec_pzAll.l1 k y0 y1 y2 y3 y4 y5) (spec_pzAll.l1 (k + 1) y0 y1 y2 y3 y4 y5))
 | 0 => ⟨fun _ _ _ _ r h => by simp [spec_pzAll.l0] at h, fun _ _ _ _ _ _ r h => by simp [spec_pzAll.l1] at h⟩
 | k + 1 => by
  obtain ⟨ih0, ih1⟩ := spec_pzAll.mono_l k
  refine ⟨?_, ?_⟩
  · intro y0 y1 y2 y3
    unfold spec_pzAll.l0
    repeat' first
      | (with_reducible exact ih0 _ _ _ _)
      | (with_reducible exact ih1 _ _ _ _ _ _)
      | (with_reducible exact LeO.refl _)
      | (with_reducible exact LeO.none _)
      | (with_reducible refine LeO.ite ?_ ?_)
  · intro y0 y1 y2 y3 y4 y5
    unfold spec_pzAll.l1
    repeat' first
      | (with_reducible exact ih0 _ _ _ _)
      | (with_reducible exact ih1 _ _ _ _ _ _)
      | (with_reducible exact spec_pzFits.mono _ _ _ _ _ _)
      | (with_reducible exact LeO.refl _)
      | (with_reducible exact LeO.none _)
      | (with_reducible refine LeO.ite ?_ ?_)
      | (with_reducible refine LeO.bind ?_ (fun _ => ?_))
def spec_pzAll.f (k : Nat) (a0 : Int) (l1 : List S70) : Option (List S33) := (spec_pzParties.f k a0).bind fun L => spec_pzAll.l0 k l1 L [] 0
theorem spec_pzAll.mono : ∀ a0 a1 k, LeO (spec_pzAll.f k a0 a1) (spec_pzAll.f (k + 1) a0 a1) := fun a0 a1 k => LeO.bind (spec_pzParties.mono _ _) (fun _ => (spec_pzAll.mono_l k).1 _ _ _ _)
set_option maxHeartbeats 8000000 in
set_option maxRecDepth 100000 in
theorem spec_pzAll.calls (k : Nat) (a0 : Int) (A1 : Option Addr) (c1 : Nat) (l1 : List S70) (r : List S33) (w : World) (hr1 : Kd.C k70 w A1 l1.length l1) (hc1 : l1.length ≤ c1) (h : spec_pzAll.f k a0 l1 = some r) :
    Calls Tryd.prog 71 #[.int .i64 a0, .slice A1 l1.length c1] w fun e w' => ∃ v0_ : Value, e = .returned (v0_) ∧ Kd.N k33 33 w' w.heap.size (fun k_ => (w.heap.size ≤ k_)) v0_ r ∧ Below w.heap.size w w' := by
  have hu := Tryd.underlying33
  have hu2 := Tryd.underlying70
  unfold spec_pzAll.f at h
  replace h := Option.bind_eq_some_iff.mp h
  obtain ⟨L, hL, h⟩ := h
  have HL := Aside0.mk hL
  have HH := Aside0.mk h
  have HR := Aside0.mk hr1
  clear hL h hr1
  go_enter Tryd.func71, Tryd.ntmps71
  go_wp2_with (go_at_call 111; refine (spec_pzParties.calls k a0 L _ HL.out).mono ?_; rintro e w1 ⟨v1, rfl, ho, hb⟩; have HO1 := Aside0.mk ho; have HB1 := Aside0.mk hb; clear ho hb; obtain ⟨AL, cL, rfl⟩ := Kd.N_slice HO1.out)
  go_loopg [5, 14] k (fun kq v5 v14 w' => ∃ (xs : List S33) (i : Int), v14 = .int .i64 i ∧ Aside0 (spec_pzAll.l0 kq l1 L xs i = some r) ∧ Aside0 (kq ≤ k) ∧ Aside0 (Kd.N k33 33 w' w.heap.size (fun k_ => w.heap.size ≤ k_) v5 xs) ∧ Aside0 (Kd.F k33 w' (fun k_ => w.heap.size ≤ k_ ∧ some k_ ≠ v5.ownBlock) AL L.length L) ∧ Aside0 (Below w.heap.size w w'))
  case atStart => exact ⟨[], 0, rfl, HH, ⟨Nat.le_refl _⟩, ⟨Kd.N_nil _ _ _ _ _⟩, ⟨Kd.F_mono (Kd.N_F HO1.out) (fun k_ hk => ⟨hk, by simp [Value.ownBlock]⟩)⟩, HB1⟩
  case round =>
    clear HO1 HB1 HH
    obtain ⟨xs, i, rfl, HA, HK1, HN5, HF5, HB⟩ := hrel
    cases gk with
    | zero => exact absurd HA.out (by simp [spec_pzAll.l0])
    | succ k1 =>
      have H := HA.out
      clear HA
      simp only [spec_pzAll.l0] at H
      by_cases c1_ : i < (L.length : Int)
      · rw [if_pos c1_] at H
        have c1b : decide (i < (L.length : Int)) = true := decide_eq_true c1_
        by_cases c2_ : 0 ≤ i
        · rw [if_pos c2_] at H
          have HI := Aside0.mk H
          clear H
          obtain ⟨ad, ce, eAL, hcl, hFK, hcc, _⟩ := Kd.F_get HF5.out z33 i c2_ c1_
          subst eAL
          obtain ⟨Ap, cp, rfl, hlp, hFp⟩ := k33_openF hFK
          have hx0 : wr.cell? (ad.add (i.toNat * 2)) = some (.int .i64 (rd_T33 L i).f0) := hcc 0 _ rfl
          have hx1 : wr.cell? ⟨(ad.add (i.toNat * 2)).block, (ad.add (i.toNat * 2)).off + 1, none⟩ = some (.slice Ap (rd_T33 L i).f1.length cp) := by
            rw [← add_field _ _ 1 (by omega)]
            exact hcc 1 _ rfl
          have HLP := Aside0.mk (show (rd_T33 L i).f1.length ≤ cp from hlp)
          have HFP := Aside0.mk (show Kd.F k105 wr (fun k_ => w.heap.size ≤ k_ ∧ some k_ ≠ u5.ownBlock) Ap (rd_T33 L i).f1.length (rd_T33 L i).f1 from hFp)
          clear hcc hcl hFK hlp hFp
          go_wp2_with (((with_reducible refine gate_dst (N := 7) rfl ?_); refine box_event ?hg (N := 7) ?hd (cs := #[.int .i64 0, .slice none 0 0]) (t := 33) ?hr ?_; (case hd => rfl); (case hg => rfl); (case hr => first | (go_simp; done) | (go_simp; rfl)); intro gp hg w3 hbox hb; have GP := Aside0.mk hg; have BKp := Aside0.mk hbox; have B3 := Aside0.mk hb; have hz0 : w3.cell? ⟨gp, 0, none⟩ = some (.int .i64 0) := (blk_cell hbox 0).trans rfl; have hz1 : w3.cell? ⟨gp, 1, none⟩ = some (.slice none 0 0) := (blk_cell hbox 1).trans rfl; have hq0 := blk_frozen hbox 0; have hq1 := blk_frozen hbox 1; clear hg hbox hb hx0 hx1))
          have hgp : w.heap.size ≤ gp := by rw [GP.out]; exact HB.out.size
          have HN4 := Aside0.mk (Kd.N_mono (ok' := fun k_ => w.heap.size ≤ k_) (Kd.N_far (p := ⟨gp, 1, none⟩) (Kd.N_far (p := ⟨gp, 0, none⟩) (Kd.N_below (Kd.N_mono (ok' := fun k_ => w.heap.size ≤ k_ ∧ k_ ≠ gp) (Kd.N_bound HN5.out) (fun k_ hk => ⟨hk.1, by have := GP.out; have := hk.2; omega⟩)) B3.out) (fun _ hk => hk.2) (.int .i64 (rd_T33 L i).f0)) (fun _ hk => hk.2) (.slice Ap (rd_T33 L i).f1.length cp)) (fun _ hk => hk.1))
          have HF4 := Aside0.mk (Kd.F_mono (ok' := fun k_ => w.heap.size ≤ k_ ∧ some k_ ≠ u5.ownBlock) (Kd.F_far (p := ⟨gp, 1, none⟩) (Kd.F_far (p := ⟨gp, 0, none⟩) (Kd.F_below (Kd.F_mono (ok' := fun k_ => (w.heap.size ≤ k_ ∧ some k_ ≠ u5.ownBlock) ∧ k_ ≠ gp) (Kd.F_bound HF5.out) (fun k_ hk => ⟨hk.1, by have := GP.out; have := hk.2; omega⟩)) B3.out) (fun _ hk => hk.2) (.int .i64 (rd_T33 L i).f0)) (fun _ hk => hk.2) (.slice Ap (rd_T33 L i).f1.length cp)) (fun _ hk => hk.1))
          have HFP4 := Aside0.mk (Kd.F_mono (ok' := fun k_ => w.heap.size ≤ k_ ∧ some k_ ≠ u5.ownBlock) (Kd.F_far (p := ⟨gp, 1, none⟩) (Kd.F_far (p := ⟨gp, 0, none⟩) (Kd.F_below (Kd.F_mono (ok' := fun k_ => (w.heap.size ≤ k_ ∧ some k_ ≠ u5.ownBlock) ∧ k_ ≠ gp) (Kd.F_bound HFP.out) (fun k_ hk => ⟨hk.1, by have := GP.out; have := hk.2; omega⟩)) B3.out) (fun _ hk => hk.2) (.int .i64 (rd_T33 L i).f0)) (fun _ hk => hk.2) (.slice Ap (rd_T33 L i).f1.length cp)) (fun _ hk => hk.1))
          have BK4 := Aside0.mk (blk_set (blk_set BKp.out 0 (.int .i64 (rd_T33 L i).f0)) 1 (.slice Ap (rd_T33 L i).f1.length cp))
          have HB4 := Aside0.mk (below_set (j := 1) (v := .slice Ap (rd_T33 L i).f1.length cp) (below_set (j := 0) (v := .int .i64 (rd_T33 L i).f0) (below_step HB.out B3.out) hgp) hgp)
          clear HN5 HF5 HFP BKp B3 HB hz0 hz1 hq0 hq1 GP
          generalize (w3.setCell ⟨gp, 0, none⟩ (.int .i64 (rd_T33 L i).f0)).setCell ⟨gp, 1, none⟩ (.slice Ap (rd_T33 L i).f1.length cp) = w4 at HN4 HF4 HFP4 BK4 HB4 ⊢
          go_loopg [8, 20] k1 (fun kq v8 v20 w' => ∃ (fb : Bool) (j : Int), v8 = .bool fb ∧ v20 = .int .i64 j ∧ Aside0 (spec_pzAll.l1 kq l1 L xs i fb j = some r) ∧ Aside0 (kq ≤ k1) ∧ Aside0 (Below w4.heap.size w4 w'))
          case atStart => exact ⟨true, 0, rfl, rfl, HI, ⟨Nat.le_refl _⟩, ⟨Below.refl _ _⟩⟩
          case round =>
            clear HI
            obtain ⟨fb, j, rfl, rfl, HA, HK2, HBi⟩ := hrel
            cases gk with
            | zero => exact absurd HA.out (by simp [spec_pzAll.l1])
            | succ k2 =>
              have H := HA.out
              clear HA
              simp only [spec_pzAll.l1] at H
              have hp0 : wr.cell? ⟨gp, 0, none⟩ = some (.int .i64 (rd_T33 L i).f0) := (blk_cell (blk_below BK4.out HBi.out) 0).trans rfl
              have hp1 : wr.cell? ⟨gp, 1, none⟩ = some (.slice Ap (rd_T33 L i).f1.length cp) := (blk_cell (blk_below BK4.out HBi.out) 1).trans rfl
              have hgl : gp < wr.heap.size := blk_lt (blk_below BK4.out HBi.out)
              have HBw := Aside0.mk (below_step HB4.out HBi.out)
              by_cases d1_ : j < (l1.length : Int)
              · rw [if_pos d1_] at H
                have d1b : decide (j < (l1.length : Int)) = true := decide_eq_true d1_
                by_cases d2_ : 0 ≤ j
                · rw [if_pos d2_] at H
                  obtain ⟨ac, eA1, hc0, hc1_, hc2⟩ := at_T70 (Kd.C_below HR.out HBw.out) j d2_ d1_
                  subst eA1
                  cases fb with
                  | true =>
                    rw [if_pos rfl] at H
                    replace H := Option.bind_eq_some_iff.mp H
                    obtain ⟨b, hb0, H⟩ := H
                    have HFT := Aside0.mk hb0
                    have HN := Aside0.mk H
                    clear hb0 H
                    go_wp2_with (first
                      | ((with_reducible refine gate_dst (N := 10) rfl ?_); refine box_event ?hg (N := 10) ?hd (cs := #[.int .i64 0, .int .i64 0, .int .i64 0]) (t := 70) ?hr ?_; (case hd => rfl); (case hg => rfl); (case hr => first | (go_simp; done) | (go_simp; rfl)); intro gc hg w5 hbox hb; have GC := Aside0.mk hg; have B5 := Aside0.mk hb; have hz0 : w5.cell? ⟨gc, 0, none⟩ = some (.int .i64 0) := (blk_cell hbox 0).trans rfl; have hz1 : w5.cell? ⟨gc, 1, none⟩ = some (.int .i64 0) := (blk_cell hbox 1).trans rfl; have hz2 : w5.cell? ⟨gc, 2, none⟩ = some (.int .i64 0) := (blk_cell hbox 2).trans rfl; have hq0 := blk_frozen hbox 0; have hq1 := blk_frozen hbox 1; have hq2 := blk_frozen hbox 2; have hy0 := pw_cell_below hb hp0; have hy1 := pw_cell_below hb hp1; have hn1 : gp ≠ gc := (by omega); have hn2 : gc ≠ gp := Ne.symm hn1; clear hg hbox hb hc0 hc1_ hc2 hp0 hp1)
                      | (go_at_call 112; refine (spec_pzFits.calls k2 _ _ _ _ Ap cp (rd_T33 L i).f1 b _ ?s1 HLP.out HFT.out).mono ?_; (case s1 => exact Kd.F_now (Kd.F_far (Kd.F_far (Kd.F_far (Kd.F_mono (Kd.F_below (Kd.F_bound (Kd.F_below HFP4.out HBi.out)) B5.out) (fun k_ hk => (show k_ ≠ gc from by have := GC.out; have := hk.2; omega))) (fun _ hk => hk) _) (fun _ hk => hk) _) (fun _ hk => hk) _)); rintro e w6 ⟨rfl, hb⟩; have B6 := Aside0.mk (below_step (below_set (below_set (below_set B5.out (Nat.le_of_eq GC.out.symm)) (Nat.le_of_eq GC.out.symm)) (Nat.le_of_eq GC.out.symm)) hb); clear hb))
                    go_roundg k2
                    case measure => omega
                    case rel => exact ⟨b, wrap64 (j + 1), by first | rfl | (simp; done), by first | rfl | (simp; done), HN, ⟨by have := HK2.out; omega⟩, ⟨below_step HBi.out B6.out⟩⟩
                  | false =>
                    rw [if_neg (by simp)] at H
                    have HN := Aside0.mk H
                    clear H
                    go_wp2_with (((with_reducible refine gate_dst (N := 10) rfl ?_); refine box_event ?hg (N := 10) ?hd (cs := #[.int .i64 0, .int .i64 0, .int .i64 0]) (t := 70) ?hr ?_; (case hd => rfl); (case hg => rfl); (case hr => first | (go_simp; done) | (go_simp; rfl)); intro gc hg w5 hbox hb; have GC := Aside0.mk hg; have B5 := Aside0.mk hb; have hz0 : w5.cell? ⟨gc, 0, none⟩ = some (.int .i64 0) := (blk_cell hbox 0).trans rfl; have hz1 : w5.cell? ⟨gc, 1, none⟩ = some (.int .i64 0) := (blk_cell hbox 1).trans rfl; have hz2 : w5.cell? ⟨gc, 2, none⟩ = some (.int .i64 0) := (blk_cell hbox 2).trans rfl; have hq0 := blk_frozen hbox 0; have hq1 := blk_frozen hbox 1; have hq2 := blk_frozen hbox 2; have hn1 : gp ≠ gc := (by omega); have hn2 : gc ≠ gp := Ne.symm hn1; clear hg hbox hb hc0 hc1_ hc2 hp0 hp1))
                    go_roundg k2
                    case measure => omega
                    case rel => exact ⟨false, wrap64 (j + 1), by first | rfl | (simp; done), by first | rfl | (simp; done), HN, ⟨by have := HK2.out; omega⟩, ⟨below_step HBi.out (below_set (below_set (below_set B5.out (Nat.le_of_eq GC.out.symm)) (Nat.le_of_eq GC.out.symm)) (Nat.le_of_eq GC.out.symm))⟩⟩
                · rw [if_neg d2_] at H; cases H
              · rw [if_neg d1_] at H
                have d1b : decide (j < (l1.length : Int)) = false := decide_eq_false d1_
                cases fb with
                | true =>
                  rw [if_pos rfl] at H
                  by_cases e1_ : xs.length < 4398046511104
                  · rw [if_pos e1_] at H
                    have LX := Aside0.mk e1_
                    have HN := Aside0.mk H
                    clear H e1_
                    go_wp2_with ((with_reducible refine gate_builtin (b := .append) (xs := #[.tmp 32, .tmp 34]) rfl ?_); at_builtin; refine Kd.N_append k33 (w0 := w) w.heap.size rfl (.tmp 32) (.tmp 34) 44 33 (.agg #[(.int .i64 0), (.slice none 0 0)]) 32 rfl Tryd.underlying44 info33 rfl (by decide) (by omega) u5 xs (rd_T33 L i) [.int .i64 (rd_T33 L i).f0, .slice Ap (rd_T33 L i).f1.length cp] (fun k_ => w.heap.size ≤ k_) (fun k_ => w.heap.size ≤ k_ ∧ some k_ ≠ u5.ownBlock) rfl rfl ?aP (fun _ hk => hk) ?aF ?aO ?aB ?aS ?aL ?_; (case aP => exact k33_mkF _ _ (rd_T33 L i) HLP.out (Kd.F_below HFP4.out HBi.out)); (case aF => exact fun k_ hk => Nat.le_trans (below_size HBw.out) hk); (case aO => exact Kd.N_below HN4.out HBi.out); (case aB => exact HBw.out); (case aS => exact below_size HBw.out); (case aL => have := LX.out; omega); intro v6 w6 ho hb hg hat; have HN6 := Aside0.mk ho; have HB6 := Aside0.mk hb; have HF6 := Aside0.mk (Kd.F_after (ok := fun k_ => w.heap.size ≤ k_) (Kd.F_below HF4.out HBi.out) hg hat); clear ho hb hg hat)
                    go_roundg k2
                    case measure => have := HK2.out; omega
                    case rel => exact ⟨xs ++ [rd_T33 L i], wrap64 (i + 1), by first | rfl | (simp; done), HN, ⟨by have := HK1.out; have := HK2.out; omega⟩, HN6, HF6, HB6⟩
                  · rw [if_neg e1_] at H; cases H
                | false =>
                  rw [if_neg (by simp)] at H
                  have HN := Aside0.mk H
                  clear H
                  go_wp2
                  go_roundg k2
                  case measure => have := HK2.out; omega
                  case rel => exact ⟨xs, wrap64 (i + 1), by first | rfl | (simp; done), HN, ⟨by have := HK1.out; have := HK2.out; omega⟩, ⟨Kd.N_below HN4.out HBi.out⟩, ⟨Kd.F_below HF4.out HBi.out⟩, HBw⟩
        · rw [if_neg c2_] at H; cases H
      · rw [if_neg c1_] at H
        have c1b : decide (i < (L.length : Int)) = false := decide_eq_false c1_
        clear c1_
        obtain rfl := Option.some.inj H
        go_wp2
        go_ret
        exact ⟨_, rfl, HN5.out, HB.out⟩

/-! ### spec_Solutions: function 22 -/
def spec_Solutions.f (k : Nat) (a0_0 : Int) (l0_1 : List (S70)) : Option ((List (S33)) × Bool) := (spec_pzGood.f k a0_0 l0_1).bind fun t314 => (if t314 = true then ((spec_pzAll.f k a0_0 l0_1).bind fun t315 => (if (t315.length : Int) > 200 then (some (([] : List (S33)), false)) else (some (t315, true)))) else (some (([] : List (S33)), false)))
theorem spec_Solutions.mono : ∀ a0 a1 k, LeO (spec_Solutions.f k a0 a1) (spec_Solutions.f (k + 1) a0 a1) := by
 intro a0 a1 k
 unfold spec_Solutions.f
 repeat' first
   | (with_reducible exact spec_pzAll.mono _ _ _)
   | (with_reducible exact spec_pzGood.mono _ _ _)
   | (with_reducible exact LeO.refl _)
   | (with_reducible exact LeO.none _)
   | (with_reducible refine LeO.ite ?_ ?_)
   | (with_reducible refine LeO.bind ?_ (fun _ => ?_))
   | exact spec_pzAll.mono _ _ _
   | exact spec_pzGood.mono _ _ _
   | exact LeO.none _
   | refine LeO.ite ?_ ?_
   | refine LeO.bind ?_ (fun _ => ?_)
set_option maxHeartbeats 8000000 in
set_option maxRecDepth 100000 in
theorem spec_Solutions.calls (k : Nat) (a0_0 : Int) (A0_1 : Option Addr) (c0_1 : Nat) (l0_1 : List (S70)) (r1 : List (S33)) (r2 : Bool) (w : World) (hr0_1 : Kd.C k70 w A0_1 l0_1.length l0_1) (hc0_1 : l0_1.length ≤ c0_1) (h : spec_Solutions.f k a0_0 l0_1 = some (r1, r2)) :
  Calls Tryd.prog 22 #[.agg #[.int .i64 a0_0, .slice A0_1 l0_1.length c0_1]] w fun e w' => ∃ v0_ : Value, e = .returned (.tuple #[v0_, .bool r2]) ∧ Kd.N k33 33 w' w.heap.size (fun k_ => (w.heap.size ≤ k_)) v0_ r1 ∧ Below w.heap.size w w' := by
 have hu28 := Tryd.underlying28
 have HR0_1 := Aside0.mk hr0_1
 have HC0_1 := Aside0.mk hc0_1
 clear hr0_1 hc0_1
 have HB := Aside0.mk (Below.refl w.heap.size w)
 have H : ((spec_pzGood.f k a0_0 l0_1).bind fun t314 => (if t314 = true then ((spec_pzAll.f k a0_0 l0_1).bind fun t315 => (if (t315.length : Int) > 200 then (some (([] : List (S33)), false)) else (some (t315, true)))) else (some (([] : List (S33)), false)))) = some (r1, r2) := h
 clear h
 replace H := Option.bind_eq_some_iff.mp H
 obtain ⟨t314, A20, H⟩ := H
 try dsimp only at H
 have A2 := Aside0.mk A20
 clear A20
 by_cases c3 : t314 = true
 ·subst c3
  rw [if_pos rfl] at H
  replace H := Option.bind_eq_some_iff.mp H
  obtain ⟨t315, A40, H⟩ := H
  try dsimp only at H
  have A4 := Aside0.mk A40
  clear A40
  by_cases c5 : (t315.length : Int) > 200
  ·rw [if_pos c5] at H
   have c5b0 : decide (200 < (t315.length : Int)) = true := decide_eq_true c5
   have c5b1 : decide (200 < t315.length) = true := decide_eq_true (by omega)
   clear c5
   simp only [Option.some.injEq, Prod.mk.injEq] at H
   obtain ⟨rfl, rfl⟩ := H
   go_enter Tryd.func22, Tryd.ntmps22
   go_wp2_with (first | ((with_reducible refine gate_dst (N := 1) rfl ?_); refine bxE 1 #[.int .i64 a0_0, .slice A0_1 l0_1.length c0_1] 28 rfl ?_; intro gb313 hg w6 hbox hb; have BK313 := Aside0.mk (hbox); have GW313 := gS HB hg; have GE313 := gS HB hg; replace HB := hS HB hb; clear hb hbox hg; have hcz7_0 := cz BK313 0; have hcz7_1 := cz BK313 1; have hfz7_0 := fz BK313 0; have hfz7_1 := fz BK313 1) | ((with_reducible refine gate_callee (f := 70) rfl ?_); refine goC (N := some 6) Tryd.func70 #[.agg #[.int .i64 a0_0, .slice A0_1 l0_1.length c0_1]] rfl ?_; (with_reducible refine (spec_pzGood.calls k a0_0 _ _ l0_1 true _ ?side1 ?side2 A2.out).mono ?_); (case side1 => exact cS (Kd.C_below HR0_1.out HB.out)); (case side2 => exact HC0_1.out); rintro e w8 ⟨rfl, hb⟩; refine ⟨_, rfl, ?_⟩; replace BK313 := bS BK313 hb; replace HB := hS HB hb; (try clear hb); (try clear hb2); (try clear hk); (try clear hi); have hcz9_0 := cz BK313 0; have hcz9_1 := cz BK313 1; have hfz9_0 := fz BK313 0; have hfz9_1 := fz BK313 1) | ((with_reducible refine gate_callee (f := 71) rfl ?_); refine goC (N := some 12) Tryd.func71 #[.int .i64 a0_0, .slice A0_1 l0_1.length c0_1] rfl ?_; (with_reducible refine (spec_pzAll.calls k a0_0 _ _ l0_1 t315 _ ?side1 ?side2 A4.out).mono ?_); (case side1 => exact cS (Kd.C_below HR0_1.out HB.out)); (case side2 => exact HC0_1.out); rintro e w10 ⟨v316, rfl, ho0, hb⟩; refine ⟨_, rfl, ?_⟩; have HO317 := Aside0.mk (Kd.N_lower (Kd.N_mono (ok' := fun k_ => (w.heap.size ≤ k_) ∧ k_ ≠ gb313) ho0 (fun k_ hk_ => ⟨(Nat.le_trans (below_size hB) hk_), (Kd.freshB (g := gb313) (o := .cells #[.int .i64 a0_0, .slice A0_1 l0_1.length c0_1] 28 (0, 0)) bK k_ hk_)⟩)) (below_size hB)); replace BK313 := bS BK313 hb; replace HB := hS HB hb; (try clear hb); (try clear hb2); (try clear hk); (try clear hi); (try clear ho0); obtain ⟨Ao11, co11, eo11⟩ := Kd.N_slice HO317.out; subst eo11))
   go_ret2
   exact ⟨_, by first | rfl | (simp [errW_none, errW_some] <;> rfl) | (simp [*, errW_none, errW_some] <;> rfl), by first | exact Kd.S_nil _ _ _ _ _ | exact Kd.N_nil _ _ _ _ _ | exact Kd.V_nil _ _ _ _ _ | exact Kd.Q_nil _ _ _ _ _ | exact Kd.R_nil _ _ _ _ _, hB⟩
  ·rw [if_neg c5] at H
   have c5b0 : decide (200 < (t315.length : Int)) = false := decide_eq_false c5
   have c5b1 : decide (200 < t315.length) = false := decide_eq_false (by omega)
   clear c5
   simp only [Option.some.injEq, Prod.mk.injEq] at H
   obtain ⟨rfl, rfl⟩ := H
   go_enter Tryd.func22, Tryd.ntmps22
   go_wp2_with (first | ((with_reducible refine gate_dst (N := 1) rfl ?_); refine bxE 1 #[.int .i64 a0_0, .slice A0_1 l0_1.length c0_1] 28 rfl ?_; intro gb313 hg w12 hbox hb; have BK313 := Aside0.mk (hbox); have GW313 := gS HB hg; have GE313 := gS HB hg; replace HB := hS HB hb; clear hb hbox hg; have hcz13_0 := cz BK313 0; have hcz13_1 := cz BK313 1; have hfz13_0 := fz BK313 0; have hfz13_1 := fz BK313 1) | ((with_reducible refine gate_callee (f := 70) rfl ?_); refine goC (N := some 6) Tryd.func70 #[.agg #[.int .i64 a0_0, .slice A0_1 l0_1.length c0_1]] rfl ?_; (with_reducible refine (spec_pzGood.calls k a0_0 _ _ l0_1 true _ ?side1 ?side2 A2.out).mono ?_); (case side1 => exact cS (Kd.C_below HR0_1.out HB.out)); (case side2 => exact HC0_1.out); rintro e w14 ⟨rfl, hb⟩; refine ⟨_, rfl, ?_⟩; replace BK313 := bS BK313 hb; replace HB := hS HB hb; (try clear hb); (try clear hb2); (try clear hk); (try clear hi); have hcz15_0 := cz BK313 0; have hcz15_1 := cz BK313 1; have hfz15_0 := fz BK313 0; have hfz15_1 := fz BK313 1) | ((with_reducible refine gate_callee (f := 71) rfl ?_); refine goC (N := some 12) Tryd.func71 #[.int .i64 a0_0, .slice A0_1 l0_1.length c0_1] rfl ?_; (with_reducible refine (spec_pzAll.calls k a0_0 _ _ l0_1 t315 _ ?side1 ?side2 A4.out).mono ?_); (case side1 => exact cS (Kd.C_below HR0_1.out HB.out)); (case side2 => exact HC0_1.out); rintro e w16 ⟨v316, rfl, ho0, hb⟩; refine ⟨_, rfl, ?_⟩; have HO317 := Aside0.mk (Kd.N_lower (Kd.N_mono (ok' := fun k_ => (w.heap.size ≤ k_) ∧ k_ ≠ gb313) ho0 (fun k_ hk_ => ⟨(Nat.le_trans (below_size hB) hk_), (Kd.freshB (g := gb313) (o := .cells #[.int .i64 a0_0, .slice A0_1 l0_1.length c0_1] 28 (0, 0)) bK k_ hk_)⟩)) (below_size hB)); replace BK313 := bS BK313 hb; replace HB := hS HB hb; (try clear hb); (try clear hb2); (try clear hk); (try clear hi); (try clear ho0); obtain ⟨Ao17, co17, eo17⟩ := Kd.N_slice HO317.out; subst eo17))
   go_ret2
   exact ⟨_, by first | rfl | (simp [errW_none, errW_some] <;> rfl) | (simp [*, errW_none, errW_some] <;> rfl), by (with_reducible repeat (first | apply Kd.N_alloc | apply Kd.N_drewN | apply Kd.N_drew)); exact Kd.N_mono HO317.out (fun _ hk => hk.1), hB⟩
 ·replace c3 := Bool.eq_false_iff.mpr c3
  subst c3
  rw [if_neg (show ¬ (false = true) by decide)] at H
  simp only [Option.some.injEq, Prod.mk.injEq] at H
  obtain ⟨rfl, rfl⟩ := H
  go_enter Tryd.func22, Tryd.ntmps22
  go_wp2_with (first | ((with_reducible refine gate_dst (N := 1) rfl ?_); refine bxE 1 #[.int .i64 a0_0, .slice A0_1 l0_1.length c0_1] 28 rfl ?_; intro gb313 hg w18 hbox hb; have BK313 := Aside0.mk (hbox); have GW313 := gS HB hg; have GE313 := gS HB hg; replace HB := hS HB hb; clear hb hbox hg; have hcz19_0 := cz BK313 0; have hcz19_1 := cz BK313 1; have hfz19_0 := fz BK313 0; have hfz19_1 := fz BK313 1) | ((with_reducible refine gate_callee (f := 70) rfl ?_); refine goC (N := some 6) Tryd.func70 #[.agg #[.int .i64 a0_0, .slice A0_1 l0_1.length c0_1]] rfl ?_; (with_reducible refine (spec_pzGood.calls k a0_0 _ _ l0_1 false _ ?side1 ?side2 A2.out).mono ?_); (case side1 => exact cS (Kd.C_below HR0_1.out HB.out)); (case side2 => exact HC0_1.out); rintro e w20 ⟨rfl, hb⟩; refine ⟨_, rfl, ?_⟩; replace BK313 := bS BK313 hb; replace HB := hS HB hb; (try clear hb); (try clear hb2); (try clear hk); (try clear hi)))
  go_ret2
  exact ⟨_, by first | rfl | (simp [errW_none, errW_some] <;> rfl) | (simp [*, errW_none, errW_some] <;> rfl), by first | exact Kd.S_nil _ _ _ _ _ | exact Kd.N_nil _ _ _ _ _ | exact Kd.V_nil _ _ _ _ _ | exact Kd.Q_nil _ _ _ _ _ | exact Kd.R_nil _ _ _ _ _, hB⟩

/-! ### laws_toClue: function 113 -/
def laws_toClue.f (a0_0 : Int) (a0_1 : Int) (a0_2 : Int) : Option (Int × Int × Int) := some (a0_0, a0_1, a0_2)
set_option maxHeartbeats 8000000 in
set_option maxRecDepth 100000 in
theorem laws_toClue.calls (a0_0 : Int) (a0_1 : Int) (a0_2 : Int) (r1 : Int) (r2 : Int) (r3 : Int) (w : World) (h : laws_toClue.f a0_0 a0_1 a0_2 = some (r1, r2, r3)) :
  Calls Tryd.prog 113 #[.agg #[.int .i64 a0_0, .int .i64 a0_1, .int .i64 a0_2]] w fun e w' => e = .returned (.agg #[.int .i64 r1, .int .i64 r2, .int .i64 r3]) ∧ Below w.heap.size w w' := by
 have hu126 := Tryd.underlying126
 have hu70 := Tryd.underlying70
 have HB := Aside0.mk (Below.refl w.heap.size w)
 have H : (some (a0_0, a0_1, a0_2)) = some (r1, r2, r3) := h
 clear h
 simp only [Option.some.injEq, Prod.mk.injEq] at H
 obtain ⟨rfl, rfl, rfl⟩ := H
 go_enter Tryd.func113, Tryd.ntmps113
 go_wp2_with (first | ((with_reducible refine gate_dst (N := 1) rfl ?_); refine bxE 1 #[.int .i64 a0_0, .int .i64 a0_1, .int .i64 a0_2] 126 rfl ?_; intro gb318 hg w2 hbox hb; have BK318 := Aside0.mk (hbox); have GW318 := gS HB hg; have GE318 := gS HB hg; replace HB := hS HB hb; clear hb hbox hg) | ((with_reducible refine gate_dst (N := 2) rfl ?_); refine bxE 2 #[.int .i64 0, .int .i64 0, .int .i64 0] 70 rfl ?_; intro gb319 hg w3 hbox hb; have BK319 := Aside0.mk (hbox); have GW319 := gS HB hg; have GE319 := gS HB hg; have NB318_319 := nL BK318 hg; have NB319_318 := nG BK318 hg; replace BK318 := bS BK318 hb; replace HB := hS HB hb; clear hb hbox hg) | ((with_reducible refine gate_dst (N := 3) rfl ?_); refine bxE 3 #[.int .i64 0, .int .i64 0, .int .i64 0] 70 rfl ?_; intro gb320 hg w4 hbox hb; have BK320 := Aside0.mk (hbox); have GW320 := gS HB hg; have GE320 := gS HB hg; have NB318_320 := nL BK318 hg; have NB320_318 := nG BK318 hg; have NB319_320 := nL BK319 hg; have NB320_319 := nG BK319 hg; replace BK318 := bS BK318 hb; replace BK319 := bS BK319 hb; replace HB := hS HB hb; clear hb hbox hg; have hnb5 := NB318_319.out; have hnc5 := NB319_318.out; have hnb6 := NB318_320.out; have hnc6 := NB320_318.out; have hcz7_0 := cz BK318 0; have hcz7_1 := cz BK318 1; have hcz7_2 := cz BK318 2; have hfz7_0 := fz BK318 0; have hfz7_1 := fz BK318 1; have hfz7_2 := fz BK318 2; have hnb8 := NB320_319.out; have hnc8 := NB319_320.out; have hcz9_0 := cz BK320 0; have hcz9_1 := cz BK320 1; have hcz9_2 := cz BK320 2; have hfz9_0 := fz BK320 0; have hfz9_1 := fz BK320 1; have hfz9_2 := fz BK320 2; have hcz10_0 := cz BK319 0; have hcz10_1 := cz BK319 1; have hcz10_2 := cz BK319 2; have hfz10_0 := fz BK319 0; have hfz10_1 := fz BK319 1; have hfz10_2 := fz BK319 2))
 refine bodyPost_ret (results_cell_row rfl _ _ gb319 70 #[.int .i64 a0_0, .int .i64 a0_1, .int .i64 a0_2] (0, 0) _ rfl (by (with_reducible repeat (first | refine blk_drewN ?_ _ | refine blk_drew ?_ | refine blk_alloc ?_ _)); refine blk_put (cs := #[.int .i64 a0_0, .int .i64 a0_1, .int .i64 0]) ?_ 2 _ rfl; (with_reducible repeat (first | refine blk_drewN ?_ _ | refine blk_drew ?_ | refine blk_alloc ?_ _)); refine blk_put (cs := #[.int .i64 a0_0, .int .i64 0, .int .i64 0]) ?_ 1 _ rfl; (with_reducible repeat (first | refine blk_drewN ?_ _ | refine blk_drew ?_ | refine blk_alloc ?_ _)); refine blk_put (cs := #[.int .i64 0, .int .i64 0, .int .i64 0]) ?_ 0 _ rfl; (with_reducible repeat (first | refine blk_drewN ?_ _ | refine blk_drew ?_ | refine blk_alloc ?_ _)); refine blk_far ?_ NB319_320.out _; (with_reducible repeat (first | refine blk_drewN ?_ _ | refine blk_drew ?_ | refine blk_alloc ?_ _)); refine blk_far ?_ NB319_320.out _; (with_reducible repeat (first | refine blk_drewN ?_ _ | refine blk_drew ?_ | refine blk_alloc ?_ _)); refine blk_far ?_ NB319_320.out _; (with_reducible repeat (first | refine blk_drewN ?_ _ | refine blk_drew ?_ | refine blk_alloc ?_ _)); exact BK319.out) Tryd.underlying70 rfl (by kernel_rfl)) rfl ?_
 exact ⟨by first | rfl | (simp [errW_none, errW_some] <;> rfl) | (simp [*, errW_none, errW_some] <;> rfl), hB⟩

/-! ### laws_toClueS: function 72 -/
def laws_toClueS.l0 : Nat → List (S126) → List (S70) → Int → Option ((List (S70)))
 | 0, _, _, _ => none
 | k + 1, x0, x3, x4 => if x4 < (x0.length : Int) then (if 0 ≤ x4 then ((laws_toClue.f ((rd_T126 x0 x4).f0) ((rd_T126 x0 x4).f1) ((rd_T126 x0 x4).f2)).bind fun bt325 => (if x4 < (x3.length : Int) then (laws_toClueS.l0 k x0 (x3.set (x4 : Int).toNat (⟨bt325.1, bt325.2.1, bt325.2.2⟩ : S70)) (wrap64 (x4 + 1))) else (none))) else (none)) else (some x3)
def laws_toClueS.f (k : Nat) (l0 : List (S126)) : Option ((List (S70))) := if 0 ≤ (l0.length : Int) then (if ((l0.length : Int) : Int).toNat ≤ 11728124029610 then (laws_toClueS.l0 k l0 (List.replicate ((l0.length : Int) : Int).toNat z70) 0) else (none)) else (none)
theorem laws_toClueS.mono_l : ∀ k, (∀ y0 y1 y2, LeO (laws_toClueS.l0 k y0 y1 y2) (laws_toClueS.l0 (k + 1) y0 y1 y2))
 | 0 => fun _ _ _ r h => by simp [laws_toClueS.l0] at h
 | k + 1 => by
  have ih0 := laws_toClueS.mono_l k
  ·intro y0 y1 y2
   unfold laws_toClueS.l0
   repeat' first
   | (with_reducible exact ih0 _ _ _)
   | (with_reducible exact LeO.refl _)
   | (with_reducible exact LeO.none _)
   | (with_reducible refine LeO.ite ?_ ?_)
   | (with_reducible refine LeO.bind ?_ (fun _ => ?_))
   | exact ih0 _ _ _
   | exact LeO.none _
   | refine LeO.ite ?_ ?_
   | refine LeO.bind ?_ (fun _ => ?_)
theorem laws_toClueS.mono : ∀ a0 k, LeO (laws_toClueS.f k a0) (laws_toClueS.f (k + 1) a0) := by
 intro a0 k
 have ih0 := laws_toClueS.mono_l k
 unfold laws_toClueS.f
 repeat' first
   | (with_reducible exact ih0 _ _ _)
   | (with_reducible exact LeO.refl _)
   | (with_reducible exact LeO.none _)
   | (with_reducible refine LeO.ite ?_ ?_)
   | (with_reducible refine LeO.bind ?_ (fun _ => ?_))
   | exact ih0 _ _ _
   | exact LeO.none _
   | refine LeO.ite ?_ ?_
   | refine LeO.bind ?_ (fun _ => ?_)
set_option maxHeartbeats 8000000 in
set_option maxRecDepth 100000 in
theorem laws_toClueS.calls (k : Nat) (A0 : Option Addr) (c0 : Nat) (l0 : List (S126)) (r : List (S70)) (w : World) (hr0 : Kd.C k126 w A0 l0.length l0) (hc0 : l0.length ≤ c0) (h : laws_toClueS.f k l0 = some r) :
  Calls Tryd.prog 72 #[.slice A0 l0.length c0] w fun e w' => ∃ v0_ : Value, e = .returned (v0_) ∧ Kd.R k70 70 w' w.heap.size (fun _ => True) v0_ r ∧ Below w.heap.size w w' := by
 have hu126 := Tryd.underlying126
 have hu70 := Tryd.underlying70
 have HR0 := Aside0.mk hr0
 have HC0 := Aside0.mk hc0
 clear hr0 hc0
 have HB := Aside0.mk (Below.refl w.heap.size w)
 have H : (if 0 ≤ (l0.length : Int) then (if ((l0.length : Int) : Int).toNat ≤ 11728124029610 then (laws_toClueS.l0 k l0 (List.replicate ((l0.length : Int) : Int).toNat z70) 0) else (none)) else (none)) = some r := h
 clear h
 by_cases c2 : 0 ≤ (l0.length : Int)
 ·rw [if_pos c2] at H
  have c2b0 := eq_true c2
  have c2b1 : decide (0 ≤ (l0.length : Int)) = true := decide_eq_true c2
  clear c2
  by_cases c3 : ((l0.length : Int) : Int).toNat ≤ 11728124029610
  ·rw [if_pos c3] at H
   have c3b0 := eq_true c3
   have c3b1 : decide (((l0.length : Int) : Int).toNat ≤ 11728124029610) = true := decide_eq_true c3
   clear c3
   obtain ⟨y321, hy321⟩ : ∃ y_ : List (S70), y_ = (List.replicate ((l0.length : Int) : Int).toNat z70) := ⟨_, rfl⟩
   replace H : (laws_toClueS.l0 k l0 y321 0) = some r := by first | (rw [hy321]; with_reducible exact H) | (have H2_ := (Option.bind_some _ _).symm.trans H; rw [hy321]; with_reducible exact H2_) | (have H2_ := (Option.bind_some _ _).symm.trans H; with_reducible exact H2_) | with_reducible exact H | (rw [hy321]; exact H) | exact H
   have Ny321 := Aside0.mk hy321
   clear hy321
   have H' := Aside0.mk H
   clear H
   go_enter Tryd.func72, Tryd.ntmps72
   go_wp2_with (first | ((with_reducible refine gate_dst (N := 7) rfl ?_); refine Kd.R_make k70 _ 70 rfl (N := 7) rfl 26 _ _ rfl (l0.length : Int) rfl rfl Tryd.underlying26 (.agg #[(.int .i64 0), (.int .i64 0), (.int .i64 0)]) 24 info70 rfl (by decide) (by omega) z70 (ok := fun _ => True) (okp := fun _ => True) (k70_mkM _ _ _ z70 ) (fun _ hk => hk) trivial (of_decide_eq_true (by first | (with_reducible assumption) | assumption)) (Nat.le_trans (Nat.mul_le_mul_right _ (of_decide_eq_true (by first | (with_reducible assumption) | assumption) : (l0.length : Int).toNat ≤ 11728124029610)) (by omega)) (Below.refl _ _) (Nat.le_refl _) ?_; intro v322 w4 ho5 hb hg_ hnew_; clear hg_ hnew_; (first | rw [← Ny321.out] at ho5 | (simp only [Int.reduceToNat] at ho5; rw [← Ny321.out] at ho5)); have HO323 := Aside0.mk (Kd.R_lower ho5 (below_size hB)); replace HB := hS HB hb; clear hb ho5))
   go_loopg [4] k (fun kq v4 w' => ∃ (x3_1 : List (S70)) (x4_1 : Int), v4 = .int .i64 x4_1 ∧ Aside0 (laws_toClueS.l0 kq l0 x3_1 x4_1 = some r) ∧ Aside0 (kq ≤ k) ∧ Aside0 (Kd.R k70 70 w' w.heap.size (fun _ => True) v322 x3_1) ∧ Aside0 (Below w.heap.size w w'))
   case atStart => exact ⟨(y321), (0), (by first | rfl | (simp; done) | (simp [*]; done)), H', ⟨Nat.le_refl _⟩, ⟨rU HO323⟩, ⟨hB⟩⟩
   case round =>
    clear H'
    try clear c2
    try clear c2b0
    try clear c2b1
    try clear p2
    try clear c3
    try clear c3b0
    try clear c3b1
    obtain ⟨x3_1, x4_1, rfl, HA, HK1, HO_3, HB⟩ := hrel
    cases gk with
    | zero => exact absurd HA.out (by simp [laws_toClueS.l0])
    | succ k1 =>
     have H := HA.out
     clear HA
     simp only [laws_toClueS.l0] at H
     by_cases c6 : x4_1 < (l0.length : Int)
     ·rw [if_pos c6] at H
      have c6b0 : decide (x4_1 < (l0.length : Int)) = true := decide_eq_true c6
      clear c6
      by_cases c7 : 0 ≤ x4_1
      ·rw [if_pos c7] at H
       have c7b0 : decide (0 ≤ x4_1) = true := decide_eq_true c7
       clear c7
       replace H := Option.bind_eq_some_iff.mp H
       obtain ⟨⟨t325, t326, t327⟩, A80, H⟩ := H
       try dsimp only at H
       have A8 := Aside0.mk A80
       clear A80
       by_cases c9 : x4_1 < (x3_1.length : Int)
       ·rw [if_pos c9] at H
        have c9b0 : decide (x4_1 < (x3_1.length : Int)) = true := decide_eq_true c9
        clear c9
        obtain ⟨y328, hy328⟩ : ∃ y_ : List (S70), y_ = (x3_1.set (x4_1 : Int).toNat (⟨t325, t326, t327⟩ : S70)) := ⟨_, rfl⟩
        replace H : (laws_toClueS.l0 k1 l0 y328 (wrap64 (x4_1 + 1))) = some r := by first | (rw [hy328]; with_reducible exact H) | (have H2_ := (Option.bind_some _ _).symm.trans H; rw [hy328]; with_reducible exact H2_) | (have H2_ := (Option.bind_some _ _).symm.trans H; with_reducible exact H2_) | with_reducible exact H | (rw [hy328]; exact H) | exact H
        have Ny328 := Aside0.mk hy328
        clear hy328
        have H' := Aside0.mk H
        clear H
        have p324 : 0 ≤ (x4_1 : Int) := of_decide_eq_true (by first | (with_reducible assumption) | assumption)
        have q324 : x4_1 < (l0.length : Int) := of_decide_eq_true (by first | (with_reducible assumption) | assumption)
        obtain ⟨ad324, e324, hx324_0, hx324_1, hx324_2⟩ := at_T126 HR0.out x4_1 p324 q324
        cases e324
        replace hx324_0 := (HB.out.cell (World.block_lt_of_cell? w _ hx324_0)).trans hx324_0
        replace hx324_1 := (HB.out.cell (World.block_lt_of_cell? w _ hx324_1)).trans hx324_1
        replace hx324_2 := (HB.out.cell (World.block_lt_of_cell? w _ hx324_2)).trans hx324_2
        replace p324 := eq_true p324
        replace q324 := eq_true q324
        go_wp2_with (first | ((with_reducible refine gate_callee (f := 113) rfl ?_); refine goC (N := some 20) Tryd.func113 #[.agg #[.int .i64 ((rd_T126 l0 x4_1).f0), .int .i64 ((rd_T126 l0 x4_1).f1), .int .i64 ((rd_T126 l0 x4_1).f2)]] rfl ?_; (with_reducible refine (laws_toClue.calls ((rd_T126 l0 x4_1).f0) ((rd_T126 l0 x4_1).f1) ((rd_T126 l0 x4_1).f2) t325 t326 t327 _ A8.out).mono ?_); rintro e w11 ⟨rfl, hb⟩; refine ⟨_, rfl, ?_⟩; replace HO_3 := Aside0.mk (Kd.R_below (rU HO_3) hb); replace HB := hS HB hb; (try clear hb); (try clear hb2); (try clear hk); (try clear hi); have p10 : 0 ≤ (x4_1 : Int) := of_decide_eq_true (by first | (with_reducible assumption) | assumption); have q10 : (x4_1 : Int) < ((x3_1.length : Int) : Int) := of_decide_eq_true (by first | (with_reducible assumption) | assumption); obtain ⟨go10, co10, eo10, gb10, gl10, cl10, HG10⟩ := Kd.R_form HO_3.out (by omega); (first | cases eo10 | (injection eo10 with ea_ en_ ec_; (first | subst ea_ | (injection ea_ with ea_; subst ea_)); subst ec_; clear en_)); have GB10 := Aside0.mk gb10; have GG10 := Aside0.mk HG10; clear gb10 gl10 HG10; obtain ⟨ce10, hcl10, hM10, hcc10, hfr10⟩ := Kd.R_elem HO_3.out z70 (x4_1 : Int) p10 q10; obtain rfl := k70_openM hM10; have hx10_0 : w11.cell? ⟨go10, (x4_1 : Int).toNat * 3, none⟩ = some (.int .i64 ((rd_T70 x3_1 x4_1).f0)) := hcc10 0 _ rfl; have hx10_1 : w11.cell? ⟨go10, (x4_1 : Int).toNat * 3 + 1, none⟩ = some (.int .i64 ((rd_T70 x3_1 x4_1).f1)) := hcc10 1 _ rfl; have hx10_2 : w11.cell? ⟨go10, (x4_1 : Int).toNat * 3 + 2, none⟩ = some (.int .i64 ((rd_T70 x3_1 x4_1).f2)) := hcc10 2 _ rfl; have hf10_0 : w11.frozen? ⟨go10, (x4_1 : Int).toNat * 3, none⟩ = false := hfr10 0; have hf10_1 : w11.frozen? ⟨go10, (x4_1 : Int).toNat * 3 + 1, none⟩ = false := hfr10 1; have hf10_2 : w11.frozen? ⟨go10, (x4_1 : Int).toNat * 3 + 2, none⟩ = false := hfr10 2; clear hcl10 hcc10 hfr10 hM10; replace p10 := eq_true p10; replace q10 := eq_true q10; have HX12 := Aside0.mk (show Kd.R k70 70 w11 w.heap.size (fun _ => True) (.slice (some ⟨go10, 0, none⟩) x3_1.length co10) x3_1 from (rU HO_3)); obtain ⟨ce12, hcl12, hM12, hcc12, hfr12⟩ := Kd.R_elem HX12.out z70 (x4_1 : Int) (of_decide_eq_true (by first | (with_reducible assumption) | assumption)) (by have h_ : (x4_1 : Int) < ((x3_1.length : Int) : Int) := of_decide_eq_true (by first | (with_reducible assumption) | assumption); first | exact h_ | (have e_ := (Kd.R_reads' HO_3.out).1; omega) | simpa using h_); obtain rfl := k70_openM hM12; have HP12 := Kd.R_seg HX12.out (x4_1 : Int) (of_decide_eq_true (by first | (with_reducible assumption) | assumption)) (by have h_ : (x4_1 : Int) < ((x3_1.length : Int) : Int) := of_decide_eq_true (by first | (with_reducible assumption) | assumption); first | exact h_ | (have e_ := (Kd.R_reads' HO_3.out).1; omega) | simpa using h_) (seg := [.int .i64 t325, .int .i64 t326, .int .i64 t327]) (j := 0) hcl12 hcc12 (show 3 ≤ 3 from by decide) (x' := (⟨t325, t326, t327⟩ : S70)) (k70_mkM _ _ _ (⟨t325, t326, t327⟩ : S70) ) (fun _ hk => hk); have hx12_0 := hcc12 0 _ rfl; (try simp only [show (k70).sz = 3 from rfl, Nat.mul_one, Nat.add_zero] at hx12_0); have hf12_0 := hfr12 0; (try simp only [show (k70).sz = 3 from rfl, Nat.mul_one, Nat.add_zero] at hf12_0); have hx12_1 := hcc12 1 _ rfl; (try simp only [show (k70).sz = 3 from rfl, Nat.mul_one, Nat.add_zero] at hx12_1); have hf12_1 := hfr12 1; (try simp only [show (k70).sz = 3 from rfl, Nat.mul_one, Nat.add_zero] at hf12_1); have hx12_2 := hcc12 2 _ rfl; (try simp only [show (k70).sz = 3 from rfl, Nat.mul_one, Nat.add_zero] at hx12_2); have hf12_2 := hfr12 2; (try simp only [show (k70).sz = 3 from rfl, Nat.mul_one, Nat.add_zero] at hf12_2); clear hcl12 hcc12 hfr12 hM12) | ((with_reducible refine gate_store (t := 70) (p := 21) rfl ?_); refine store_event (t := 70) (p := 21) (v := ?vo_w13) (w1 := (((w11.setCell ⟨go10, (x4_1 : Int).toNat * 3, none⟩ (.int .i64 t325)).setCell ⟨go10, (x4_1 : Int).toNat * 3 + 1, none⟩ (.int .i64 t326)).setCell ⟨go10, (x4_1 : Int).toNat * 3 + 2, none⟩ (.int .i64 t327))) ?hg ?ho ?hn ?hr ?_; (case ho => rfl); (case hg => rfl); (case hn => rfl); (case hr => first | (go_simp; done) | (go_simp; rfl)); intro w13 hw; have hg : w11.grownBy w13 (some go10) := (by rw [hw]; exact HP12.2); have hp_ : Kd.R k70 70 w13 w.heap.size (fun _ => True) (.slice (some ⟨go10, 0, none⟩) x3_1.length co10) y328 := (by rw [hw, Ny328.out]; exact HP12.1); clear HP12; replace HO_3 := Aside0.mk (hp_); replace HB := Aside0.mk ((by rw [hw]; exact below_set (below_set (below_set (HB.out) GB10.out) GB10.out) GB10.out : Below w.heap.size w w13)); clear hg hw hp_))
        go_roundg k1
        case measure => have := HK1.out; omega
        case rel => exact ⟨(y328), (wrap64 (x4_1 + 1)), (by first | rfl | (simp; done) | (simp [*]; done)), H', ⟨by have := HK1.out; omega⟩, ⟨rU HO_3⟩, ⟨hB⟩⟩
       ·rw [if_neg c9] at H
        exact absurd H (by simp)
      ·rw [if_neg c7] at H
       exact absurd H (by simp)
     ·rw [if_neg c6] at H
      have c6b0 : decide (x4_1 < (l0.length : Int)) = false := decide_eq_false c6
      clear c6
      obtain rfl := Option.some.inj H
      go_wp2
      go_ret
      exact ⟨_, by first | rfl | (simp [errW_none, errW_some] <;> rfl) | (simp [*, errW_none, errW_some] <;> rfl), rU HO_3, hB⟩
  ·rw [if_neg c3] at H
   exact absurd H (by simp)
 ·rw [if_neg c2] at H
  exact absurd H (by simp)

/-! ### laws_toPuzzle: function 23 -/
def laws_toPuzzle.f (k : Nat) (a0_0 : Int) (l0_1 : List (S126)) : Option (Int × (List (S70))) := (laws_toClueS.f k l0_1).bind fun t332 => (some (a0_0, t332))
theorem laws_toPuzzle.mono : ∀ a0 a1 k, LeO (laws_toPuzzle.f k a0 a1) (laws_toPuzzle.f (k + 1) a0 a1) := by
 intro a0 a1 k
 unfold laws_toPuzzle.f
 repeat' first
   | (with_reducible exact laws_toClueS.mono _ _)
   | (with_reducible exact LeO.refl _)
   | (with_reducible exact LeO.none _)
   | (with_reducible refine LeO.ite ?_ ?_)
   | (with_reducible refine LeO.bind ?_ (fun _ => ?_))
   | exact laws_toClueS.mono _ _
   | exact LeO.none _
   | refine LeO.ite ?_ ?_
   | refine LeO.bind ?_ (fun _ => ?_)
set_option maxHeartbeats 8000000 in
set_option maxRecDepth 100000 in
theorem laws_toPuzzle.calls (k : Nat) (a0_0 : Int) (A0_1 : Option Addr) (c0_1 : Nat) (l0_1 : List (S126)) (r1 : Int) (r2 : List (S70)) (w : World) (hr0_1 : Kd.C k126 w A0_1 l0_1.length l0_1) (hc0_1 : l0_1.length ≤ c0_1) (h : laws_toPuzzle.f k a0_0 l0_1 = some (r1, r2)) :
  Calls Tryd.prog 23 #[.agg #[.int .i64 a0_0, .slice A0_1 l0_1.length c0_1]] w fun e w' => ∃ v1_ : Value, e = .returned (.agg #[.int .i64 r1, v1_]) ∧ Kd.R k70 70 w' w.heap.size (fun _ => True) v1_ r2 ∧ Below w.heap.size w w' := by
 have hu42 := Tryd.underlying42
 have hu28 := Tryd.underlying28
 have HR0_1 := Aside0.mk hr0_1
 have HC0_1 := Aside0.mk hc0_1
 clear hr0_1 hc0_1
 have HB := Aside0.mk (Below.refl w.heap.size w)
 have H : ((laws_toClueS.f k l0_1).bind fun t332 => (some (a0_0, t332))) = some (r1, r2) := h
 clear h
 replace H := Option.bind_eq_some_iff.mp H
 obtain ⟨t332, A20, H⟩ := H
 replace H : (some (a0_0, t332)) = some (r1, r2) := H
 have A2 := Aside0.mk A20
 clear A20
 simp only [Option.some.injEq, Prod.mk.injEq] at H
 obtain ⟨rfl, rfl⟩ := H
 go_enter Tryd.func23, Tryd.ntmps23
 go_wp2_with (first | ((with_reducible refine gate_dst (N := 1) rfl ?_); refine bxE 1 #[.int .i64 a0_0, .slice A0_1 l0_1.length c0_1] 42 rfl ?_; intro gb329 hg w3 hbox hb; have BK329 := Aside0.mk (hbox); have GW329 := gS HB hg; have GE329 := gS HB hg; replace HB := hS HB hb; clear hb hbox hg) | ((with_reducible refine gate_dst (N := 2) rfl ?_); refine bxE 2 #[.int .i64 0, .slice none 0 0] 28 rfl ?_; intro gb330 hg w4 hbox hb; have BK330 := Aside0.mk (hbox); have GW330 := gS HB hg; have GE330 := gS HB hg; have NB329_330 := nL BK329 hg; have NB330_329 := nG BK329 hg; replace BK329 := bS BK329 hb; replace HB := hS HB hb; clear hb hbox hg) | ((with_reducible refine gate_dst (N := 3) rfl ?_); refine bxE 3 #[.int .i64 0, .slice none 0 0] 28 rfl ?_; intro gb331 hg w5 hbox hb; have BK331 := Aside0.mk (hbox); have GW331 := gS HB hg; have GE331 := gS HB hg; have NB329_331 := nL BK329 hg; have NB331_329 := nG BK329 hg; have NB330_331 := nL BK330 hg; have NB331_330 := nG BK330 hg; replace BK329 := bS BK329 hb; replace BK330 := bS BK330 hb; replace HB := hS HB hb; clear hb hbox hg; have hnb6 := NB329_330.out; have hnc6 := NB330_329.out; have hnb7 := NB329_331.out; have hnc7 := NB331_329.out; have hcz8_0 := cz BK329 0; have hcz8_1 := cz BK329 1; have hfz8_0 := fz BK329 0; have hfz8_1 := fz BK329 1; have hnb9 := NB331_330.out; have hnc9 := NB330_331.out; have hcz10_0 := cz BK331 0; have hcz10_1 := cz BK331 1; have hfz10_0 := fz BK331 0; have hfz10_1 := fz BK331 1) | ((with_reducible refine gate_callee (f := 72) rfl ?_); refine goC (N := some 9) Tryd.func72 #[.slice A0_1 l0_1.length c0_1] rfl ?_; (with_reducible refine (laws_toClueS.calls k _ _ l0_1 t332 _ ?side1 ?side2 A2.out).mono ?_); (case side1 => exact Kd.C_below HR0_1.out hB); (case side2 => exact HC0_1.out); rintro e w11 ⟨v333, rfl, ho0, hb⟩; refine ⟨_, rfl, ?_⟩; have HO334 := Aside0.mk (Kd.R_lower ho0 (below_size hB)); replace BK329 := Aside0.mk (blk_below (g := gb329) (o := .cells #[.int .i64 a0_0, .slice A0_1 l0_1.length c0_1] 42 (0, 0)) (by (with_reducible repeat (first | refine blk_drewN ?_ _ | refine blk_drew ?_ | refine blk_alloc ?_ _)); refine blk_far ?_ NB329_331.out _; (with_reducible repeat (first | refine blk_drewN ?_ _ | refine blk_drew ?_ | refine blk_alloc ?_ _)); exact BK329.out) hb); replace BK330 := Aside0.mk (blk_below (g := gb330) (o := .cells #[.int .i64 0, .slice none 0 0] 28 (0, 0)) (by (with_reducible repeat (first | refine blk_drewN ?_ _ | refine blk_drew ?_ | refine blk_alloc ?_ _)); refine blk_far ?_ NB330_331.out _; (with_reducible repeat (first | refine blk_drewN ?_ _ | refine blk_drew ?_ | refine blk_alloc ?_ _)); exact BK330.out) hb); replace BK331 := Aside0.mk (blk_below (g := gb331) (o := .cells #[.int .i64 a0_0, .slice none 0 0] 28 (0, 0)) (by (with_reducible repeat (first | refine blk_drewN ?_ _ | refine blk_drew ?_ | refine blk_alloc ?_ _)); refine blk_put (cs := #[.int .i64 0, .slice none 0 0]) ?_ 0 _ rfl; (with_reducible repeat (first | refine blk_drewN ?_ _ | refine blk_drew ?_ | refine blk_alloc ?_ _)); exact BK331.out) hb); replace HB := hS HB hb; (try clear hb); (try clear hb2); (try clear hk); (try clear hi); (try clear ho0); obtain ⟨Ao12, co12, eo12⟩ := Kd.R_slice HO334.out; subst eo12; have hcz13_0 := cz BK331 0; have hcz13_1 := cz BK331 1; have hfz13_0 := fz BK331 0; have hfz13_1 := fz BK331 1; have hcz14_0 := cz BK330 0; have hcz14_1 := cz BK330 1; have hfz14_0 := fz BK330 0; have hfz14_1 := fz BK330 1))
 refine bodyPost_ret (results_cell_row rfl _ _ gb330 28 #[.int .i64 a0_0, .slice Ao12 t332.length co12] (0, 0) _ rfl (by (with_reducible repeat (first | refine blk_drewN ?_ _ | refine blk_drew ?_ | refine blk_alloc ?_ _)); refine blk_put (cs := #[.int .i64 a0_0, .slice none 0 0]) ?_ 1 _ rfl; (with_reducible repeat (first | refine blk_drewN ?_ _ | refine blk_drew ?_ | refine blk_alloc ?_ _)); refine blk_put (cs := #[.int .i64 0, .slice none 0 0]) ?_ 0 _ rfl; (with_reducible repeat (first | refine blk_drewN ?_ _ | refine blk_drew ?_ | refine blk_alloc ?_ _)); refine blk_far ?_ NB330_331.out _; (with_reducible repeat (first | refine blk_drewN ?_ _ | refine blk_drew ?_ | refine blk_alloc ?_ _)); exact BK330.out) Tryd.underlying28 rfl (by kernel_rfl)) rfl ?_
 exact ⟨_, by first | rfl | (simp [errW_none, errW_some] <;> rfl) | (simp [*, errW_none, errW_some] <;> rfl), by (with_reducible repeat (first | apply Kd.R_alloc | apply Kd.R_drewN | apply Kd.R_drew)); exact Kd.R_mono (Kd.R_far (p := ⟨gb330, 1, none⟩) (Kd.R_far (p := ⟨gb330, 0, none⟩) (Kd.R_far (p := ⟨gb331, 1, none⟩) (Kd.R_types (Kd.R_types HO334.out BK331.out (by decide)) BK330.out (by decide)) (fun _ hk => hk.1.2) (.slice Ao12 t332.length co12)) (fun _ hk => hk.2) (.int .i64 a0_0)) (fun _ hk => hk.2) (.slice Ao12 t332.length co12)) (fun _ hk => trivial), hB⟩

end Go.Proofs.YtjpfbkkikcpmhaaDoor.PFnExactSolutions
