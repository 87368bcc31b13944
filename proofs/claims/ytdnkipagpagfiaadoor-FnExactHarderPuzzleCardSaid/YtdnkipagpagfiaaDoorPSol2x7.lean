-- Of this session's own program wip/gen/gen.py (it drives the kit's print): contracts of the functions that the law reaches.
import Derived.Test.YtdnkipagpagfiaaDoorPSol2x0
import Derived.Test.YtdnkipagpagfiaaDoorPSol2x1
import Derived.Test.YtdnkipagpagfiaaDoorPSol2x4
import Derived.Test.YtdnkipagpagfiaaDoorPSol2x5
import Derived.Test.YtdnkipagpagfiaaDoorPSol2x6
namespace Go.Proofs.YtdnkipagpagfiaaDoor.PSol2
open Go.RowKit Go.Proofs.YtdnkipagpagfiaaDoorW.PrintWords Go.Proofs.YtdnkipagpagfiaaDoorW.PrintLast Go.Proofs.YtdnkipagpagfiaaDoorW.PrintMore Go.Proofs.YtdnkipagpagfiaaDoor.Base
attribute [local go_sem] max2_int min2_int max_two min_two max_three min_three max_four min_four   -- for this text's walks alone
set_option linter.unusedVariables false
set_option linter.unusedSimpArgs false

attribute [local go_sem high] eqA110
/-! ### spec_pzFits: function 60 -/
def spec_pzFits.f (k : Nat) (a0_0 : Int) (a0_1 : Int) (a0_2 : Int) (a1_0 : Int) (l1_1 : List (S110)) : Option (Bool) := if a0_0 = 0 then ((spec_paTable.f k a1_0 l1_1).bind fun t274 => (if 0 ≤ a0_1 then (if a0_1 < (t274.length : Int) then (if 0 ≤ a0_2 then (if a0_2 < ((rd_L5 t274 a0_1).length : Int) then (some (rdOf false (rd_L5 t274 a0_1) a0_2)) else (none)) else (none)) else (none)) else (none))) else (if a0_0 = 1 then ((spec_paTable.f k a1_0 l1_1).bind fun t279 => (if 0 ≤ a0_1 then (if a0_1 < (t279.length : Int) then (if 0 ≤ a0_2 then (if a0_2 < ((rd_L5 t279 a0_1).length : Int) then (some (!(rdOf false (rd_L5 t279 a0_1) a0_2))) else (none)) else (none)) else (none)) else (none))) else (if a0_0 = 2 then ((spec_paNumbers.f k a1_0 l1_1).bind fun t284 => (if 0 ≤ a0_1 then (if a0_1 < (t284.length : Int) then (some ((rd t284 a0_1) == a0_2)) else (none)) else (none))) else (if a0_0 = 3 then (some ((l1_1.length : Int) == a0_1)) else (if a0_0 = 4 then ((spec_pzThrees.f k a1_0 l1_1).bind fun t288 => (some (t288 == a0_1))) else ((spec_paParts.f k a1_0 l1_1).bind fun t289 => (some ((t289.length : Int) == a0_1)))))))
theorem spec_pzFits.mono : ∀ a0 a1 a2 a3 a4 k, LeO (spec_pzFits.f k a0 a1 a2 a3 a4) (spec_pzFits.f (k + 1) a0 a1 a2 a3 a4) := by
 intro a0 a1 a2 a3 a4 k
 unfold spec_pzFits.f
 repeat' first
   | (with_reducible exact spec_paNumbers.mono _ _ _)
   | (with_reducible exact spec_paParts.mono _ _ _)
   | (with_reducible exact spec_paTable.mono _ _ _)
   | (with_reducible exact spec_pzThrees.mono _ _ _)
   | (with_reducible exact LeO.refl _)
   | (with_reducible exact LeO.none _)
   | (with_reducible refine LeO.ite ?_ ?_)
   | (with_reducible refine LeO.bind ?_ (fun _ => ?_))
   | exact spec_paNumbers.mono _ _ _
   | exact spec_paParts.mono _ _ _
   | exact spec_paTable.mono _ _ _
   | exact spec_pzThrees.mono _ _ _
   | exact LeO.none _
   | refine LeO.ite ?_ ?_
   | refine LeO.bind ?_ (fun _ => ?_)
def spec_pzFits.T3 : Bool × List (List Nat × List Nat) := (true, [([], []), ([0], [0]), ([], []), ([2], [2]), ([1, 3], [1, 3]), ([4], [4]), ([], []), ([6], [6]), ([5, 7], [5, 7]), ([8], [8]), ([9, 1, 0, 1, 2, 3, 4, 5, 6, 7, 8, 9], [9])])
def spec_pzFits.B3 : List Nat := [0, 1, 0, 4, 15, 31, 0, 64, 255, 511, 1023]
theorem spec_pzFits.tab3 : rtab .any (opsOf Tryd.f60 3) = spec_pzFits.T3 := by kernel_rfl
theorem spec_pzFits.bits3 : waitsOk spec_pzFits.T3.2 spec_pzFits.B3 = true := by kernel_rfl
def spec_pzFits.T5 : Bool × List (List Nat × List Nat) := (true, [([], []), ([0], [0]), ([], []), ([2], [2]), ([1, 3], [1, 3]), ([4], [4]), ([], []), ([6], [6]), ([5, 7], [5, 7]), ([8], [8]), ([9], [9]), ([10, 1, 0, 1, 2, 3, 4, 5, 6, 7, 8, 9, 10], [10])])
def spec_pzFits.B5 : List Nat := [0, 1, 0, 4, 15, 31, 0, 64, 255, 511, 1023, 2047]
theorem spec_pzFits.tab5 : rtab .any (opsOf Tryd.f60 5) = spec_pzFits.T5 := by kernel_rfl
theorem spec_pzFits.bits5 : waitsOk spec_pzFits.T5.2 spec_pzFits.B5 = true := by kernel_rfl
def spec_pzFits.T7 : Bool × List (List Nat × List Nat) := (true, [([], []), ([0], [0]), ([], []), ([2], [2]), ([1, 3], [1, 3]), ([4], [4]), ([], []), ([6], [6]), ([5, 7], [5, 7]), ([8, 1, 0, 1, 2, 3, 4, 5, 6, 7, 8], [8])])
def spec_pzFits.B7 : List Nat := [0, 1, 0, 4, 15, 31, 0, 64, 255, 511]
theorem spec_pzFits.tab7 : rtab .any (opsOf Tryd.f60 7) = spec_pzFits.T7 := by kernel_rfl
theorem spec_pzFits.bits7 : waitsOk spec_pzFits.T7.2 spec_pzFits.B7 = true := by kernel_rfl
set_option maxHeartbeats 8000000 in
set_option maxRecDepth 100000 in
theorem spec_pzFits.calls (k : Nat) (a0_0 : Int) (a0_1 : Int) (a0_2 : Int) (a1_0 : Int) (A1_1 : Option Addr) (c1_1 : Nat) (l1_1 : List (S110)) (r : Bool) (w : World) (hr1_1 : Kd.C k110 w A1_1 l1_1.length l1_1) (hc1_1 : l1_1.length ≤ c1_1) (h : spec_pzFits.f k a0_0 a0_1 a0_2 a1_0 l1_1 = some r) :
  Calls Tryd.prog 60 #[.agg #[.int .i64 a0_0, .int .i64 a0_1, .int .i64 a0_2], .agg #[.int .i64 a1_0, .slice A1_1 l1_1.length c1_1]] w fun e w' => e = .returned (.bool r) ∧ Below w.heap.size w w' := by
 have hu30 := Tryd.underlying30
 have hu34 := Tryd.underlying34
 have HR1_1 := Aside0.mk hr1_1
 have HC1_1 := Aside0.mk hc1_1
 clear hr1_1 hc1_1
 have HB := Aside0.mk (Below.refl w.heap.size w)
 have H : (if a0_0 = 0 then ((spec_paTable.f k a1_0 l1_1).bind fun t274 => (if 0 ≤ a0_1 then (if a0_1 < (t274.length : Int) then (if 0 ≤ a0_2 then (if a0_2 < ((rd_L5 t274 a0_1).length : Int) then (some (rdOf false (rd_L5 t274 a0_1) a0_2)) else (none)) else (none)) else (none)) else (none))) else (if a0_0 = 1 then ((spec_paTable.f k a1_0 l1_1).bind fun t279 => (if 0 ≤ a0_1 then (if a0_1 < (t279.length : Int) then (if 0 ≤ a0_2 then (if a0_2 < ((rd_L5 t279 a0_1).length : Int) then (some (!(rdOf false (rd_L5 t279 a0_1) a0_2))) else (none)) else (none)) else (none)) else (none))) else (if a0_0 = 2 then ((spec_paNumbers.f k a1_0 l1_1).bind fun t284 => (if 0 ≤ a0_1 then (if a0_1 < (t284.length : Int) then (some ((rd t284 a0_1) == a0_2)) else (none)) else (none))) else (if a0_0 = 3 then (some ((l1_1.length : Int) == a0_1)) else (if a0_0 = 4 then ((spec_pzThrees.f k a1_0 l1_1).bind fun t288 => (some (t288 == a0_1))) else ((spec_paParts.f k a1_0 l1_1).bind fun t289 => (some ((t289.length : Int) == a0_1)))))))) = some r := h
 clear h
 by_cases c3 : a0_0 = 0
 ·rw [if_pos c3] at H
  have c3b0 : (a0_0 == 0) = true := beq_iff_eq.mpr c3
  have c3b1 : (a0_0 != 0) = false := bne_eq_false_iff_eq.mpr c3
  clear c3
  replace H := Option.bind_eq_some_iff.mp H
  obtain ⟨t274, A40, H⟩ := H
  try dsimp only at H
  have A4 := Aside0.mk A40
  clear A40
  by_cases c5 : 0 ≤ a0_1
  ·rw [if_pos c5] at H
   have c5b0 : decide (0 ≤ a0_1) = true := decide_eq_true c5
   clear c5
   by_cases c6 : a0_1 < (t274.length : Int)
   ·rw [if_pos c6] at H
    have c6b0 : decide (a0_1 < (t274.length : Int)) = true := decide_eq_true c6
    clear c6
    by_cases c7 : 0 ≤ a0_2
    ·rw [if_pos c7] at H
     have c7b0 : decide (0 ≤ a0_2) = true := decide_eq_true c7
     clear c7
     by_cases c8 : a0_2 < ((rd_L5 t274 a0_1).length : Int)
     ·rw [if_pos c8] at H
      have c8b0 : decide (a0_2 < ((rd_L5 t274 a0_1).length : Int)) = true := decide_eq_true c8
      clear c8
      obtain rfl := Option.some.inj H
      go_enter Tryd.func60, Tryd.ntmps60
      try go_wp2_with (first | ((with_reducible refine gate_dst (N := 2) rfl ?_); refine bxE 2 #[.int .i64 a0_0, .int .i64 a0_1, .int .i64 a0_2] 30 rfl ?_; intro gb272 hg w9 hbox hb; have BK272 := Aside0.mk (hbox); have GW272 := gS HB hg; have GE272 := gS HB hg; replace HB := hS HB hb; clear hb hbox hg) | ((with_reducible refine gate_dst (N := 3) rfl ?_); refine bxE 3 #[.int .i64 a1_0, .slice A1_1 l1_1.length c1_1] 34 rfl ?_; intro gb273 hg w10 hbox hb; have BK273 := Aside0.mk (hbox); have GW273 := gS HB hg; have GE273 := gS HB hg; have NB272_273 := nL BK272 hg; have NB273_272 := nG BK272 hg; replace BK272 := bS BK272 hb; replace HB := hS HB hb; clear hb hbox hg; have hnb11 := NB272_273.out; have hnc11 := NB273_272.out; have hcz12_0 := cz BK272 0; have hcz12_1 := cz BK272 1; have hcz12_2 := cz BK272 2; have hfz12_0 := fz BK272 0; have hfz12_1 := fz BK272 1; have hfz12_2 := fz BK272 2))
      replace BK272 := Aside0.mk (blk_drew BK272.out)
      replace BK273 := Aside0.mk (blk_drew BK273.out)
      replace HB := Aside0.mk (below_drew1 HB.out)
      refine start_ (n := 11) (S := fun w' => w'.cell? ⟨gb273, 0, none⟩ = some (.int .i64 a1_0) ∧ w'.cell? ⟨gb273, 1, none⟩ = some (.slice A1_1 l1_1.length c1_1) ∧ w'.cell? ⟨gb272, 0, none⟩ = some (.int .i64 a0_0) ∧ w'.cell? ⟨gb272, 1, none⟩ = some (.int .i64 a0_1) ∧ w'.cell? ⟨gb272, 2, none⟩ = some (.int .i64 a0_2)) (ds := []) (bz 11 0) (by kernel_rfl) rfl rfl ⟨(blk_cell BK273.out 0).trans rfl, (blk_cell BK273.out 1).trans rfl, (blk_cell BK272.out 0).trans rfl, (blk_cell BK272.out 1).trans rfl, (blk_cell BK272.out 2).trans rfl⟩ (fun hHeld => ?_); refine with_tabW spec_pzFits.tab3 spec_pzFits.bits3 (fun HT_ HW_ => ?_)
      generalize w10.drew = w13 at BK272 BK273 HB hHeld ⊢
      refine run_ [(0, 2, 4, some 11), (0, 6, 68, some 15), (1, 0, 69, some 9), (1, 3, 77, some 12), (1, 7, 205, some 16)] ?_
      repeat (first | (apply tag0; refine run_p (v := ?_) (a' := ?_) rfl rfl (any_of HT_.out (by kernel_rfl)) (fun _ _ _ h => h) (by rfl) ?_ ?_ ?_; rotate_left 2; (intro w'; go_simp; with_reducible rfl); (first | (simp only [Act.put, List.setIfInBounds_toArray, List.set_cons_zero, List.set_cons_succ, i64_w, i32_w]; rfl) | rfl)) | (apply tag1; refine run_t (v := ?_) (a' := ?_) rfl rfl (take_ofW HT_.out HW_.out (by kernel_rfl)) (fun _ _ _ h => h) (by rfl) ?_ hHeld ?_ ?_; rotate_left 2; (rintro w' ⟨s0, s1, s2, s3, s4⟩; go_simp; with_reducible rfl); (first | (simp only [Act.put, List.setIfInBounds_toArray, List.set_cons_zero, List.set_cons_succ, i64_w, i32_w]; rfl) | rfl)))
      refine run_nil ?_
      refine one_ (i := 1) (N := some 10) (bz 11 207) rfl rfl (one_of HT_.out (by kernel_rfl)) (by decide) (fun K hK => ?_)
      refine goes_ Tryd.func70 (by kernel_rfl) rfl #[.agg #[.int .i64 a1_0, .slice A1_1 l1_1.length c1_1]] (by rfl) rfl rfl mapT ?_
      with_reducible refine (spec_paTable.calls k a1_0 _ _ l1_1 t274 _ ?side1 ?side2 A4.out).mono ?_
      (case side1 => exact cS (Kd.C_below HR1_1.out HB.out))
      (case side2 => exact HC1_1.out)
      rintro e w14 ⟨v275, rfl, ho0, hb⟩
      refine ⟨_, rfl, ?_⟩
      have HO276 := Aside0.mk (Kd.S_lower ho0 (below_size hB))
      replace BK272 := bS BK272 hb
      replace BK273 := bS BK273 hb
      replace HB := hS HB hb
      (try clear hb)
      (try clear hb2)
      (try clear hk)
      (try clear hi)
      (try clear ho0)
      obtain ⟨Ao15, co15, eo15⟩ := Kd.S_slice HO276.out
      (first | subst eo15 | (injection eo15 with f1_ f2_ f3_; have f4_ := f1_.symm; have f5_ := f3_.symm; clear f1_ f2_ f3_; subst f4_; subst f5_))
      have p277 : 0 ≤ (a0_1 : Int) := of_decide_eq_true (by first | (with_reducible assumption) | assumption)
      have q277 : a0_1 < (t274.length : Int) := of_decide_eq_true (by first | (with_reducible assumption) | assumption)
      obtain ⟨ad277, A277_0, c277_0, e277, hx277_0, hl277_0, hi277_0⟩ := at_L5 (Kd.S_reads' HO276.out).2.2 a0_1 p277 q277
      cases e277
      obtain ⟨ce277, hce277, hMe277, hcc277⟩ := Kd.S_get HO276.out [] a0_1 p277 (by first | exact q277 | exact of_decide_eq_true (by first | (with_reducible assumption) | assumption) | (have e_ := (Kd.S_reads' HO276.out).1; omega))
      obtain ⟨ve277_0, rfl, ge277_0⟩ := hMe277
      have hv277_0 := hcc277 0 _ rfl
      rw [Nat.add_zero, show ((Kd.slice 4 Kd.bool)).sz = 1 from rfl, Nat.mul_one] at hv277_0
      replace hv277_0 := Option.some.inj (hv277_0.symm.trans hx277_0)
      rw [hv277_0] at ge277_0
      have HL277_0 := Aside0.mk (show Kd.R Kd.bool 4 _ _ _ _ (rd_L5 t274 a0_1) from ge277_0)
      clear hv277_0 ge277_0
      clear hcc277 hce277
      have HR277_0 := Aside0.mk hi277_0
      have HC277_0 := Aside0.mk hl277_0
      clear hi277_0 hl277_0
      replace p277 := eq_true p277
      replace q277 := eq_true q277
      have p278 : 0 ≤ (a0_2 : Int) := of_decide_eq_true (by first | (with_reducible assumption) | assumption)
      have q278 : a0_2 < ((rd_L5 t274 a0_1).length : Int) := of_decide_eq_true (by first | (with_reducible assumption) | assumption)
      obtain ⟨ad278, e278, hx278_0⟩ := Kd.at_bool (by repeat (first | (with_reducible exact HR277_0.out) | (with_reducible refine Kd.C_alloc ?_ _) | (with_reducible refine Kd.C_drewN ?_ _) | (with_reducible refine Kd.C_drew ?_) | exact HR277_0.out)) a0_2 p278 q278
      cases e278
      replace p278 := eq_true p278
      replace q278 := eq_true q278
      refine hK.out _ _ ⟨(blk_cell BK273.out 0).trans rfl, (blk_cell BK273.out 1).trans rfl, (blk_cell BK272.out 0).trans rfl, (blk_cell BK272.out 1).trans rfl, (blk_cell BK272.out 2).trans rfl⟩ (fun hHeld => ?_)
      have hHeld2 : (fun w' : World => w'.cell? ⟨gb273, 0, none⟩ = some (.int .i64 a1_0) ∧ w'.cell? ⟨gb273, 1, none⟩ = some (.slice A1_1 l1_1.length c1_1) ∧ w'.cell? ⟨gb272, 0, none⟩ = some (.int .i64 a0_0) ∧ w'.cell? ⟨gb272, 1, none⟩ = some (.int .i64 a0_1) ∧ w'.cell? ⟨gb272, 2, none⟩ = some (.int .i64 a0_2) ∧ w'.cell? (ad277.add (a0_1).toNat) = some (.slice (some ad278) (rd_L5 t274 a0_1).length c277_0) ∧ w'.cell? (ad278.add (a0_2).toNat) = some (.bool (rdOf false (rd_L5 t274 a0_1) a0_2))) _ := ⟨(blk_cell BK273.out 0).trans rfl, (blk_cell BK273.out 1).trans rfl, (blk_cell BK272.out 0).trans rfl, (blk_cell BK272.out 1).trans rfl, (blk_cell BK272.out 2).trans rfl, hx277_0, hx278_0⟩
      refine more_ (fun w' : World => w'.cell? ⟨gb273, 0, none⟩ = some (.int .i64 a1_0) ∧ w'.cell? ⟨gb273, 1, none⟩ = some (.slice A1_1 l1_1.length c1_1) ∧ w'.cell? ⟨gb272, 0, none⟩ = some (.int .i64 a0_0) ∧ w'.cell? ⟨gb272, 1, none⟩ = some (.int .i64 a0_1) ∧ w'.cell? ⟨gb272, 2, none⟩ = some (.int .i64 a0_2) ∧ w'.cell? (ad277.add (a0_1).toNat) = some (.slice (some ad278) (rd_L5 t274 a0_1).length c277_0) ∧ w'.cell? (ad278.add (a0_2).toNat) = some (.bool (rdOf false (rd_L5 t274 a0_1) a0_2))) (fun _ ⟨s0, s1, s2, s3, s4, s5, s6⟩ => ⟨s0, s1, s2, s3, s4⟩) _ _ _ _ hHeld2 ?_
      clear hHeld
      have hHeld := hHeld2
      clear hHeld2
      clear hK K
      refine norm_ (a' := ?_) ?_ ?_
      rotate_left
      ·show Act.put _ (some 10) _ = _
       simp only [Act.put, List.setIfInBounds_toArray, List.set_cons_zero, List.set_cons_succ, i64_w, i32_w]
       rfl
      refine run_ [(0, 4, 223, some 13), (1, 5, 255, some 14), (0, 8, 511, some 17), (1, 9, 1023, some 18), (0, 10, 2047, some 4)] ?_
      repeat (first | (apply tag0; refine run_p (v := ?_) (a' := ?_) rfl rfl (any_of HT_.out (by kernel_rfl)) (fun _ _ _ h => h) (by rfl) ?_ ?_ ?_; rotate_left 2; (intro w'; go_simp; with_reducible rfl); (first | (simp only [Act.put, List.setIfInBounds_toArray, List.set_cons_zero, List.set_cons_succ, i64_w, i32_w]; rfl) | rfl)) | (apply tag1; refine run_t (v := ?_) (a' := ?_) rfl rfl (take_ofW HT_.out HW_.out (by kernel_rfl)) (fun _ _ _ h => h) (by rfl) ?_ hHeld ?_ ?_; rotate_left 2; (rintro w' ⟨s0, s1, s2, s3, s4, s5, s6⟩; go_simp; with_reducible rfl); (first | (simp only [Act.put, List.setIfInBounds_toArray, List.set_cons_zero, List.set_cons_succ, i64_w, i32_w]; rfl) | rfl)))
      refine run_nil ?_
      refine done_ (done_of HT_.out (by kernel_rfl)) ?_
      try go_wp2
      go_ret
      exact ⟨by first | rfl | (simp [errW_none, errW_some] <;> rfl) | (simp [*, errW_none, errW_some] <;> rfl), hB⟩
     ·rw [if_neg c8] at H
      exact absurd H (by simp)
    ·rw [if_neg c7] at H
     exact absurd H (by simp)
   ·rw [if_neg c6] at H
    exact absurd H (by simp)
  ·rw [if_neg c5] at H
   exact absurd H (by simp)
 ·rw [if_neg c3] at H
  have c3b0 : (a0_0 == 0) = false := beq_eq_false_iff_ne.mpr c3
  have c3b1 : (a0_0 != 0) = true := bne_iff_ne.mpr c3
  by_cases c16 : a0_0 = 1
  ·rw [if_pos c16] at H
   have c16b0 : (a0_0 == 1) = true := beq_iff_eq.mpr c16
   have c16b1 : (a0_0 != 1) = false := bne_eq_false_iff_eq.mpr c16
   clear c16
   replace H := Option.bind_eq_some_iff.mp H
   obtain ⟨t279, A170, H⟩ := H
   try dsimp only at H
   have A17 := Aside0.mk A170
   clear A170
   by_cases c18 : 0 ≤ a0_1
   ·rw [if_pos c18] at H
    have c18b0 : decide (0 ≤ a0_1) = true := decide_eq_true c18
    clear c18
    by_cases c19 : a0_1 < (t279.length : Int)
    ·rw [if_pos c19] at H
     have c19b0 : decide (a0_1 < (t279.length : Int)) = true := decide_eq_true c19
     clear c19
     by_cases c20 : 0 ≤ a0_2
     ·rw [if_pos c20] at H
      have c20b0 : decide (0 ≤ a0_2) = true := decide_eq_true c20
      clear c20
      by_cases c21 : a0_2 < ((rd_L5 t279 a0_1).length : Int)
      ·rw [if_pos c21] at H
       have c21b0 : decide (a0_2 < ((rd_L5 t279 a0_1).length : Int)) = true := decide_eq_true c21
       clear c21
       obtain rfl := Option.some.inj H
       go_enter Tryd.func60, Tryd.ntmps60
       try go_wp2_with (first | ((with_reducible refine gate_dst (N := 2) rfl ?_); refine bxE 2 #[.int .i64 a0_0, .int .i64 a0_1, .int .i64 a0_2] 30 rfl ?_; intro gb272 hg w22 hbox hb; have BK272 := Aside0.mk (hbox); have GW272 := gS HB hg; have GE272 := gS HB hg; replace HB := hS HB hb; clear hb hbox hg) | ((with_reducible refine gate_dst (N := 3) rfl ?_); refine bxE 3 #[.int .i64 a1_0, .slice A1_1 l1_1.length c1_1] 34 rfl ?_; intro gb273 hg w23 hbox hb; have BK273 := Aside0.mk (hbox); have GW273 := gS HB hg; have GE273 := gS HB hg; have NB272_273 := nL BK272 hg; have NB273_272 := nG BK272 hg; replace BK272 := bS BK272 hb; replace HB := hS HB hb; clear hb hbox hg; have hnb24 := NB272_273.out; have hnc24 := NB273_272.out; have hcz25_0 := cz BK272 0; have hcz25_1 := cz BK272 1; have hcz25_2 := cz BK272 2; have hfz25_0 := fz BK272 0; have hfz25_1 := fz BK272 1; have hfz25_2 := fz BK272 2))
       replace BK272 := Aside0.mk (blk_drew BK272.out)
       replace BK273 := Aside0.mk (blk_drew BK273.out)
       replace HB := Aside0.mk (below_drew1 HB.out)
       refine start_ (n := 12) (S := fun w' => w'.cell? ⟨gb273, 0, none⟩ = some (.int .i64 a1_0) ∧ w'.cell? ⟨gb273, 1, none⟩ = some (.slice A1_1 l1_1.length c1_1) ∧ w'.cell? ⟨gb272, 0, none⟩ = some (.int .i64 a0_0) ∧ w'.cell? ⟨gb272, 1, none⟩ = some (.int .i64 a0_1) ∧ w'.cell? ⟨gb272, 2, none⟩ = some (.int .i64 a0_2)) (ds := []) (bz 12 0) (by kernel_rfl) rfl rfl ⟨(blk_cell BK273.out 0).trans rfl, (blk_cell BK273.out 1).trans rfl, (blk_cell BK272.out 0).trans rfl, (blk_cell BK272.out 1).trans rfl, (blk_cell BK272.out 2).trans rfl⟩ (fun hHeld => ?_); refine with_tabW spec_pzFits.tab5 spec_pzFits.bits5 (fun HT_ HW_ => ?_)
       generalize w23.drew = w26 at BK272 BK273 HB hHeld ⊢
       refine run_ [(0, 2, 4, some 23), (0, 6, 68, some 27), (1, 0, 69, some 21), (1, 3, 77, some 24), (1, 7, 205, some 28)] ?_
       repeat (first | (apply tag0; refine run_p (v := ?_) (a' := ?_) rfl rfl (any_of HT_.out (by kernel_rfl)) (fun _ _ _ h => h) (by rfl) ?_ ?_ ?_; rotate_left 2; (intro w'; go_simp; with_reducible rfl); (first | (simp only [Act.put, List.setIfInBounds_toArray, List.set_cons_zero, List.set_cons_succ, i64_w, i32_w]; rfl) | rfl)) | (apply tag1; refine run_t (v := ?_) (a' := ?_) rfl rfl (take_ofW HT_.out HW_.out (by kernel_rfl)) (fun _ _ _ h => h) (by rfl) ?_ hHeld ?_ ?_; rotate_left 2; (rintro w' ⟨s0, s1, s2, s3, s4⟩; go_simp; with_reducible rfl); (first | (simp only [Act.put, List.setIfInBounds_toArray, List.set_cons_zero, List.set_cons_succ, i64_w, i32_w]; rfl) | rfl)))
       refine run_nil ?_
       refine one_ (i := 1) (N := some 22) (bz 12 207) rfl rfl (one_of HT_.out (by kernel_rfl)) (by decide) (fun K hK => ?_)
       refine goes_ Tryd.func70 (by kernel_rfl) rfl #[.agg #[.int .i64 a1_0, .slice A1_1 l1_1.length c1_1]] (by rfl) rfl rfl mapT ?_
       with_reducible refine (spec_paTable.calls k a1_0 _ _ l1_1 t279 _ ?side1 ?side2 A17.out).mono ?_
       (case side1 => exact cS (Kd.C_below HR1_1.out HB.out))
       (case side2 => exact HC1_1.out)
       rintro e w27 ⟨v280, rfl, ho0, hb⟩
       refine ⟨_, rfl, ?_⟩
       have HO281 := Aside0.mk (Kd.S_lower ho0 (below_size hB))
       replace BK272 := bS BK272 hb
       replace BK273 := bS BK273 hb
       replace HB := hS HB hb
       (try clear hb)
       (try clear hb2)
       (try clear hk)
       (try clear hi)
       (try clear ho0)
       obtain ⟨Ao28, co28, eo28⟩ := Kd.S_slice HO281.out
       (first | subst eo28 | (injection eo28 with f1_ f2_ f3_; have f4_ := f1_.symm; have f5_ := f3_.symm; clear f1_ f2_ f3_; subst f4_; subst f5_))
       have p282 : 0 ≤ (a0_1 : Int) := of_decide_eq_true (by first | (with_reducible assumption) | assumption)
       have q282 : a0_1 < (t279.length : Int) := of_decide_eq_true (by first | (with_reducible assumption) | assumption)
       obtain ⟨ad282, A282_0, c282_0, e282, hx282_0, hl282_0, hi282_0⟩ := at_L5 (Kd.S_reads' HO281.out).2.2 a0_1 p282 q282
       cases e282
       obtain ⟨ce282, hce282, hMe282, hcc282⟩ := Kd.S_get HO281.out [] a0_1 p282 (by first | exact q282 | exact of_decide_eq_true (by first | (with_reducible assumption) | assumption) | (have e_ := (Kd.S_reads' HO281.out).1; omega))
       obtain ⟨ve282_0, rfl, ge282_0⟩ := hMe282
       have hv282_0 := hcc282 0 _ rfl
       rw [Nat.add_zero, show ((Kd.slice 4 Kd.bool)).sz = 1 from rfl, Nat.mul_one] at hv282_0
       replace hv282_0 := Option.some.inj (hv282_0.symm.trans hx282_0)
       rw [hv282_0] at ge282_0
       have HL282_0 := Aside0.mk (show Kd.R Kd.bool 4 _ _ _ _ (rd_L5 t279 a0_1) from ge282_0)
       clear hv282_0 ge282_0
       clear hcc282 hce282
       have HR282_0 := Aside0.mk hi282_0
       have HC282_0 := Aside0.mk hl282_0
       clear hi282_0 hl282_0
       replace p282 := eq_true p282
       replace q282 := eq_true q282
       have p283 : 0 ≤ (a0_2 : Int) := of_decide_eq_true (by first | (with_reducible assumption) | assumption)
       have q283 : a0_2 < ((rd_L5 t279 a0_1).length : Int) := of_decide_eq_true (by first | (with_reducible assumption) | assumption)
       obtain ⟨ad283, e283, hx283_0⟩ := Kd.at_bool (by repeat (first | (with_reducible exact HR282_0.out) | (with_reducible refine Kd.C_alloc ?_ _) | (with_reducible refine Kd.C_drewN ?_ _) | (with_reducible refine Kd.C_drew ?_) | exact HR282_0.out)) a0_2 p283 q283
       cases e283
       replace p283 := eq_true p283
       replace q283 := eq_true q283
       refine hK.out _ _ ⟨(blk_cell BK273.out 0).trans rfl, (blk_cell BK273.out 1).trans rfl, (blk_cell BK272.out 0).trans rfl, (blk_cell BK272.out 1).trans rfl, (blk_cell BK272.out 2).trans rfl⟩ (fun hHeld => ?_)
       have hHeld2 : (fun w' : World => w'.cell? ⟨gb273, 0, none⟩ = some (.int .i64 a1_0) ∧ w'.cell? ⟨gb273, 1, none⟩ = some (.slice A1_1 l1_1.length c1_1) ∧ w'.cell? ⟨gb272, 0, none⟩ = some (.int .i64 a0_0) ∧ w'.cell? ⟨gb272, 1, none⟩ = some (.int .i64 a0_1) ∧ w'.cell? ⟨gb272, 2, none⟩ = some (.int .i64 a0_2) ∧ w'.cell? (ad282.add (a0_1).toNat) = some (.slice (some ad283) (rd_L5 t279 a0_1).length c282_0) ∧ w'.cell? (ad283.add (a0_2).toNat) = some (.bool (rdOf false (rd_L5 t279 a0_1) a0_2))) _ := ⟨(blk_cell BK273.out 0).trans rfl, (blk_cell BK273.out 1).trans rfl, (blk_cell BK272.out 0).trans rfl, (blk_cell BK272.out 1).trans rfl, (blk_cell BK272.out 2).trans rfl, hx282_0, hx283_0⟩
       refine more_ (fun w' : World => w'.cell? ⟨gb273, 0, none⟩ = some (.int .i64 a1_0) ∧ w'.cell? ⟨gb273, 1, none⟩ = some (.slice A1_1 l1_1.length c1_1) ∧ w'.cell? ⟨gb272, 0, none⟩ = some (.int .i64 a0_0) ∧ w'.cell? ⟨gb272, 1, none⟩ = some (.int .i64 a0_1) ∧ w'.cell? ⟨gb272, 2, none⟩ = some (.int .i64 a0_2) ∧ w'.cell? (ad282.add (a0_1).toNat) = some (.slice (some ad283) (rd_L5 t279 a0_1).length c282_0) ∧ w'.cell? (ad283.add (a0_2).toNat) = some (.bool (rdOf false (rd_L5 t279 a0_1) a0_2))) (fun _ ⟨s0, s1, s2, s3, s4, s5, s6⟩ => ⟨s0, s1, s2, s3, s4⟩) _ _ _ _ hHeld2 ?_
       clear hHeld
       have hHeld := hHeld2
       clear hHeld2
       clear hK K
       refine norm_ (a' := ?_) ?_ ?_
       rotate_left
       ·show Act.put _ (some 22) _ = _
        simp only [Act.put, List.setIfInBounds_toArray, List.set_cons_zero, List.set_cons_succ, i64_w, i32_w]
        rfl
       refine run_ [(0, 4, 223, some 25), (1, 5, 255, some 26), (0, 8, 511, some 29), (1, 9, 1023, some 30), (0, 10, 2047, some 31), (0, 11, 4095, some 4)] ?_
       repeat (first | (apply tag0; refine run_p (v := ?_) (a' := ?_) rfl rfl (any_of HT_.out (by kernel_rfl)) (fun _ _ _ h => h) (by rfl) ?_ ?_ ?_; rotate_left 2; (intro w'; go_simp; with_reducible rfl); (first | (simp only [Act.put, List.setIfInBounds_toArray, List.set_cons_zero, List.set_cons_succ, i64_w, i32_w]; rfl) | rfl)) | (apply tag1; refine run_t (v := ?_) (a' := ?_) rfl rfl (take_ofW HT_.out HW_.out (by kernel_rfl)) (fun _ _ _ h => h) (by rfl) ?_ hHeld ?_ ?_; rotate_left 2; (rintro w' ⟨s0, s1, s2, s3, s4, s5, s6⟩; go_simp; with_reducible rfl); (first | (simp only [Act.put, List.setIfInBounds_toArray, List.set_cons_zero, List.set_cons_succ, i64_w, i32_w]; rfl) | rfl)))
       refine run_nil ?_
       refine done_ (done_of HT_.out (by kernel_rfl)) ?_
       try go_wp2
       go_ret
       exact ⟨by first | rfl | (simp [errW_none, errW_some] <;> rfl) | (simp [*, errW_none, errW_some] <;> rfl), hB⟩
      ·rw [if_neg c21] at H
       exact absurd H (by simp)
     ·rw [if_neg c20] at H
      exact absurd H (by simp)
    ·rw [if_neg c19] at H
     exact absurd H (by simp)
   ·rw [if_neg c18] at H
    exact absurd H (by simp)
  ·rw [if_neg c16] at H
   have c16b0 : (a0_0 == 1) = false := beq_eq_false_iff_ne.mpr c16
   have c16b1 : (a0_0 != 1) = true := bne_iff_ne.mpr c16
   by_cases c29 : a0_0 = 2
   ·rw [if_pos c29] at H
    have c29b0 : (a0_0 == 2) = true := beq_iff_eq.mpr c29
    have c29b1 : (a0_0 != 2) = false := bne_eq_false_iff_eq.mpr c29
    clear c29
    replace H := Option.bind_eq_some_iff.mp H
    obtain ⟨t284, A300, H⟩ := H
    try dsimp only at H
    have A30 := Aside0.mk A300
    clear A300
    by_cases c31 : 0 ≤ a0_1
    ·rw [if_pos c31] at H
     have c31b0 : decide (0 ≤ a0_1) = true := decide_eq_true c31
     clear c31
     by_cases c32 : a0_1 < (t284.length : Int)
     ·rw [if_pos c32] at H
      have c32b0 : decide (a0_1 < (t284.length : Int)) = true := decide_eq_true c32
      clear c32
      obtain rfl := Option.some.inj H
      go_enter Tryd.func60, Tryd.ntmps60
      try go_wp2_with (first | ((with_reducible refine gate_dst (N := 2) rfl ?_); refine bxE 2 #[.int .i64 a0_0, .int .i64 a0_1, .int .i64 a0_2] 30 rfl ?_; intro gb272 hg w33 hbox hb; have BK272 := Aside0.mk (hbox); have GW272 := gS HB hg; have GE272 := gS HB hg; replace HB := hS HB hb; clear hb hbox hg) | ((with_reducible refine gate_dst (N := 3) rfl ?_); refine bxE 3 #[.int .i64 a1_0, .slice A1_1 l1_1.length c1_1] 34 rfl ?_; intro gb273 hg w34 hbox hb; have BK273 := Aside0.mk (hbox); have GW273 := gS HB hg; have GE273 := gS HB hg; have NB272_273 := nL BK272 hg; have NB273_272 := nG BK272 hg; replace BK272 := bS BK272 hb; replace HB := hS HB hb; clear hb hbox hg; have hnb35 := NB272_273.out; have hnc35 := NB273_272.out; have hcz36_0 := cz BK272 0; have hcz36_1 := cz BK272 1; have hcz36_2 := cz BK272 2; have hfz36_0 := fz BK272 0; have hfz36_1 := fz BK272 1; have hfz36_2 := fz BK272 2))
      replace BK272 := Aside0.mk (blk_drew BK272.out)
      replace BK273 := Aside0.mk (blk_drew BK273.out)
      replace HB := Aside0.mk (below_drew1 HB.out)
      refine start_ (n := 10) (S := fun w' => w'.cell? ⟨gb273, 0, none⟩ = some (.int .i64 a1_0) ∧ w'.cell? ⟨gb273, 1, none⟩ = some (.slice A1_1 l1_1.length c1_1) ∧ w'.cell? ⟨gb272, 0, none⟩ = some (.int .i64 a0_0) ∧ w'.cell? ⟨gb272, 1, none⟩ = some (.int .i64 a0_1) ∧ w'.cell? ⟨gb272, 2, none⟩ = some (.int .i64 a0_2)) (ds := []) (bz 10 0) (by kernel_rfl) rfl rfl ⟨(blk_cell BK273.out 0).trans rfl, (blk_cell BK273.out 1).trans rfl, (blk_cell BK272.out 0).trans rfl, (blk_cell BK272.out 1).trans rfl, (blk_cell BK272.out 2).trans rfl⟩ (fun hHeld => ?_); refine with_tabW spec_pzFits.tab7 spec_pzFits.bits7 (fun HT_ HW_ => ?_)
      generalize w34.drew = w37 at BK272 BK273 HB hHeld ⊢
      refine run_ [(0, 2, 4, some 36), (0, 6, 68, some 40), (1, 0, 69, some 34), (1, 3, 77, some 37), (1, 7, 205, some 41)] ?_
      repeat (first | (apply tag0; refine run_p (v := ?_) (a' := ?_) rfl rfl (any_of HT_.out (by kernel_rfl)) (fun _ _ _ h => h) (by rfl) ?_ ?_ ?_; rotate_left 2; (intro w'; go_simp; with_reducible rfl); (first | (simp only [Act.put, List.setIfInBounds_toArray, List.set_cons_zero, List.set_cons_succ, i64_w, i32_w]; rfl) | rfl)) | (apply tag1; refine run_t (v := ?_) (a' := ?_) rfl rfl (take_ofW HT_.out HW_.out (by kernel_rfl)) (fun _ _ _ h => h) (by rfl) ?_ hHeld ?_ ?_; rotate_left 2; (rintro w' ⟨s0, s1, s2, s3, s4⟩; go_simp; with_reducible rfl); (first | (simp only [Act.put, List.setIfInBounds_toArray, List.set_cons_zero, List.set_cons_succ, i64_w, i32_w]; rfl) | rfl)))
      refine run_nil ?_
      refine one_ (i := 1) (N := some 35) (bz 10 207) rfl rfl (one_of HT_.out (by kernel_rfl)) (by decide) (fun K hK => ?_)
      refine goes_ Tryd.func71 (by kernel_rfl) rfl #[.agg #[.int .i64 a1_0, .slice A1_1 l1_1.length c1_1]] (by rfl) rfl rfl mapT ?_
      with_reducible refine (spec_paNumbers.calls k a1_0 _ _ l1_1 t284 _ ?side1 ?side2 A30.out).mono ?_
      (case side1 => exact cS (Kd.C_below HR1_1.out HB.out))
      (case side2 => exact HC1_1.out)
      rintro e w38 ⟨v285, rfl, ho0, hb⟩
      refine ⟨_, rfl, ?_⟩
      have HO286 := Aside0.mk (Kd.R_lower ho0 (below_size hB))
      replace BK272 := bS BK272 hb
      replace BK273 := bS BK273 hb
      replace HB := hS HB hb
      (try clear hb)
      (try clear hb2)
      (try clear hk)
      (try clear hi)
      (try clear ho0)
      obtain ⟨Ao39, co39, eo39⟩ := Kd.R_slice HO286.out
      (first | subst eo39 | (injection eo39 with f1_ f2_ f3_; have f4_ := f1_.symm; have f5_ := f3_.symm; clear f1_ f2_ f3_; subst f4_; subst f5_))
      have p287 : 0 ≤ (a0_1 : Int) := of_decide_eq_true (by first | (with_reducible assumption) | assumption)
      have q287 : a0_1 < (t284.length : Int) := of_decide_eq_true (by first | (with_reducible assumption) | assumption)
      obtain ⟨ad287, e287, hx287_0⟩ := Kd.at_int (Kd.R_reads' HO286.out).2.2 a0_1 p287 q287
      cases e287
      replace p287 := eq_true p287
      replace q287 := eq_true q287
      refine hK.out _ _ ⟨(blk_cell BK273.out 0).trans rfl, (blk_cell BK273.out 1).trans rfl, (blk_cell BK272.out 0).trans rfl, (blk_cell BK272.out 1).trans rfl, (blk_cell BK272.out 2).trans rfl⟩ (fun hHeld => ?_)
      have hHeld2 : (fun w' : World => w'.cell? ⟨gb273, 0, none⟩ = some (.int .i64 a1_0) ∧ w'.cell? ⟨gb273, 1, none⟩ = some (.slice A1_1 l1_1.length c1_1) ∧ w'.cell? ⟨gb272, 0, none⟩ = some (.int .i64 a0_0) ∧ w'.cell? ⟨gb272, 1, none⟩ = some (.int .i64 a0_1) ∧ w'.cell? ⟨gb272, 2, none⟩ = some (.int .i64 a0_2) ∧ w'.cell? (ad287.add (a0_1).toNat) = some (.int .i64 (rd t284 a0_1))) _ := ⟨(blk_cell BK273.out 0).trans rfl, (blk_cell BK273.out 1).trans rfl, (blk_cell BK272.out 0).trans rfl, (blk_cell BK272.out 1).trans rfl, (blk_cell BK272.out 2).trans rfl, hx287_0⟩
      refine more_ (fun w' : World => w'.cell? ⟨gb273, 0, none⟩ = some (.int .i64 a1_0) ∧ w'.cell? ⟨gb273, 1, none⟩ = some (.slice A1_1 l1_1.length c1_1) ∧ w'.cell? ⟨gb272, 0, none⟩ = some (.int .i64 a0_0) ∧ w'.cell? ⟨gb272, 1, none⟩ = some (.int .i64 a0_1) ∧ w'.cell? ⟨gb272, 2, none⟩ = some (.int .i64 a0_2) ∧ w'.cell? (ad287.add (a0_1).toNat) = some (.int .i64 (rd t284 a0_1))) (fun _ ⟨s0, s1, s2, s3, s4, s5⟩ => ⟨s0, s1, s2, s3, s4⟩) _ _ _ _ hHeld2 ?_
      clear hHeld
      have hHeld := hHeld2
      clear hHeld2
      clear hK K
      refine norm_ (a' := ?_) ?_ ?_
      rotate_left
      ·show Act.put _ (some 35) _ = _
       simp only [Act.put, List.setIfInBounds_toArray, List.set_cons_zero, List.set_cons_succ, i64_w, i32_w]
       rfl
      refine run_ [(0, 4, 223, some 38), (1, 5, 255, some 39), (0, 8, 511, some 42), (0, 9, 1023, some 4)] ?_
      repeat (first | (apply tag0; refine run_p (v := ?_) (a' := ?_) rfl rfl (any_of HT_.out (by kernel_rfl)) (fun _ _ _ h => h) (by rfl) ?_ ?_ ?_; rotate_left 2; (intro w'; go_simp; with_reducible rfl); (first | (simp only [Act.put, List.setIfInBounds_toArray, List.set_cons_zero, List.set_cons_succ, i64_w, i32_w]; rfl) | rfl)) | (apply tag1; refine run_t (v := ?_) (a' := ?_) rfl rfl (take_ofW HT_.out HW_.out (by kernel_rfl)) (fun _ _ _ h => h) (by rfl) ?_ hHeld ?_ ?_; rotate_left 2; (rintro w' ⟨s0, s1, s2, s3, s4, s5⟩; go_simp; with_reducible rfl); (first | (simp only [Act.put, List.setIfInBounds_toArray, List.set_cons_zero, List.set_cons_succ, i64_w, i32_w]; rfl) | rfl)))
      refine run_nil ?_
      refine done_ (done_of HT_.out (by kernel_rfl)) ?_
      try go_wp2
      go_ret
      exact ⟨by first | rfl | (simp [errW_none, errW_some] <;> rfl) | (simp [*, errW_none, errW_some] <;> rfl), hB⟩
     ·rw [if_neg c32] at H
      exact absurd H (by simp)
    ·rw [if_neg c31] at H
     exact absurd H (by simp)
   ·rw [if_neg c29] at H
    have c29b0 : (a0_0 == 2) = false := beq_eq_false_iff_ne.mpr c29
    have c29b1 : (a0_0 != 2) = true := bne_iff_ne.mpr c29
    by_cases c40 : a0_0 = 3
    ·rw [if_pos c40] at H
     have c40b0 : (a0_0 == 3) = true := beq_iff_eq.mpr c40
     have c40b1 : (a0_0 != 3) = false := bne_eq_false_iff_eq.mpr c40
     clear c40
     obtain rfl := Option.some.inj H
     go_enter Tryd.func60, Tryd.ntmps60
     go_wp2_with (first | ((with_reducible refine gate_dst (N := 2) rfl ?_); refine bxE 2 #[.int .i64 a0_0, .int .i64 a0_1, .int .i64 a0_2] 30 rfl ?_; intro gb272 hg w41 hbox hb; have BK272 := Aside0.mk (hbox); have GW272 := gS HB hg; have GE272 := gS HB hg; replace HB := hS HB hb; clear hb hbox hg) | ((with_reducible refine gate_dst (N := 3) rfl ?_); refine bxE 3 #[.int .i64 a1_0, .slice A1_1 l1_1.length c1_1] 34 rfl ?_; intro gb273 hg w42 hbox hb; have BK273 := Aside0.mk (hbox); have GW273 := gS HB hg; have GE273 := gS HB hg; have NB272_273 := nL BK272 hg; have NB273_272 := nG BK272 hg; replace BK272 := bS BK272 hb; replace HB := hS HB hb; clear hb hbox hg; have hnb43 := NB272_273.out; have hnc43 := NB273_272.out; have hcz44_0 := cz BK272 0; have hcz44_1 := cz BK272 1; have hcz44_2 := cz BK272 2; have hfz44_0 := fz BK272 0; have hfz44_1 := fz BK272 1; have hfz44_2 := fz BK272 2; have hcz45_0 := cz BK273 0; have hcz45_1 := cz BK273 1; have hfz45_0 := fz BK273 0; have hfz45_1 := fz BK273 1))
     go_ret
     exact ⟨by first | rfl | (simp [errW_none, errW_some] <;> rfl) | (simp [*, errW_none, errW_some] <;> rfl), hB⟩
    ·rw [if_neg c40] at H
     have c40b0 : (a0_0 == 3) = false := beq_eq_false_iff_ne.mpr c40
     have c40b1 : (a0_0 != 3) = true := bne_iff_ne.mpr c40
     by_cases c46 : a0_0 = 4
     ·rw [if_pos c46] at H
      have c46b0 : (a0_0 == 4) = true := beq_iff_eq.mpr c46
      have c46b1 : (a0_0 != 4) = false := bne_eq_false_iff_eq.mpr c46
      clear c46
      replace H := Option.bind_eq_some_iff.mp H
      obtain ⟨t288, A470, H⟩ := H
      replace H : (some (t288 == a0_1)) = some r := H
      have A47 := Aside0.mk A470
      clear A470
      obtain rfl := Option.some.inj H
      go_enter Tryd.func60, Tryd.ntmps60
      try go_wp2_with (first | ((with_reducible refine gate_dst (N := 2) rfl ?_); refine bxE 2 #[.int .i64 a0_0, .int .i64 a0_1, .int .i64 a0_2] 30 rfl ?_; intro gb272 hg w48 hbox hb; have BK272 := Aside0.mk (hbox); have GW272 := gS HB hg; have GE272 := gS HB hg; replace HB := hS HB hb; clear hb hbox hg) | ((with_reducible refine gate_dst (N := 3) rfl ?_); refine bxE 3 #[.int .i64 a1_0, .slice A1_1 l1_1.length c1_1] 34 rfl ?_; intro gb273 hg w49 hbox hb; have BK273 := Aside0.mk (hbox); have GW273 := gS HB hg; have GE273 := gS HB hg; have NB272_273 := nL BK272 hg; have NB273_272 := nG BK272 hg; replace BK272 := bS BK272 hb; replace HB := hS HB hb; clear hb hbox hg; have hnb50 := NB272_273.out; have hnc50 := NB273_272.out; have hcz51_0 := cz BK272 0; have hcz51_1 := cz BK272 1; have hcz51_2 := cz BK272 2; have hfz51_0 := fz BK272 0; have hfz51_1 := fz BK272 1; have hfz51_2 := fz BK272 2))
      replace BK272 := Aside0.mk (blk_drew BK272.out)
      replace BK273 := Aside0.mk (blk_drew BK273.out)
      replace HB := Aside0.mk (below_drew1 HB.out)
      refine start_ (n := 6) (S := fun w' => w'.cell? ⟨gb273, 0, none⟩ = some (.int .i64 a1_0) ∧ w'.cell? ⟨gb273, 1, none⟩ = some (.slice A1_1 l1_1.length c1_1) ∧ w'.cell? ⟨gb272, 0, none⟩ = some (.int .i64 a0_0) ∧ w'.cell? ⟨gb272, 1, none⟩ = some (.int .i64 a0_1) ∧ w'.cell? ⟨gb272, 2, none⟩ = some (.int .i64 a0_2)) (ds := []) (bz 6 0) (by kernel_rfl) rfl rfl ⟨(blk_cell BK273.out 0).trans rfl, (blk_cell BK273.out 1).trans rfl, (blk_cell BK272.out 0).trans rfl, (blk_cell BK272.out 1).trans rfl, (blk_cell BK272.out 2).trans rfl⟩ (fun hHeld => ?_)
      generalize w49.drew = w52 at BK272 BK273 HB hHeld ⊢
      refine run_ [(0, 2, 4, some 55), (1, 0, 5, some 53), (1, 3, 13, some 56)] ?_
      repeat (first | (apply tag0; refine run_p (v := ?_) (a' := ?_) rfl rfl (by kernel_rfl) (fun _ _ _ h => h) (by rfl) ?_ ?_ ?_; rotate_left 2; (intro w'; go_simp; with_reducible rfl); (first | (simp only [Act.put, List.setIfInBounds_toArray, List.set_cons_zero, List.set_cons_succ, i64_w, i32_w]; rfl) | rfl)) | (apply tag1; refine run_t (v := ?_) (a' := ?_) rfl rfl (by kernel_rfl) (fun _ _ _ h => h) (by rfl) ?_ hHeld ?_ ?_; rotate_left 2; (rintro w' ⟨s0, s1, s2, s3, s4⟩; go_simp; with_reducible rfl); (first | (simp only [Act.put, List.setIfInBounds_toArray, List.set_cons_zero, List.set_cons_succ, i64_w, i32_w]; rfl) | rfl)))
      refine run_nil ?_
      refine one_ (i := 1) (N := some 54) (bz 6 15) rfl rfl (by kernel_rfl) (by decide) (fun K hK => ?_)
      refine goes_ Tryd.func72 (by kernel_rfl) rfl #[.agg #[.int .i64 a1_0, .slice A1_1 l1_1.length c1_1]] (by rfl) rfl rfl mapT ?_
      with_reducible refine (spec_pzThrees.calls k a1_0 _ _ l1_1 t288 _ ?side1 ?side2 A47.out).mono ?_
      (case side1 => exact cS (Kd.C_below HR1_1.out HB.out))
      (case side2 => exact HC1_1.out)
      rintro e w53 ⟨rfl, hb⟩
      refine ⟨_, rfl, ?_⟩
      replace BK272 := bS BK272 hb
      replace BK273 := bS BK273 hb
      replace HB := hS HB hb
      (try clear hb)
      (try clear hb2)
      (try clear hk)
      (try clear hi)
      refine hK.out _ _ ⟨(blk_cell BK273.out 0).trans rfl, (blk_cell BK273.out 1).trans rfl, (blk_cell BK272.out 0).trans rfl, (blk_cell BK272.out 1).trans rfl, (blk_cell BK272.out 2).trans rfl⟩ (fun hHeld => ?_)
      clear hK K
      refine norm_ (a' := ?_) ?_ ?_
      rotate_left
      ·show Act.put _ (some 54) _ = _
       simp only [Act.put, List.setIfInBounds_toArray, List.set_cons_zero, List.set_cons_succ, i64_w, i32_w]
       rfl
      refine run_ [(0, 4, 31, some 57), (0, 5, 63, some 4)] ?_
      repeat ((apply tag0; refine run_p (v := ?_) (a' := ?_) rfl rfl (by kernel_rfl) (fun _ _ _ h => h) (by rfl) ?_ ?_ ?_; rotate_left 2; (intro w'; go_simp; with_reducible rfl); (first | (simp only [Act.put, List.setIfInBounds_toArray, List.set_cons_zero, List.set_cons_succ, i64_w, i32_w]; rfl) | rfl)))
      refine run_nil ?_
      refine done_ (by kernel_rfl) ?_
      try go_wp2
      go_ret
      exact ⟨by first | rfl | (simp [errW_none, errW_some] <;> rfl) | (simp [*, errW_none, errW_some] <;> rfl), hB⟩
     ·rw [if_neg c46] at H
      have c46b0 : (a0_0 == 4) = false := beq_eq_false_iff_ne.mpr c46
      have c46b1 : (a0_0 != 4) = true := bne_iff_ne.mpr c46
      replace H := Option.bind_eq_some_iff.mp H
      obtain ⟨t289, A540, H⟩ := H
      try dsimp only at H
      have A54 := Aside0.mk A540
      clear A540
      obtain rfl := Option.some.inj H
      go_enter Tryd.func60, Tryd.ntmps60
      try go_wp2_with (first | ((with_reducible refine gate_dst (N := 2) rfl ?_); refine bxE 2 #[.int .i64 a0_0, .int .i64 a0_1, .int .i64 a0_2] 30 rfl ?_; intro gb272 hg w55 hbox hb; have BK272 := Aside0.mk (hbox); have GW272 := gS HB hg; have GE272 := gS HB hg; replace HB := hS HB hb; clear hb hbox hg) | ((with_reducible refine gate_dst (N := 3) rfl ?_); refine bxE 3 #[.int .i64 a1_0, .slice A1_1 l1_1.length c1_1] 34 rfl ?_; intro gb273 hg w56 hbox hb; have BK273 := Aside0.mk (hbox); have GW273 := gS HB hg; have GE273 := gS HB hg; have NB272_273 := nL BK272 hg; have NB273_272 := nG BK272 hg; replace BK272 := bS BK272 hb; replace HB := hS HB hb; clear hb hbox hg; have hnb57 := NB272_273.out; have hnc57 := NB273_272.out; have hcz58_0 := cz BK272 0; have hcz58_1 := cz BK272 1; have hcz58_2 := cz BK272 2; have hfz58_0 := fz BK272 0; have hfz58_1 := fz BK272 1; have hfz58_2 := fz BK272 2))
      replace BK272 := Aside0.mk (blk_drew BK272.out)
      replace BK273 := Aside0.mk (blk_drew BK273.out)
      replace HB := Aside0.mk (below_drew1 HB.out)
      refine start_ (n := 7) (S := fun w' => w'.cell? ⟨gb273, 0, none⟩ = some (.int .i64 a1_0) ∧ w'.cell? ⟨gb273, 1, none⟩ = some (.slice A1_1 l1_1.length c1_1) ∧ w'.cell? ⟨gb272, 0, none⟩ = some (.int .i64 a0_0) ∧ w'.cell? ⟨gb272, 1, none⟩ = some (.int .i64 a0_1) ∧ w'.cell? ⟨gb272, 2, none⟩ = some (.int .i64 a0_2)) (ds := []) (bz 7 0) (by kernel_rfl) rfl rfl ⟨(blk_cell BK273.out 0).trans rfl, (blk_cell BK273.out 1).trans rfl, (blk_cell BK272.out 0).trans rfl, (blk_cell BK272.out 1).trans rfl, (blk_cell BK272.out 2).trans rfl⟩ (fun hHeld => ?_)
      generalize w56.drew = w59 at BK272 BK273 HB hHeld ⊢
      refine run_ [(0, 3, 8, some 61), (1, 0, 9, some 58), (1, 4, 25, some 62)] ?_
      repeat (first | (apply tag0; refine run_p (v := ?_) (a' := ?_) rfl rfl (by kernel_rfl) (fun _ _ _ h => h) (by rfl) ?_ ?_ ?_; rotate_left 2; (intro w'; go_simp; with_reducible rfl); (first | (simp only [Act.put, List.setIfInBounds_toArray, List.set_cons_zero, List.set_cons_succ, i64_w, i32_w]; rfl) | rfl)) | (apply tag1; refine run_t (v := ?_) (a' := ?_) rfl rfl (by kernel_rfl) (fun _ _ _ h => h) (by rfl) ?_ hHeld ?_ ?_; rotate_left 2; (rintro w' ⟨s0, s1, s2, s3, s4⟩; go_simp; with_reducible rfl); (first | (simp only [Act.put, List.setIfInBounds_toArray, List.set_cons_zero, List.set_cons_succ, i64_w, i32_w]; rfl) | rfl)))
      refine run_nil ?_
      refine one_ (i := 1) (N := some 59) (bz 7 27) rfl rfl (by kernel_rfl) (by decide) (fun K hK => ?_)
      refine goes_ Tryd.func73 (by kernel_rfl) rfl #[.agg #[.int .i64 a1_0, .slice A1_1 l1_1.length c1_1]] (by rfl) rfl rfl mapT ?_
      with_reducible refine (spec_paParts.calls k a1_0 _ _ l1_1 t289 _ ?side1 ?side2 A54.out).mono ?_
      (case side1 => exact cS (Kd.C_below HR1_1.out HB.out))
      (case side2 => exact HC1_1.out)
      rintro e w60 ⟨v290, rfl, ho0, hb⟩
      refine ⟨_, rfl, ?_⟩
      have HO291 := Aside0.mk (Kd.S_lower ho0 (below_size hB))
      replace BK272 := bS BK272 hb
      replace BK273 := bS BK273 hb
      replace HB := hS HB hb
      (try clear hb)
      (try clear hb2)
      (try clear hk)
      (try clear hi)
      (try clear ho0)
      obtain ⟨Ao61, co61, eo61⟩ := Kd.S_slice HO291.out
      (first | subst eo61 | (injection eo61 with f1_ f2_ f3_; have f4_ := f1_.symm; have f5_ := f3_.symm; clear f1_ f2_ f3_; subst f4_; subst f5_))
      refine hK.out _ _ ⟨(blk_cell BK273.out 0).trans rfl, (blk_cell BK273.out 1).trans rfl, (blk_cell BK272.out 0).trans rfl, (blk_cell BK272.out 1).trans rfl, (blk_cell BK272.out 2).trans rfl⟩ (fun hHeld => ?_)
      clear hK K
      refine norm_ (a' := ?_) ?_ ?_
      rotate_left
      ·show Act.put _ (some 59) _ = _
       simp only [Act.put, List.setIfInBounds_toArray, List.set_cons_zero, List.set_cons_succ, i64_w, i32_w]
       rfl
      refine run_ [(0, 2, 31, some 60), (0, 5, 63, some 63), (0, 6, 127, some 4)] ?_
      repeat ((apply tag0; refine run_p (v := ?_) (a' := ?_) rfl rfl (by kernel_rfl) (fun _ _ _ h => h) (by rfl) ?_ ?_ ?_; rotate_left 2; (intro w'; go_simp; with_reducible rfl); (first | (simp only [Act.put, List.setIfInBounds_toArray, List.set_cons_zero, List.set_cons_succ, i64_w, i32_w]; rfl) | rfl)))
      refine run_nil ?_
      refine done_ (by kernel_rfl) ?_
      try go_wp2
      go_ret
      exact ⟨by first | rfl | (simp [errW_none, errW_some] <;> rfl) | (simp [*, errW_none, errW_some] <;> rfl), hB⟩

/-! ### spec_l1Least: function 68 -/
def spec_l1Least.f (a0 : Int) (a1 : Int) : Option (Int) := if a0 < a1 then (some a0) else (some a1)
set_option maxHeartbeats 8000000 in
set_option maxRecDepth 100000 in
theorem spec_l1Least.calls (a0 : Int) (a1 : Int) (r : Int) (w : World) (h : spec_l1Least.f a0 a1 = some r) :
  Calls Tryd.prog 68 #[.int .i64 a0, .int .i64 a1] w fun e w' => e = .returned (.int .i64 r) ∧ Drawn0 w w' := by
 have H : (if a0 < a1 then (some a0) else (some a1)) = some r := h
 clear h
 by_cases c3 : a0 < a1
 ·rw [if_pos c3] at H
  have c3b0 : decide (a0 < a1) = true := decide_eq_true c3
  clear c3
  obtain rfl := Option.some.inj H
  go_enter Tryd.func68, Tryd.ntmps68
  go_wp2
  go_ret
  exact ⟨by first | rfl | (simp; done) | (simp [*]; done), by repeat (first | exact Drawn0.refl _ | apply Drawn0.step)⟩
 ·rw [if_neg c3] at H
  have c3b0 : decide (a0 < a1) = false := decide_eq_false c3
  clear c3
  obtain rfl := Option.some.inj H
  go_enter Tryd.func68, Tryd.ntmps68
  go_wp2
  go_ret
  exact ⟨by first | rfl | (simp; done) | (simp [*]; done), by repeat (first | exact Drawn0.refl _ | apply Drawn0.step)⟩

/-! ### spec_paLess: function 97 -/
def spec_paLess.f (a0_0 : Int) (a0_1 : Int) (a1_0 : Int) (a1_1 : Int) : Option (Bool) := if a0_0 < a1_0 then (some true) else (if a0_0 = a1_0 then (some (decide (a0_1 < a1_1))) else (some false))
set_option maxHeartbeats 8000000 in
set_option maxRecDepth 100000 in
theorem spec_paLess.calls (a0_0 : Int) (a0_1 : Int) (a1_0 : Int) (a1_1 : Int) (r : Bool) (w : World) (h : spec_paLess.f a0_0 a0_1 a1_0 a1_1 = some r) :
  Calls Tryd.prog 97 #[.agg #[.int .i64 a0_0, .int .i64 a0_1], .agg #[.int .i64 a1_0, .int .i64 a1_1]] w fun e w' => e = .returned (.bool r) ∧ Below w.heap.size w w' := by
 have hu110 := Tryd.underlying110
 have HB := Aside0.mk (Below.refl w.heap.size w)
 have H : (if a0_0 < a1_0 then (some true) else (if a0_0 = a1_0 then (some (decide (a0_1 < a1_1))) else (some false))) = some r := h
 clear h
 by_cases c3 : a0_0 < a1_0
 ·rw [if_pos c3] at H
  have c3b0 : decide (a0_0 < a1_0) = true := decide_eq_true c3
  clear c3
  obtain rfl := Option.some.inj H
  go_enter Tryd.func97, Tryd.ntmps97
  go_wp2_with (first | ((with_reducible refine gate_dst (N := 2) rfl ?_); refine bxE 2 #[.int .i64 a0_0, .int .i64 a0_1] 110 rfl ?_; intro gb292 hg w4 hbox hb; have BK292 := Aside0.mk (hbox); have GW292 := gS HB hg; have GE292 := gS HB hg; replace HB := hS HB hb; clear hb hbox hg) | ((with_reducible refine gate_dst (N := 3) rfl ?_); refine bxE 3 #[.int .i64 a1_0, .int .i64 a1_1] 110 rfl ?_; intro gb293 hg w5 hbox hb; have BK293 := Aside0.mk (hbox); have GW293 := gS HB hg; have GE293 := gS HB hg; have NB292_293 := nL BK292 hg; have NB293_292 := nG BK292 hg; replace BK292 := bS BK292 hb; replace HB := hS HB hb; clear hb hbox hg; have hnb6 := NB292_293.out; have hnc6 := NB293_292.out; have hcz7_0 := cz BK292 0; have hcz7_1 := cz BK292 1; have hfz7_0 := fz BK292 0; have hfz7_1 := fz BK292 1; have hcz8_0 := cz BK293 0; have hcz8_1 := cz BK293 1; have hfz8_0 := fz BK293 0; have hfz8_1 := fz BK293 1))
  go_ret
  exact ⟨by first | rfl | (simp [errW_none, errW_some] <;> rfl) | (simp [*, errW_none, errW_some] <;> rfl), hB⟩
 ·rw [if_neg c3] at H
  have c3b0 : decide (a0_0 < a1_0) = false := decide_eq_false c3
  clear c3
  by_cases c9 : a0_0 = a1_0
  ·rw [if_pos c9] at H
   have c9b0 : (a0_0 == a1_0) = true := beq_iff_eq.mpr c9
   have c9b1 : (a0_0 != a1_0) = false := bne_eq_false_iff_eq.mpr c9
   clear c9
   obtain rfl := Option.some.inj H
   go_enter Tryd.func97, Tryd.ntmps97
   go_wp2_with (first | ((with_reducible refine gate_dst (N := 2) rfl ?_); refine bxE 2 #[.int .i64 a0_0, .int .i64 a0_1] 110 rfl ?_; intro gb292 hg w10 hbox hb; have BK292 := Aside0.mk (hbox); have GW292 := gS HB hg; have GE292 := gS HB hg; replace HB := hS HB hb; clear hb hbox hg) | ((with_reducible refine gate_dst (N := 3) rfl ?_); refine bxE 3 #[.int .i64 a1_0, .int .i64 a1_1] 110 rfl ?_; intro gb293 hg w11 hbox hb; have BK293 := Aside0.mk (hbox); have GW293 := gS HB hg; have GE293 := gS HB hg; have NB292_293 := nL BK292 hg; have NB293_292 := nG BK292 hg; replace BK292 := bS BK292 hb; replace HB := hS HB hb; clear hb hbox hg; have hnb12 := NB292_293.out; have hnc12 := NB293_292.out; have hcz13_0 := cz BK292 0; have hcz13_1 := cz BK292 1; have hfz13_0 := fz BK292 0; have hfz13_1 := fz BK292 1; have hcz14_0 := cz BK293 0; have hcz14_1 := cz BK293 1; have hfz14_0 := fz BK293 0; have hfz14_1 := fz BK293 1))
   go_ret
   exact ⟨by first | rfl | (simp [errW_none, errW_some] <;> rfl) | (simp [*, errW_none, errW_some] <;> rfl), hB⟩
  ·rw [if_neg c9] at H
   have c9b0 : (a0_0 == a1_0) = false := beq_eq_false_iff_ne.mpr c9
   have c9b1 : (a0_0 != a1_0) = true := bne_iff_ne.mpr c9
   obtain rfl := Option.some.inj H
   go_enter Tryd.func97, Tryd.ntmps97
   go_wp2_with (first | ((with_reducible refine gate_dst (N := 2) rfl ?_); refine bxE 2 #[.int .i64 a0_0, .int .i64 a0_1] 110 rfl ?_; intro gb292 hg w15 hbox hb; have BK292 := Aside0.mk (hbox); have GW292 := gS HB hg; have GE292 := gS HB hg; replace HB := hS HB hb; clear hb hbox hg) | ((with_reducible refine gate_dst (N := 3) rfl ?_); refine bxE 3 #[.int .i64 a1_0, .int .i64 a1_1] 110 rfl ?_; intro gb293 hg w16 hbox hb; have BK293 := Aside0.mk (hbox); have GW293 := gS HB hg; have GE293 := gS HB hg; have NB292_293 := nL BK292 hg; have NB293_292 := nG BK292 hg; replace BK292 := bS BK292 hb; replace HB := hS HB hb; clear hb hbox hg; have hnb17 := NB292_293.out; have hnc17 := NB293_292.out; have hcz18_0 := cz BK292 0; have hcz18_1 := cz BK292 1; have hfz18_0 := fz BK292 0; have hfz18_1 := fz BK292 1; have hcz19_0 := cz BK293 0; have hcz19_1 := cz BK293 1; have hfz19_0 := fz BK293 0; have hfz19_1 := fz BK293 1))
   go_ret
   exact ⟨by first | rfl | (simp [errW_none, errW_some] <;> rfl) | (simp [*, errW_none, errW_some] <;> rfl), hB⟩

/-! ### spec_paBefore: function 130 -/
def spec_paBefore.l0 : Nat → List (S110) → Int → Int → Int → List (S110) → Int → List (S110) → Option (Bool)
 | 0, _, _, _, _, _, _, _ => none
 | k + 1, x8, x9, x10, x295000, x295001, x296000, x296001 => if x10 < x9 then (if 0 ≤ x10 then (if x10 < (x8.length : Int) then (if x10 ≥ (x296001.length : Int) then (some false) else (if x10 < (x296001.length : Int) then (if (!(((rd_T110 x8 x10).f0) == ((rd_T110 x296001 x10).f0)) || (!(((rd_T110 x8 x10).f1) == ((rd_T110 x296001 x10).f1)))) = true then ((spec_paLess.f ((rd_T110 x8 x10).f0) ((rd_T110 x8 x10).f1) ((rd_T110 x296001 x10).f0) ((rd_T110 x296001 x10).f1)).bind fun t300 => (some t300)) else (spec_paBefore.l0 k x8 x9 (wrap64 (x10 + 1)) x295000 x295001 x296000 x296001)) else (none))) else (none)) else (none)) else (some (decide ((x295001.length : Int) < (x296001.length : Int))))
def spec_paBefore.f (k : Nat) (a0_0 : Int) (l0_1 : List (S110)) (a1_0 : Int) (l1_1 : List (S110)) : Option (Bool) := spec_paBefore.l0 k l0_1 (l0_1.length : Int) 0 a0_0 l0_1 a1_0 l1_1
theorem spec_paBefore.mono_l : ∀ k, (∀ y0 y1 y2 y3 y4 y5 y6, LeO (spec_paBefore.l0 k y0 y1 y2 y3 y4 y5 y6) (spec_paBefore.l0 (k + 1) y0 y1 y2 y3 y4 y5 y6))
 | 0 => fun _ _ _ _ _ _ _ r h => by simp [spec_paBefore.l0] at h
 | k + 1 => by
  have ih0 := spec_paBefore.mono_l k
  ·intro y0 y1 y2 y3 y4 y5 y6
   unfold spec_paBefore.l0
   repeat' first
   | (with_reducible exact ih0 _ _ _ _ _ _ _)
   | (with_reducible exact LeO.refl _)
   | (with_reducible exact LeO.none _)
   | (with_reducible refine LeO.ite ?_ ?_)
   | (with_reducible refine LeO.bind ?_ (fun _ => ?_))
   | exact ih0 _ _ _ _ _ _ _
   | exact LeO.none _
   | refine LeO.ite ?_ ?_
   | refine LeO.bind ?_ (fun _ => ?_)
theorem spec_paBefore.mono : ∀ a0 a1 a2 a3 k, LeO (spec_paBefore.f k a0 a1 a2 a3) (spec_paBefore.f (k + 1) a0 a1 a2 a3) := by
 intro a0 a1 a2 a3 k
 have ih0 := spec_paBefore.mono_l k
 unfold spec_paBefore.f
 repeat' first
   | (with_reducible exact ih0 _ _ _ _ _ _ _)
   | (with_reducible exact LeO.refl _)
   | (with_reducible exact LeO.none _)
   | (with_reducible refine LeO.ite ?_ ?_)
   | (with_reducible refine LeO.bind ?_ (fun _ => ?_))
   | exact ih0 _ _ _ _ _ _ _
   | exact LeO.none _
   | refine LeO.ite ?_ ?_
   | refine LeO.bind ?_ (fun _ => ?_)
def spec_paBefore.T7 : Bool × List (List Nat × List Nat) := (true, [([], []), ([], []), ([1], [1]), ([], []), ([2, 3], [2, 3]), ([4], [4]), ([0, 5], [0, 5]), ([6, 6, 0, 1, 2, 3, 4, 5, 6], [6])])
def spec_paBefore.B7 : List Nat := [0, 0, 2, 0, 14, 30, 63, 127]
theorem spec_paBefore.tab7 : rtab .any (opsOf Tryd.f130 7) = spec_paBefore.T7 := by kernel_rfl
theorem spec_paBefore.bits7 : waitsOk spec_paBefore.T7.2 spec_paBefore.B7 = true := by kernel_rfl
set_option maxHeartbeats 8000000 in
set_option maxRecDepth 100000 in
theorem spec_paBefore.calls (k : Nat) (a0_0 : Int) (A0_1 : Option Addr) (c0_1 : Nat) (l0_1 : List (S110)) (a1_0 : Int) (A1_1 : Option Addr) (c1_1 : Nat) (l1_1 : List (S110)) (r : Bool) (w : World) (hr0_1 : Kd.C k110 w A0_1 l0_1.length l0_1) (hc0_1 : l0_1.length ≤ c0_1) (hr1_1 : Kd.C k110 w A1_1 l1_1.length l1_1) (hc1_1 : l1_1.length ≤ c1_1) (h : spec_paBefore.f k a0_0 l0_1 a1_0 l1_1 = some r) :
  Calls Tryd.prog 130 #[.agg #[.int .i64 a0_0, .slice A0_1 l0_1.length c0_1], .agg #[.int .i64 a1_0, .slice A1_1 l1_1.length c1_1]] w fun e w' => e = .returned (.bool r) ∧ Below w.heap.size w w' := by
 have hu34 := Tryd.underlying34
 have hu110 := Tryd.underlying110
 have HR0_1 := Aside0.mk hr0_1
 have HC0_1 := Aside0.mk hc0_1
 clear hr0_1 hc0_1
 have HR1_1 := Aside0.mk hr1_1
 have HC1_1 := Aside0.mk hc1_1
 clear hr1_1 hc1_1
 have HB := Aside0.mk (Below.refl w.heap.size w)
 have H : (spec_paBefore.l0 k l0_1 (l0_1.length : Int) 0 a0_0 l0_1 a1_0 l1_1) = some r := h
 clear h
 have H' := Aside0.mk H
 clear H
 go_enter Tryd.func130, Tryd.ntmps130
 go_wp2_with (first | ((with_reducible refine gate_dst (N := 2) rfl ?_); refine bxE 2 #[.int .i64 a0_0, .slice A0_1 l0_1.length c0_1] 34 rfl ?_; intro gb294 hg w3 hbox hb; have BK294 := Aside0.mk (hbox); have GW294 := gS HB hg; have GE294 := gS HB hg; replace HB := hS HB hb; clear hb hbox hg) | ((with_reducible refine gate_dst (N := 3) rfl ?_); refine bxE 3 #[.int .i64 a1_0, .slice A1_1 l1_1.length c1_1] 34 rfl ?_; intro gb295 hg w4 hbox hb; have BK295 := Aside0.mk (hbox); have GW295 := gS HB hg; have GE295 := gS HB hg; have NB294_295 := nL BK294 hg; have NB295_294 := nG BK294 hg; replace BK294 := bS BK294 hb; replace HB := hS HB hb; clear hb hbox hg; have hnb5 := NB294_295.out; have hnc5 := NB295_294.out; have hcz6_0 := cz BK294 0; have hcz6_1 := cz BK294 1; have hfz6_0 := fz BK294 0; have hfz6_1 := fz BK294 1))
 go_loopg [10] k (fun kq v10 w' => ∃ (x10_1 : Int), v10 = .int .i64 x10_1 ∧ Aside0 (spec_paBefore.l0 kq l0_1 (l0_1.length : Int) x10_1 a0_0 l0_1 a1_0 l1_1 = some r) ∧ Aside0 (kq ≤ k) ∧ Aside0 (w'.heap[gb294]? = some (.cells #[.int .i64 a0_0, (.slice A0_1 l0_1.length c0_1)] 34 (0, 0))) ∧ Aside0 (w'.heap[gb295]? = some (.cells #[.int .i64 a1_0, (.slice A1_1 l1_1.length c1_1)] 34 (0, 0))) ∧ Aside0 (Below w.heap.size w w'))
 case atStart => exact ⟨(0), (by first | rfl | (simp; done) | (simp [*]; done)), H', ⟨Nat.le_refl _⟩, ⟨bK⟩, ⟨bK⟩, ⟨hB⟩⟩
 case round =>
  clear H'
  try clear c1
  try clear p2
  try clear c5
  try clear hcz6_0
  try clear hcz6_1
  try clear hfz6_0
  try clear hfz6_1
  obtain ⟨x10_1, rfl, HA, HK1, BK294, BK295, HB⟩ := hrel
  cases gk with
  | zero => exact absurd HA.out (by simp [spec_paBefore.l0])
  | succ k1 =>
   have H := HA.out
   clear HA
   simp only [spec_paBefore.l0] at H
   by_cases c7 : x10_1 < (l0_1.length : Int)
   ·rw [if_pos c7] at H
    have c7b0 : decide (x10_1 < (l0_1.length : Int)) = true := decide_eq_true c7
    clear c7
    by_cases c8 : 0 ≤ x10_1
    ·rw [if_pos c8] at H
     have c8b0 : decide (0 ≤ x10_1) = true := decide_eq_true c8
     clear c8
     by_cases c9 : x10_1 < (l0_1.length : Int)
     ·rw [if_pos c9] at H
      have c9b0 : decide (x10_1 < (l0_1.length : Int)) = true := decide_eq_true c9
      clear c9
      by_cases c10 : x10_1 ≥ (l1_1.length : Int)
      ·rw [if_pos c10] at H
       have c10b0 : decide ((l1_1.length : Int) ≤ x10_1) = true := decide_eq_true c10
       clear c10
       obtain rfl := Option.some.inj H
       have p296 : 0 ≤ (x10_1 : Int) := of_decide_eq_true (by first | (with_reducible assumption) | assumption)
       have q296 : x10_1 < (l0_1.length : Int) := of_decide_eq_true (by first | (with_reducible assumption) | assumption)
       obtain ⟨ad296, e296, hx296_0, hx296_1⟩ := at_T110 HR0_1.out x10_1 p296 q296
       cases e296
       replace hx296_0 := (HB.out.cell (World.block_lt_of_cell? w _ hx296_0)).trans hx296_0
       replace hx296_1 := (HB.out.cell (World.block_lt_of_cell? w _ hx296_1)).trans hx296_1
       replace p296 := eq_true p296
       replace q296 := eq_true q296
       go_wp2_with (first | ((with_reducible refine gate_dst (N := 6) rfl ?_); refine bxE 6 #[.int .i64 0, .int .i64 0] 110 rfl ?_; intro gb297 hg w11 hbox hb; have BK297 := Aside0.mk (hbox); have GW297 := gS HB hg; have GE297 := gS HB hg; have NB294_297 := nL BK294 hg; have NB297_294 := nG BK294 hg; have NB295_297 := nL BK295 hg; have NB297_295 := nG BK295 hg; replace BK294 := bS BK294 hb; replace BK295 := bS BK295 hb; replace HB := hS HB hb; clear hb hbox hg; have hnb12 := NB297_294.out; have hnc12 := NB294_297.out; have hnb13 := NB297_295.out; have hnc13 := NB295_297.out; have hcz14_0 := cz BK297 0; have hcz14_1 := cz BK297 1; have hfz14_0 := fz BK297 0; have hfz14_1 := fz BK297 1; have hnb15 := NB295_294.out; have hnc15 := NB294_295.out; have hcz16_0 := cz BK295 0; have hcz16_1 := cz BK295 1; have hfz16_0 := fz BK295 0; have hfz16_1 := fz BK295 1))
       go_ret
       exact ⟨by first | rfl | (simp [errW_none, errW_some] <;> rfl) | (simp [*, errW_none, errW_some] <;> rfl), hB⟩
      ·rw [if_neg c10] at H
       have c10b0 : decide ((l1_1.length : Int) ≤ x10_1) = false := decide_eq_false c10
       clear c10
       by_cases c17 : x10_1 < (l1_1.length : Int)
       ·rw [if_pos c17] at H
        have c17b0 : decide (x10_1 < (l1_1.length : Int)) = true := decide_eq_true c17
        clear c17
        by_cases c18 : (!(((rd_T110 l0_1 x10_1).f0) == ((rd_T110 l1_1 x10_1).f0)) || (!(((rd_T110 l0_1 x10_1).f1) == ((rd_T110 l1_1 x10_1).f1)))) = true
        ·rw [if_pos c18] at H
         have c18b0 : (!(((rd_T110 l0_1 x10_1).f0) == ((rd_T110 l1_1 x10_1).f0)) || (!(((rd_T110 l0_1 x10_1).f1) == ((rd_T110 l1_1 x10_1).f1)))) = true := c18
         clear c18
         replace H := Option.bind_eq_some_iff.mp H
         obtain ⟨t300, A190, H⟩ := H
         replace H : (some t300) = some r := H
         have A19 := Aside0.mk A190
         clear A190
         obtain rfl := Option.some.inj H
         have p296 : 0 ≤ (x10_1 : Int) := of_decide_eq_true (by first | (with_reducible assumption) | assumption)
         have q296 : x10_1 < (l0_1.length : Int) := of_decide_eq_true (by first | (with_reducible assumption) | assumption)
         obtain ⟨ad296, e296, hx296_0, hx296_1⟩ := at_T110 HR0_1.out x10_1 p296 q296
         cases e296
         replace hx296_0 := (HB.out.cell (World.block_lt_of_cell? w _ hx296_0)).trans hx296_0
         replace hx296_1 := (HB.out.cell (World.block_lt_of_cell? w _ hx296_1)).trans hx296_1
         replace p296 := eq_true p296
         replace q296 := eq_true q296
         try go_wp2_with (first | ((with_reducible refine gate_dst (N := 6) rfl ?_); refine bxE 6 #[.int .i64 0, .int .i64 0] 110 rfl ?_; intro gb297 hg w20 hbox hb; have BK297 := Aside0.mk (hbox); have GW297 := gS HB hg; have GE297 := gS HB hg; have NB294_297 := nL BK294 hg; have NB297_294 := nG BK294 hg; have NB295_297 := nL BK295 hg; have NB297_295 := nG BK295 hg; replace BK294 := bS BK294 hb; replace BK295 := bS BK295 hb; replace HB := hS HB hb; clear hb hbox hg; have hnb21 := NB297_294.out; have hnc21 := NB294_297.out; have hnb22 := NB297_295.out; have hnc22 := NB295_297.out; have hcz23_0 := cz BK297 0; have hcz23_1 := cz BK297 1; have hfz23_0 := fz BK297 0; have hfz23_1 := fz BK297 1; have hnb24 := NB295_294.out; have hnc24 := NB294_295.out; have hcz25_0 := cz BK295 0; have hcz25_1 := cz BK295 1; have hfz25_0 := fz BK295 0; have hfz25_1 := fz BK295 1))
         have n0_ : Aside0 (((w20.setCell ⟨gb297, 0, none⟩ (.int .i64 ((rd_T110 l0_1 x10_1).f0))).setCell ⟨gb297, 1, none⟩ (.int .i64 ((rd_T110 l0_1 x10_1).f1))).heap[gb294]? = some (.cells #[.int .i64 a0_0, .slice (some ad296) l0_1.length c0_1] 34 (0, 0))) := ⟨by (with_reducible repeat (first | refine blk_drewN ?_ _ | refine blk_drew ?_ | refine blk_alloc ?_ _)); refine blk_far ?_ NB294_297.out _; (with_reducible repeat (first | refine blk_drewN ?_ _ | refine blk_drew ?_ | refine blk_alloc ?_ _)); refine blk_far ?_ NB294_297.out _; (with_reducible repeat (first | refine blk_drewN ?_ _ | refine blk_drew ?_ | refine blk_alloc ?_ _)); exact BK294.out⟩
         have n1_ : Aside0 (((w20.setCell ⟨gb297, 0, none⟩ (.int .i64 ((rd_T110 l0_1 x10_1).f0))).setCell ⟨gb297, 1, none⟩ (.int .i64 ((rd_T110 l0_1 x10_1).f1))).heap[gb295]? = some (.cells #[.int .i64 a1_0, .slice A1_1 l1_1.length c1_1] 34 (0, 0))) := ⟨by (with_reducible repeat (first | refine blk_drewN ?_ _ | refine blk_drew ?_ | refine blk_alloc ?_ _)); refine blk_far ?_ NB295_297.out _; (with_reducible repeat (first | refine blk_drewN ?_ _ | refine blk_drew ?_ | refine blk_alloc ?_ _)); refine blk_far ?_ NB295_297.out _; (with_reducible repeat (first | refine blk_drewN ?_ _ | refine blk_drew ?_ | refine blk_alloc ?_ _)); exact BK295.out⟩
         have n2_ : Aside0 (((w20.setCell ⟨gb297, 0, none⟩ (.int .i64 ((rd_T110 l0_1 x10_1).f0))).setCell ⟨gb297, 1, none⟩ (.int .i64 ((rd_T110 l0_1 x10_1).f1))).heap[gb297]? = some (.cells #[.int .i64 ((rd_T110 l0_1 x10_1).f0), .int .i64 ((rd_T110 l0_1 x10_1).f1)] 110 (0, 0))) := ⟨by (with_reducible repeat (first | refine blk_drewN ?_ _ | refine blk_drew ?_ | refine blk_alloc ?_ _)); refine blk_put (cs := #[.int .i64 ((rd_T110 l0_1 x10_1).f0), .int .i64 0]) ?_ 1 _ rfl; (with_reducible repeat (first | refine blk_drewN ?_ _ | refine blk_drew ?_ | refine blk_alloc ?_ _)); refine blk_put (cs := #[.int .i64 0, .int .i64 0]) ?_ 0 _ rfl; (with_reducible repeat (first | refine blk_drewN ?_ _ | refine blk_drew ?_ | refine blk_alloc ?_ _)); exact BK297.out⟩
         have n3_ : Aside0 (Below w.heap.size w ((w20.setCell ⟨gb297, 0, none⟩ (.int .i64 ((rd_T110 l0_1 x10_1).f0))).setCell ⟨gb297, 1, none⟩ (.int .i64 ((rd_T110 l0_1 x10_1).f1)))) := ⟨hB⟩
         (try clear BK294)
         (try clear BK295)
         (try clear BK297)
         (try clear HB)
         generalize ((w20.setCell ⟨gb297, 0, none⟩ (.int .i64 ((rd_T110 l0_1 x10_1).f0))).setCell ⟨gb297, 1, none⟩ (.int .i64 ((rd_T110 l0_1 x10_1).f1))) = w26 at n0_ n1_ n2_ n3_ ⊢
         have BK294 := n0_
         have BK295 := n1_
         have BK297 := n2_
         have HB := n3_
         clear n0_ n1_ n2_ n3_
         replace BK294 := Aside0.mk (blk_drew BK294.out)
         replace BK295 := Aside0.mk (blk_drew BK295.out)
         replace BK297 := Aside0.mk (blk_drew BK297.out)
         replace HB := Aside0.mk (below_drew1 HB.out)
         have p298 : 0 ≤ (x10_1 : Int) := of_decide_eq_true (by first | (with_reducible assumption) | assumption)
         have q298 : x10_1 < (l1_1.length : Int) := of_decide_eq_true (by first | (with_reducible assumption) | assumption)
         obtain ⟨ad298, e298, hx298_0, hx298_1⟩ := at_T110 HR1_1.out x10_1 p298 q298
         have hw298_1 := hx298_1
         have hw298_0 := hx298_0
         cases e298
         replace hx298_0 := (HB.out.cell (World.block_lt_of_cell? w _ hx298_0)).trans hx298_0
         replace hx298_1 := (HB.out.cell (World.block_lt_of_cell? w _ hx298_1)).trans hx298_1
         replace p298 := eq_true p298
         replace q298 := eq_true q298
         refine start_ (n := 7) (S := fun w' => w'.cell? ⟨gb297, 0, none⟩ = some (.int .i64 ((rd_T110 l0_1 x10_1).f0)) ∧ w'.cell? ⟨gb297, 1, none⟩ = some (.int .i64 ((rd_T110 l0_1 x10_1).f1)) ∧ w'.cell? ⟨gb295, 0, none⟩ = some (.int .i64 a1_0) ∧ w'.cell? ⟨gb295, 1, none⟩ = some (.slice (some ad298) l1_1.length c1_1) ∧ w'.cell? (ad298.add ((x10_1).toNat * 2)) = some (.int .i64 ((rd_T110 l1_1 x10_1).f0)) ∧ w'.cell? ⟨(ad298.add ((x10_1).toNat * 2)).block, (ad298.add ((x10_1).toNat * 2)).off + 1, none⟩ = some (.int .i64 ((rd_T110 l1_1 x10_1).f1))) (ds := []) (bz 7 0) (by kernel_rfl) rfl rfl ⟨(blk_cell BK297.out 0).trans rfl, (blk_cell BK297.out 1).trans rfl, (blk_cell BK295.out 0).trans rfl, (blk_cell BK295.out 1).trans rfl, ((HB.out.cell (World.block_lt_of_cell? w _ hw298_0)).trans hw298_0), ((HB.out.cell (World.block_lt_of_cell? w _ hw298_1)).trans hw298_1)⟩ (fun hHeld => ?_)
         generalize w26.drew = w27 at BK294 BK295 BK297 HB hx298_0 hx298_1 hHeld ⊢
         refine run_ [(0, 1, 2, some 21), (0, 3, 10, some 23), (1, 0, 11, some 20), (1, 2, 15, some 22), (0, 4, 31, some 24), (1, 5, 63, some 25), (0, 6, 127, some 26)] ?_
         repeat (first | (apply tag0; refine run_p (v := ?_) (a' := ?_) rfl rfl (by kernel_rfl) (fun _ _ _ h => h) (by rfl) ?_ ?_ ?_; rotate_left 2; (intro w'; go_simp; with_reducible rfl); (first | (simp only [Act.put, List.setIfInBounds_toArray, List.set_cons_zero, List.set_cons_succ, i64_w, i32_w]; rfl) | rfl)) | (apply tag1; refine run_t (v := ?_) (a' := ?_) rfl rfl (by kernel_rfl) (fun _ _ _ h => h) (by rfl) ?_ hHeld ?_ ?_; rotate_left 2; (rintro w' ⟨s0, s1, s2, s3, s4, s5⟩; go_simp; with_reducible rfl); (first | (simp only [Act.put, List.setIfInBounds_toArray, List.set_cons_zero, List.set_cons_succ, i64_w, i32_w]; rfl) | rfl)))
         refine run_nil ?_
         refine done_ (by kernel_rfl) ?_
         try go_wp2
         replace BK294 := Aside0.mk (blk_drew BK294.out)
         replace BK295 := Aside0.mk (blk_drew BK295.out)
         replace BK297 := Aside0.mk (blk_drew BK297.out)
         replace HB := Aside0.mk (below_drew1 HB.out)
         have p299 : 0 ≤ (x10_1 : Int) := of_decide_eq_true (by first | (with_reducible assumption) | assumption)
         have q299 : x10_1 < (l1_1.length : Int) := of_decide_eq_true (by first | (with_reducible assumption) | assumption)
         obtain ⟨ad299, e299, hx299_0, hx299_1⟩ := at_T110 HR1_1.out x10_1 p299 q299
         have hw299_1 := hx299_1
         have hw299_0 := hx299_0
         obtain rfl : ad298 = ad299 := (by injection e299)
         replace hx299_0 := (HB.out.cell (World.block_lt_of_cell? w _ hx299_0)).trans hx299_0
         replace hx299_1 := (HB.out.cell (World.block_lt_of_cell? w _ hx299_1)).trans hx299_1
         replace p299 := eq_true p299
         replace q299 := eq_true q299
         refine start_ (n := 8) (S := fun w' => w'.cell? ⟨gb297, 0, none⟩ = some (.int .i64 ((rd_T110 l0_1 x10_1).f0)) ∧ w'.cell? ⟨gb297, 1, none⟩ = some (.int .i64 ((rd_T110 l0_1 x10_1).f1)) ∧ w'.cell? ⟨gb295, 0, none⟩ = some (.int .i64 a1_0) ∧ w'.cell? ⟨gb295, 1, none⟩ = some (.slice (some ad298) l1_1.length c1_1) ∧ w'.cell? (ad298.add ((x10_1).toNat * 2)) = some (.int .i64 ((rd_T110 l1_1 x10_1).f0)) ∧ w'.cell? ⟨(ad298.add ((x10_1).toNat * 2)).block, (ad298.add ((x10_1).toNat * 2)).off + 1, none⟩ = some (.int .i64 ((rd_T110 l1_1 x10_1).f1))) (ds := []) (bz 8 0) (by kernel_rfl) rfl rfl ⟨(blk_cell BK297.out 0).trans rfl, (blk_cell BK297.out 1).trans rfl, (blk_cell BK295.out 0).trans rfl, (blk_cell BK295.out 1).trans rfl, ((HB.out.cell (World.block_lt_of_cell? w _ hw299_0)).trans hw299_0), ((HB.out.cell (World.block_lt_of_cell? w _ hw299_1)).trans hw299_1)⟩ (fun hHeld => ?_); refine with_tabW spec_paBefore.tab7 spec_paBefore.bits7 (fun HT_ HW_ => ?_)
         generalize w27.drew = w28 at BK294 BK295 BK297 HB hx299_0 hx299_1 hHeld ⊢
         refine run_ [(0, 1, 2, some 28), (0, 3, 10, some 30), (1, 0, 11, some 27), (1, 2, 15, some 29), (0, 4, 31, some 31), (1, 5, 63, some 32)] ?_
         repeat (first | (apply tag0; refine run_p (v := ?_) (a' := ?_) rfl rfl (any_of HT_.out (by kernel_rfl)) (fun _ _ _ h => h) (by rfl) ?_ ?_ ?_; rotate_left 2; (intro w'; go_simp; with_reducible rfl); (first | (simp only [Act.put, List.setIfInBounds_toArray, List.set_cons_zero, List.set_cons_succ, i64_w, i32_w]; rfl) | rfl)) | (apply tag1; refine run_t (v := ?_) (a' := ?_) rfl rfl (take_ofW HT_.out HW_.out (by kernel_rfl)) (fun _ _ _ h => h) (by rfl) ?_ hHeld ?_ ?_; rotate_left 2; (rintro w' ⟨s0, s1, s2, s3, s4, s5⟩; go_simp; with_reducible rfl); (first | (simp only [Act.put, List.setIfInBounds_toArray, List.set_cons_zero, List.set_cons_succ, i64_w, i32_w]; rfl) | rfl)))
         refine run_nil ?_
         refine one_ (i := 6) (N := some 33) (bz 8 127) rfl rfl (one_of HT_.out (by kernel_rfl)) (by decide) (fun K hK => ?_)
         refine goes_ Tryd.func97 (by kernel_rfl) rfl #[.agg #[.int .i64 ((rd_T110 l0_1 x10_1).f0), .int .i64 ((rd_T110 l0_1 x10_1).f1)], .agg #[.int .i64 ((rd_T110 l1_1 x10_1).f0), .int .i64 ((rd_T110 l1_1 x10_1).f1)]] (by rfl) rfl rfl mapT ?_
         with_reducible refine (spec_paLess.calls ((rd_T110 l0_1 x10_1).f0) ((rd_T110 l0_1 x10_1).f1) ((rd_T110 l1_1 x10_1).f0) ((rd_T110 l1_1 x10_1).f1) t300 _ A19.out).mono ?_
         rintro e w29 ⟨rfl, hb⟩
         refine ⟨_, rfl, ?_⟩
         replace BK294 := bS BK294 hb
         replace BK295 := bS BK295 hb
         replace BK297 := bS BK297 hb
         replace HB := hS HB hb
         (try clear hb)
         (try clear hb2)
         (try clear hk)
         (try clear hi)
         refine hK.out _ _ ⟨(blk_cell BK297.out 0).trans rfl, (blk_cell BK297.out 1).trans rfl, (blk_cell BK295.out 0).trans rfl, (blk_cell BK295.out 1).trans rfl, ((HB.out.cell (World.block_lt_of_cell? w _ hw299_0)).trans hw299_0), ((HB.out.cell (World.block_lt_of_cell? w _ hw299_1)).trans hw299_1)⟩ (fun hHeld => ?_)
         clear hK K
         refine norm_ (a' := ?_) ?_ ?_
         rotate_left
         ·show Act.put _ (some 33) _ = _
          simp only [Act.put, List.setIfInBounds_toArray, List.set_cons_zero, List.set_cons_succ, i64_w, i32_w]
          rfl
         refine run_ [(0, 7, 255, some 4)] ?_
         repeat ((apply tag0; refine run_p (v := ?_) (a' := ?_) rfl rfl (any_of HT_.out (by kernel_rfl)) (fun _ _ _ h => h) (by rfl) ?_ ?_ ?_; rotate_left 2; (intro w'; go_simp; with_reducible rfl); (first | (simp only [Act.put, List.setIfInBounds_toArray, List.set_cons_zero, List.set_cons_succ, i64_w, i32_w]; rfl) | rfl)))
         refine run_nil ?_
         refine done_ (done_of HT_.out (by kernel_rfl)) ?_
         try go_wp2
         go_ret
         exact ⟨by first | rfl | (simp [errW_none, errW_some] <;> rfl) | (simp [*, errW_none, errW_some] <;> rfl), hB⟩
        ·rw [if_neg c18] at H
         have c18b0 : (!(((rd_T110 l0_1 x10_1).f0) == ((rd_T110 l1_1 x10_1).f0)) || (!(((rd_T110 l0_1 x10_1).f1) == ((rd_T110 l1_1 x10_1).f1)))) = false := by simpa using c18
         clear c18
         have H' := Aside0.mk H
         clear H
         have p296 : 0 ≤ (x10_1 : Int) := of_decide_eq_true (by first | (with_reducible assumption) | assumption)
         have q296 : x10_1 < (l0_1.length : Int) := of_decide_eq_true (by first | (with_reducible assumption) | assumption)
         obtain ⟨ad296, e296, hx296_0, hx296_1⟩ := at_T110 HR0_1.out x10_1 p296 q296
         cases e296
         replace hx296_0 := (HB.out.cell (World.block_lt_of_cell? w _ hx296_0)).trans hx296_0
         replace hx296_1 := (HB.out.cell (World.block_lt_of_cell? w _ hx296_1)).trans hx296_1
         replace p296 := eq_true p296
         replace q296 := eq_true q296
         try go_wp2_with (first | ((with_reducible refine gate_dst (N := 6) rfl ?_); refine bxE 6 #[.int .i64 0, .int .i64 0] 110 rfl ?_; intro gb297 hg w30 hbox hb; have BK297 := Aside0.mk (hbox); have GW297 := gS HB hg; have GE297 := gS HB hg; have NB294_297 := nL BK294 hg; have NB297_294 := nG BK294 hg; have NB295_297 := nL BK295 hg; have NB297_295 := nG BK295 hg; replace BK294 := bS BK294 hb; replace BK295 := bS BK295 hb; replace HB := hS HB hb; clear hb hbox hg; have hnb31 := NB297_294.out; have hnc31 := NB294_297.out; have hnb32 := NB297_295.out; have hnc32 := NB295_297.out; have hcz33_0 := cz BK297 0; have hcz33_1 := cz BK297 1; have hfz33_0 := fz BK297 0; have hfz33_1 := fz BK297 1; have hnb34 := NB295_294.out; have hnc34 := NB294_295.out; have hcz35_0 := cz BK295 0; have hcz35_1 := cz BK295 1; have hfz35_0 := fz BK295 0; have hfz35_1 := fz BK295 1))
         have n0_ : Aside0 (((w30.setCell ⟨gb297, 0, none⟩ (.int .i64 ((rd_T110 l0_1 x10_1).f0))).setCell ⟨gb297, 1, none⟩ (.int .i64 ((rd_T110 l0_1 x10_1).f1))).heap[gb294]? = some (.cells #[.int .i64 a0_0, .slice (some ad296) l0_1.length c0_1] 34 (0, 0))) := ⟨by (with_reducible repeat (first | refine blk_drewN ?_ _ | refine blk_drew ?_ | refine blk_alloc ?_ _)); refine blk_far ?_ NB294_297.out _; (with_reducible repeat (first | refine blk_drewN ?_ _ | refine blk_drew ?_ | refine blk_alloc ?_ _)); refine blk_far ?_ NB294_297.out _; (with_reducible repeat (first | refine blk_drewN ?_ _ | refine blk_drew ?_ | refine blk_alloc ?_ _)); exact BK294.out⟩
         have n1_ : Aside0 (((w30.setCell ⟨gb297, 0, none⟩ (.int .i64 ((rd_T110 l0_1 x10_1).f0))).setCell ⟨gb297, 1, none⟩ (.int .i64 ((rd_T110 l0_1 x10_1).f1))).heap[gb295]? = some (.cells #[.int .i64 a1_0, .slice A1_1 l1_1.length c1_1] 34 (0, 0))) := ⟨by (with_reducible repeat (first | refine blk_drewN ?_ _ | refine blk_drew ?_ | refine blk_alloc ?_ _)); refine blk_far ?_ NB295_297.out _; (with_reducible repeat (first | refine blk_drewN ?_ _ | refine blk_drew ?_ | refine blk_alloc ?_ _)); refine blk_far ?_ NB295_297.out _; (with_reducible repeat (first | refine blk_drewN ?_ _ | refine blk_drew ?_ | refine blk_alloc ?_ _)); exact BK295.out⟩
         have n2_ : Aside0 (((w30.setCell ⟨gb297, 0, none⟩ (.int .i64 ((rd_T110 l0_1 x10_1).f0))).setCell ⟨gb297, 1, none⟩ (.int .i64 ((rd_T110 l0_1 x10_1).f1))).heap[gb297]? = some (.cells #[.int .i64 ((rd_T110 l0_1 x10_1).f0), .int .i64 ((rd_T110 l0_1 x10_1).f1)] 110 (0, 0))) := ⟨by (with_reducible repeat (first | refine blk_drewN ?_ _ | refine blk_drew ?_ | refine blk_alloc ?_ _)); refine blk_put (cs := #[.int .i64 ((rd_T110 l0_1 x10_1).f0), .int .i64 0]) ?_ 1 _ rfl; (with_reducible repeat (first | refine blk_drewN ?_ _ | refine blk_drew ?_ | refine blk_alloc ?_ _)); refine blk_put (cs := #[.int .i64 0, .int .i64 0]) ?_ 0 _ rfl; (with_reducible repeat (first | refine blk_drewN ?_ _ | refine blk_drew ?_ | refine blk_alloc ?_ _)); exact BK297.out⟩
         have n3_ : Aside0 (Below w.heap.size w ((w30.setCell ⟨gb297, 0, none⟩ (.int .i64 ((rd_T110 l0_1 x10_1).f0))).setCell ⟨gb297, 1, none⟩ (.int .i64 ((rd_T110 l0_1 x10_1).f1)))) := ⟨hB⟩
         (try clear BK294)
         (try clear BK295)
         (try clear BK297)
         (try clear HB)
         generalize ((w30.setCell ⟨gb297, 0, none⟩ (.int .i64 ((rd_T110 l0_1 x10_1).f0))).setCell ⟨gb297, 1, none⟩ (.int .i64 ((rd_T110 l0_1 x10_1).f1))) = w36 at n0_ n1_ n2_ n3_ ⊢
         have BK294 := n0_
         have BK295 := n1_
         have BK297 := n2_
         have HB := n3_
         clear n0_ n1_ n2_ n3_
         replace BK294 := Aside0.mk (blk_drew BK294.out)
         replace BK295 := Aside0.mk (blk_drew BK295.out)
         replace BK297 := Aside0.mk (blk_drew BK297.out)
         replace HB := Aside0.mk (below_drew1 HB.out)
         have p298 : 0 ≤ (x10_1 : Int) := of_decide_eq_true (by first | (with_reducible assumption) | assumption)
         have q298 : x10_1 < (l1_1.length : Int) := of_decide_eq_true (by first | (with_reducible assumption) | assumption)
         obtain ⟨ad298, e298, hx298_0, hx298_1⟩ := at_T110 HR1_1.out x10_1 p298 q298
         have hw298_1 := hx298_1
         have hw298_0 := hx298_0
         cases e298
         replace hx298_0 := (HB.out.cell (World.block_lt_of_cell? w _ hx298_0)).trans hx298_0
         replace hx298_1 := (HB.out.cell (World.block_lt_of_cell? w _ hx298_1)).trans hx298_1
         replace p298 := eq_true p298
         replace q298 := eq_true q298
         refine start_ (n := 7) (S := fun w' => w'.cell? ⟨gb297, 0, none⟩ = some (.int .i64 ((rd_T110 l0_1 x10_1).f0)) ∧ w'.cell? ⟨gb297, 1, none⟩ = some (.int .i64 ((rd_T110 l0_1 x10_1).f1)) ∧ w'.cell? ⟨gb295, 0, none⟩ = some (.int .i64 a1_0) ∧ w'.cell? ⟨gb295, 1, none⟩ = some (.slice (some ad298) l1_1.length c1_1) ∧ w'.cell? (ad298.add ((x10_1).toNat * 2)) = some (.int .i64 ((rd_T110 l1_1 x10_1).f0)) ∧ w'.cell? ⟨(ad298.add ((x10_1).toNat * 2)).block, (ad298.add ((x10_1).toNat * 2)).off + 1, none⟩ = some (.int .i64 ((rd_T110 l1_1 x10_1).f1))) (ds := []) (bz 7 0) (by kernel_rfl) rfl rfl ⟨(blk_cell BK297.out 0).trans rfl, (blk_cell BK297.out 1).trans rfl, (blk_cell BK295.out 0).trans rfl, (blk_cell BK295.out 1).trans rfl, ((HB.out.cell (World.block_lt_of_cell? w _ hw298_0)).trans hw298_0), ((HB.out.cell (World.block_lt_of_cell? w _ hw298_1)).trans hw298_1)⟩ (fun hHeld => ?_)
         generalize w36.drew = w37 at BK294 BK295 BK297 HB hx298_0 hx298_1 hHeld ⊢
         refine run_ [(0, 1, 2, some 21), (0, 3, 10, some 23), (1, 0, 11, some 20), (1, 2, 15, some 22), (0, 4, 31, some 24), (1, 5, 63, some 25), (0, 6, 127, some 26)] ?_
         repeat (first | (apply tag0; refine run_p (v := ?_) (a' := ?_) rfl rfl (by kernel_rfl) (fun _ _ _ h => h) (by rfl) ?_ ?_ ?_; rotate_left 2; (intro w'; go_simp; with_reducible rfl); (first | (simp only [Act.put, List.setIfInBounds_toArray, List.set_cons_zero, List.set_cons_succ, i64_w, i32_w]; rfl) | rfl)) | (apply tag1; refine run_t (v := ?_) (a' := ?_) rfl rfl (by kernel_rfl) (fun _ _ _ h => h) (by rfl) ?_ hHeld ?_ ?_; rotate_left 2; (rintro w' ⟨s0, s1, s2, s3, s4, s5⟩; go_simp; with_reducible rfl); (first | (simp only [Act.put, List.setIfInBounds_toArray, List.set_cons_zero, List.set_cons_succ, i64_w, i32_w]; rfl) | rfl)))
         refine run_nil ?_
         refine done_ (by kernel_rfl) ?_
         try go_wp2
         go_roundg k1
         case measure => have := HK1.out; omega
         case rel => exact ⟨(wrap64 (x10_1 + 1)), (by first | rfl | (simp; done) | (simp [*]; done)), H', ⟨by have := HK1.out; omega⟩, ⟨bK⟩, ⟨bK⟩, ⟨hB⟩⟩
       ·rw [if_neg c17] at H
        exact absurd H (by simp)
     ·rw [if_neg c9] at H
      exact absurd H (by simp)
    ·rw [if_neg c8] at H
     exact absurd H (by simp)
   ·rw [if_neg c7] at H
    have c7b0 : decide (x10_1 < (l0_1.length : Int)) = false := decide_eq_false c7
    clear c7
    obtain rfl := Option.some.inj H
    have hnb38 := NB294_295.out
    have hnc38 := NB295_294.out
    have hcz39_0 := cz BK294 0
    have hcz39_1 := cz BK294 1
    have hfz39_0 := fz BK294 0
    have hfz39_1 := fz BK294 1
    have hcz40_0 := cz BK295 0
    have hcz40_1 := cz BK295 1
    have hfz40_0 := fz BK295 0
    have hfz40_1 := fz BK295 1
    go_wp2
    go_ret
    exact ⟨by first | rfl | (simp [errW_none, errW_some] <;> rfl) | (simp [*, errW_none, errW_some] <;> rfl), hB⟩

end Go.Proofs.YtdnkipagpagfiaaDoor.PSol2
