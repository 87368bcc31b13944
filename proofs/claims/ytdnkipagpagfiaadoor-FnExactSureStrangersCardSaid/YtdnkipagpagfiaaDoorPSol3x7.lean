-- Of this session's own program wip/gen/gen.py (it drives the kit's print): contracts of the functions that the law reaches.
import Derived.Test.YtdnkipagpagfiaaDoorPSol3x0
import Derived.Test.YtdnkipagpagfiaaDoorPSol3x1
import Derived.Test.YtdnkipagpagfiaaDoorPSol3x4
import Derived.Test.YtdnkipagpagfiaaDoorPSol3x5
import Derived.Test.YtdnkipagpagfiaaDoorPSol3x6
namespace Go.Proofs.YtdnkipagpagfiaaDoor.PSol3
open Go.RowKit Go.Proofs.YtdnkipagpagfiaaDoorW.PrintWords Go.Proofs.YtdnkipagpagfiaaDoorW.PrintLast Go.Proofs.YtdnkipagpagfiaaDoorW.PrintMore Go.Proofs.YtdnkipagpagfiaaDoor.Base
attribute [local go_sem] max2_int min2_int max_two min_two max_three min_three max_four min_four   -- for this text's walks alone
set_option linter.unusedVariables false
set_option linter.unusedSimpArgs false

attribute [local go_sem high] eqA110
/-! ### spec_pzFits: function 60 -/
def spec_pzFits.f (k : Nat) (a0_0 : Int) (a0_1 : Int) (a0_2 : Int) (a1_0 : Int) (l1_1 : List (S110)) : Option (Bool) := if a0_0 = 0 then ((spec_paTable.f k a1_0 l1_1).bind fun t283 => (if 0 ≤ a0_1 then (if a0_1 < (t283.length : Int) then (if 0 ≤ a0_2 then (if a0_2 < ((rd_L5 t283 a0_1).length : Int) then (some (rdOf false (rd_L5 t283 a0_1) a0_2)) else (none)) else (none)) else (none)) else (none))) else (if a0_0 = 1 then ((spec_paTable.f k a1_0 l1_1).bind fun t288 => (if 0 ≤ a0_1 then (if a0_1 < (t288.length : Int) then (if 0 ≤ a0_2 then (if a0_2 < ((rd_L5 t288 a0_1).length : Int) then (some (!(rdOf false (rd_L5 t288 a0_1) a0_2))) else (none)) else (none)) else (none)) else (none))) else (if a0_0 = 2 then ((spec_paNumbers.f k a1_0 l1_1).bind fun t293 => (if 0 ≤ a0_1 then (if a0_1 < (t293.length : Int) then (some ((rd t293 a0_1) == a0_2)) else (none)) else (none))) else (if a0_0 = 3 then (some ((l1_1.length : Int) == a0_1)) else (if a0_0 = 4 then ((spec_pzThrees.f k a1_0 l1_1).bind fun t297 => (some (t297 == a0_1))) else ((spec_paParts.f k a1_0 l1_1).bind fun t298 => (some ((t298.length : Int) == a0_1)))))))
theorem spec_pzFits.mono : ∀ a0 a1 a2 a3 a4 k, LeO (spec_pzFits.f k a0 a1 a2 a3 a4) (spec_pzFits.f (k + 1) a0 a1 a2 a3 a4) := by
 intro a0 a1 a2 a3 a4 k
 unfold spec_pzFits.f
 repeat' first
   | (with_reducible exact spec_paNumbers.mono _ _ _)
   | (with_reducible exact spec_paParts.mono _ _ _)
   | (with_reducible exact spec_paTable.mono _ _ _)
   | (with_reducible exact spec_pzThrees.mono _ _ _)
   | (with_reducible exact LeO.refl _)
   | (with_reducible exact LeO.none _)
   | (with_reducible refine LeO.ite ?_ ?_)
   | (with_reducible refine LeO.bind ?_ (fun _ => ?_))
   | exact spec_paNumbers.mono _ _ _
   | exact spec_paParts.mono _ _ _
   | exact spec_paTable.mono _ _ _
   | exact spec_pzThrees.mono _ _ _
   | exact LeO.none _
   | refine LeO.ite ?_ ?_
   | refine LeO.bind ?_ (fun _ => ?_)
def spec_pzFits.T3 : Bool × List (List Nat × List Nat) := (true, [([], []), ([0], [0]), ([], []), ([2], [2]), ([1, 3], [1, 3]), ([4], [4]), ([], []), ([6], [6]), ([5, 7], [5, 7]), ([8], [8]), ([9, 1, 0, 1, 2, 3, 4, 5, 6, 7, 8, 9], [9])])
def spec_pzFits.B3 : List Nat := [0, 1, 0, 4, 15, 31, 0, 64, 255, 511, 1023]
theorem spec_pzFits.tab3 : rtab .any (opsOf Tryd.f60 3) = spec_pzFits.T3 := by kernel_rfl
theorem spec_pzFits.bits3 : waitsOk spec_pzFits.T3.2 spec_pzFits.B3 = true := by kernel_rfl
def spec_pzFits.T5 : Bool × List (List Nat × List Nat) := (true, [([], []), ([0], [0]), ([], []), ([2], [2]), ([1, 3], [1, 3]), ([4], [4]), ([], []), ([6], [6]), ([5, 7], [5, 7]), ([8], [8]), ([9], [9]), ([10, 1, 0, 1, 2, 3, 4, 5, 6, 7, 8, 9, 10], [10])])
def spec_pzFits.B5 : List Nat := [0, 1, 0, 4, 15, 31, 0, 64, 255, 511, 1023, 2047]
theorem spec_pzFits.tab5 : rtab .any (opsOf Tryd.f60 5) = spec_pzFits.T5 := by kernel_rfl
theorem spec_pzFits.bits5 : waitsOk spec_pzFits.T5.2 spec_pzFits.B5 = true := by kernel_rfl
def spec_pzFits.T7 : Bool × List (List Nat × List Nat) := (true, [([], []), ([0], [0]), ([], []), ([2], [2]), ([1, 3], [1, 3]), ([4], [4]), ([], []), ([6], [6]), ([5, 7], [5, 7]), ([8, 1, 0, 1, 2, 3, 4, 5, 6, 7, 8], [8])])
def spec_pzFits.B7 : List Nat := [0, 1, 0, 4, 15, 31, 0, 64, 255, 511]
theorem spec_pzFits.tab7 : rtab .any (opsOf Tryd.f60 7) = spec_pzFits.T7 := by kernel_rfl
theorem spec_pzFits.bits7 : waitsOk spec_pzFits.T7.2 spec_pzFits.B7 = true := by kernel_rfl
set_option maxHeartbeats 8000000 in
set_option maxRecDepth 100000 in
theorem spec_pzFits.calls (k : Nat) (a0_0 : Int) (a0_1 : Int) (a0_2 : Int) (a1_0 : Int) (A1_1 : Option Addr) (c1_1 : Nat) (l1_1 : List (S110)) (r : Bool) (w : World) (hr1_1 : Kd.C k110 w A1_1 l1_1.length l1_1) (hc1_1 : l1_1.length ≤ c1_1) (h : spec_pzFits.f k a0_0 a0_1 a0_2 a1_0 l1_1 = some r) :
  Calls Tryd.prog 60 #[.agg #[.int .i64 a0_0, .int .i64 a0_1, .int .i64 a0_2], .agg #[.int .i64 a1_0, .slice A1_1 l1_1.length c1_1]] w fun e w' => e = .returned (.bool r) ∧ Below w.heap.size w w' := by
 have hu30 := Tryd.underlying30
 have hu34 := Tryd.underlying34
 have HR1_1 := Aside0.mk hr1_1
 have HC1_1 := Aside0.mk hc1_1
 clear hr1_1 hc1_1
 have HB := Aside0.mk (Below.refl w.heap.size w)
 have H : (if a0_0 = 0 then ((spec_paTable.f k a1_0 l1_1).bind fun t283 => (if 0 ≤ a0_1 then (if a0_1 < (t283.length : Int) then (if 0 ≤ a0_2 then (if a0_2 < ((rd_L5 t283 a0_1).length : Int) then (some (rdOf false (rd_L5 t283 a0_1) a0_2)) else (none)) else (none)) else (none)) else (none))) else (if a0_0 = 1 then ((spec_paTable.f k a1_0 l1_1).bind fun t288 => (if 0 ≤ a0_1 then (if a0_1 < (t288.length : Int) then (if 0 ≤ a0_2 then (if a0_2 < ((rd_L5 t288 a0_1).length : Int) then (some (!(rdOf false (rd_L5 t288 a0_1) a0_2))) else (none)) else (none)) else (none)) else (none))) else (if a0_0 = 2 then ((spec_paNumbers.f k a1_0 l1_1).bind fun t293 => (if 0 ≤ a0_1 then (if a0_1 < (t293.length : Int) then (some ((rd t293 a0_1) == a0_2)) else (none)) else (none))) else (if a0_0 = 3 then (some ((l1_1.length : Int) == a0_1)) else (if a0_0 = 4 then ((spec_pzThrees.f k a1_0 l1_1).bind fun t297 => (some (t297 == a0_1))) else ((spec_paParts.f k a1_0 l1_1).bind fun t298 => (some ((t298.length : Int) == a0_1)))))))) = some r := h
 clear h
 by_cases c3 : a0_0 = 0
 ·rw [if_pos c3] at H
  have c3b0 : (a0_0 == 0) = true := beq_iff_eq.mpr c3
  have c3b1 : (a0_0 != 0) = false := bne_eq_false_iff_eq.mpr c3
  clear c3
  replace H := Option.bind_eq_some_iff.mp H
  obtain ⟨t283, A40, H⟩ := H
  try dsimp only at H
  have A4 := Aside0.mk A40
  clear A40
  by_cases c5 : 0 ≤ a0_1
  ·rw [if_pos c5] at H
   have c5b0 : decide (0 ≤ a0_1) = true := decide_eq_true c5
   clear c5
   by_cases c6 : a0_1 < (t283.length : Int)
   ·rw [if_pos c6] at H
    have c6b0 : decide (a0_1 < (t283.length : Int)) = true := decide_eq_true c6
    clear c6
    by_cases c7 : 0 ≤ a0_2
    ·rw [if_pos c7] at H
     have c7b0 : decide (0 ≤ a0_2) = true := decide_eq_true c7
     clear c7
     by_cases c8 : a0_2 < ((rd_L5 t283 a0_1).length : Int)
     ·rw [if_pos c8] at H
      have c8b0 : decide (a0_2 < ((rd_L5 t283 a0_1).length : Int)) = true := decide_eq_true c8
      clear c8
      obtain rfl := Option.some.inj H
      go_enter Tryd.func60, Tryd.ntmps60
      try go_wp2_with (first | ((with_reducible refine gate_dst (N := 2) rfl ?_); refine bxE 2 #[.int .i64 a0_0, .int .i64 a0_1, .int .i64 a0_2] 30 rfl ?_; intro gb281 hg w9 hbox hb; have BK281 := Aside0.mk (hbox); have GW281 := gS HB hg; have GE281 := gS HB hg; replace HB := hS HB hb; clear hb hbox hg) | ((with_reducible refine gate_dst (N := 3) rfl ?_); refine bxE 3 #[.int .i64 a1_0, .slice A1_1 l1_1.length c1_1] 34 rfl ?_; intro gb282 hg w10 hbox hb; have BK282 := Aside0.mk (hbox); have GW282 := gS HB hg; have GE282 := gS HB hg; have NB281_282 := nL BK281 hg; have NB282_281 := nG BK281 hg; replace BK281 := bS BK281 hb; replace HB := hS HB hb; clear hb hbox hg; have hnb11 := NB281_282.out; have hnc11 := NB282_281.out; have hcz12_0 := cz BK281 0; have hcz12_1 := cz BK281 1; have hcz12_2 := cz BK281 2; have hfz12_0 := fz BK281 0; have hfz12_1 := fz BK281 1; have hfz12_2 := fz BK281 2))
      replace BK281 := Aside0.mk (blk_drew BK281.out)
      replace BK282 := Aside0.mk (blk_drew BK282.out)
      replace HB := Aside0.mk (below_drew1 HB.out)
      refine start_ (n := 11) (S := fun w' => w'.cell? ⟨gb282, 0, none⟩ = some (.int .i64 a1_0) ∧ w'.cell? ⟨gb282, 1, none⟩ = some (.slice A1_1 l1_1.length c1_1) ∧ w'.cell? ⟨gb281, 0, none⟩ = some (.int .i64 a0_0) ∧ w'.cell? ⟨gb281, 1, none⟩ = some (.int .i64 a0_1) ∧ w'.cell? ⟨gb281, 2, none⟩ = some (.int .i64 a0_2)) (ds := []) (bz 11 0) (by kernel_rfl) rfl rfl ⟨(blk_cell BK282.out 0).trans rfl, (blk_cell BK282.out 1).trans rfl, (blk_cell BK281.out 0).trans rfl, (blk_cell BK281.out 1).trans rfl, (blk_cell BK281.out 2).trans rfl⟩ (fun hHeld => ?_); refine with_tabW spec_pzFits.tab3 spec_pzFits.bits3 (fun HT_ HW_ => ?_)
      generalize w10.drew = w13 at BK281 BK282 HB hHeld ⊢
      refine run_ [(0, 2, 4, some 11), (0, 6, 68, some 15), (1, 0, 69, some 9), (1, 3, 77, some 12), (1, 7, 205, some 16)] ?_
      repeat (first | (apply tag0; refine run_p (v := ?_) (a' := ?_) rfl rfl (any_of HT_.out (by kernel_rfl)) (fun _ _ _ h => h) (by rfl) ?_ ?_ ?_; rotate_left 2; (intro w'; go_simp; with_reducible rfl); (first | (simp only [Act.put, List.setIfInBounds_toArray, List.set_cons_zero, List.set_cons_succ, i64_w, i32_w]; rfl) | rfl)) | (apply tag1; refine run_t (v := ?_) (a' := ?_) rfl rfl (take_ofW HT_.out HW_.out (by kernel_rfl)) (fun _ _ _ h => h) (by rfl) ?_ hHeld ?_ ?_; rotate_left 2; (rintro w' ⟨s0, s1, s2, s3, s4⟩; go_simp; with_reducible rfl); (first | (simp only [Act.put, List.setIfInBounds_toArray, List.set_cons_zero, List.set_cons_succ, i64_w, i32_w]; rfl) | rfl)))
      refine run_nil ?_
      refine one_ (i := 1) (N := some 10) (bz 11 207) rfl rfl (one_of HT_.out (by kernel_rfl)) (by decide) (fun K hK => ?_)
      refine goes_ Tryd.func70 (by kernel_rfl) rfl #[.agg #[.int .i64 a1_0, .slice A1_1 l1_1.length c1_1]] (by rfl) rfl rfl mapT ?_
      with_reducible refine (spec_paTable.calls k a1_0 _ _ l1_1 t283 _ ?side1 ?side2 A4.out).mono ?_
      (case side1 => exact cS (Kd.C_below HR1_1.out HB.out))
      (case side2 => exact HC1_1.out)
      rintro e w14 ⟨v284, rfl, ho0, hb⟩
      refine ⟨_, rfl, ?_⟩
      have HO285 := Aside0.mk (Kd.S_lower ho0 (below_size hB))
      replace BK281 := bS BK281 hb
      replace BK282 := bS BK282 hb
      replace HB := hS HB hb
      (try clear hb)
      (try clear hb2)
      (try clear hk)
      (try clear hi)
      (try clear ho0)
      obtain ⟨Ao15, co15, eo15⟩ := Kd.S_slice HO285.out
      (first | subst eo15 | (injection eo15 with f1_ f2_ f3_; have f4_ := f1_.symm; have f5_ := f3_.symm; clear f1_ f2_ f3_; subst f4_; subst f5_))
      have p286 : 0 ≤ (a0_1 : Int) := of_decide_eq_true (by first | (with_reducible assumption) | assumption)
      have q286 : a0_1 < (t283.length : Int) := of_decide_eq_true (by first | (with_reducible assumption) | assumption)
      obtain ⟨ad286, A286_0, c286_0, e286, hx286_0, hl286_0, hi286_0⟩ := at_L5 (Kd.S_reads' HO285.out).2.2 a0_1 p286 q286
      cases e286
      obtain ⟨ce286, hce286, hMe286, hcc286⟩ := Kd.S_get HO285.out [] a0_1 p286 (by first | exact q286 | exact of_decide_eq_true (by first | (with_reducible assumption) | assumption) | (have e_ := (Kd.S_reads' HO285.out).1; omega))
      obtain ⟨ve286_0, rfl, ge286_0⟩ := hMe286
      have hv286_0 := hcc286 0 _ rfl
      rw [Nat.add_zero, show ((Kd.slice 4 Kd.bool)).sz = 1 from rfl, Nat.mul_one] at hv286_0
      replace hv286_0 := Option.some.inj (hv286_0.symm.trans hx286_0)
      rw [hv286_0] at ge286_0
      have HL286_0 := Aside0.mk (show Kd.R Kd.bool 4 _ _ _ _ (rd_L5 t283 a0_1) from ge286_0)
      clear hv286_0 ge286_0
      clear hcc286 hce286
      have HR286_0 := Aside0.mk hi286_0
      have HC286_0 := Aside0.mk hl286_0
      clear hi286_0 hl286_0
      replace p286 := eq_true p286
      replace q286 := eq_true q286
      have p287 : 0 ≤ (a0_2 : Int) := of_decide_eq_true (by first | (with_reducible assumption) | assumption)
      have q287 : a0_2 < ((rd_L5 t283 a0_1).length : Int) := of_decide_eq_true (by first | (with_reducible assumption) | assumption)
      obtain ⟨ad287, e287, hx287_0⟩ := Kd.at_bool (by repeat (first | (with_reducible exact HR286_0.out) | (with_reducible refine Kd.C_alloc ?_ _) | (with_reducible refine Kd.C_drewN ?_ _) | (with_reducible refine Kd.C_drew ?_) | exact HR286_0.out)) a0_2 p287 q287
      cases e287
      replace p287 := eq_true p287
      replace q287 := eq_true q287
      refine hK.out _ _ ⟨(blk_cell BK282.out 0).trans rfl, (blk_cell BK282.out 1).trans rfl, (blk_cell BK281.out 0).trans rfl, (blk_cell BK281.out 1).trans rfl, (blk_cell BK281.out 2).trans rfl⟩ (fun hHeld => ?_)
      have hHeld2 : (fun w' : World => w'.cell? ⟨gb282, 0, none⟩ = some (.int .i64 a1_0) ∧ w'.cell? ⟨gb282, 1, none⟩ = some (.slice A1_1 l1_1.length c1_1) ∧ w'.cell? ⟨gb281, 0, none⟩ = some (.int .i64 a0_0) ∧ w'.cell? ⟨gb281, 1, none⟩ = some (.int .i64 a0_1) ∧ w'.cell? ⟨gb281, 2, none⟩ = some (.int .i64 a0_2) ∧ w'.cell? (ad286.add (a0_1).toNat) = some (.slice (some ad287) (rd_L5 t283 a0_1).length c286_0) ∧ w'.cell? (ad287.add (a0_2).toNat) = some (.bool (rdOf false (rd_L5 t283 a0_1) a0_2))) _ := ⟨(blk_cell BK282.out 0).trans rfl, (blk_cell BK282.out 1).trans rfl, (blk_cell BK281.out 0).trans rfl, (blk_cell BK281.out 1).trans rfl, (blk_cell BK281.out 2).trans rfl, hx286_0, hx287_0⟩
      refine more_ (fun w' : World => w'.cell? ⟨gb282, 0, none⟩ = some (.int .i64 a1_0) ∧ w'.cell? ⟨gb282, 1, none⟩ = some (.slice A1_1 l1_1.length c1_1) ∧ w'.cell? ⟨gb281, 0, none⟩ = some (.int .i64 a0_0) ∧ w'.cell? ⟨gb281, 1, none⟩ = some (.int .i64 a0_1) ∧ w'.cell? ⟨gb281, 2, none⟩ = some (.int .i64 a0_2) ∧ w'.cell? (ad286.add (a0_1).toNat) = some (.slice (some ad287) (rd_L5 t283 a0_1).length c286_0) ∧ w'.cell? (ad287.add (a0_2).toNat) = some (.bool (rdOf false (rd_L5 t283 a0_1) a0_2))) (fun _ ⟨s0, s1, s2, s3, s4, s5, s6⟩ => ⟨s0, s1, s2, s3, s4⟩) _ _ _ _ hHeld2 ?_
      clear hHeld
      have hHeld := hHeld2
      clear hHeld2
      clear hK K
      refine norm_ (a' := ?_) ?_ ?_
      rotate_left
      ·show Act.put _ (some 10) _ = _
       simp only [Act.put, List.setIfInBounds_toArray, List.set_cons_zero, List.set_cons_succ, i64_w, i32_w]
       rfl
      refine run_ [(0, 4, 223, some 13), (1, 5, 255, some 14), (0, 8, 511, some 17), (1, 9, 1023, some 18), (0, 10, 2047, some 4)] ?_
      repeat (first | (apply tag0; refine run_p (v := ?_) (a' := ?_) rfl rfl (any_of HT_.out (by kernel_rfl)) (fun _ _ _ h => h) (by rfl) ?_ ?_ ?_; rotate_left 2; (intro w'; go_simp; with_reducible rfl); (first | (simp only [Act.put, List.setIfInBounds_toArray, List.set_cons_zero, List.set_cons_succ, i64_w, i32_w]; rfl) | rfl)) | (apply tag1; refine run_t (v := ?_) (a' := ?_) rfl rfl (take_ofW HT_.out HW_.out (by kernel_rfl)) (fun _ _ _ h => h) (by rfl) ?_ hHeld ?_ ?_; rotate_left 2; (rintro w' ⟨s0, s1, s2, s3, s4, s5, s6⟩; go_simp; with_reducible rfl); (first | (simp only [Act.put, List.setIfInBounds_toArray, List.set_cons_zero, List.set_cons_succ, i64_w, i32_w]; rfl) | rfl)))
      refine run_nil ?_
      refine done_ (done_of HT_.out (by kernel_rfl)) ?_
      try go_wp2
      go_ret
      exact ⟨by first | rfl | (simp [errW_none, errW_some] <;> rfl) | (simp [*, errW_none, errW_some] <;> rfl), hB⟩
     ·rw [if_neg c8] at H
      exact absurd H (by simp)
    ·rw [if_neg c7] at H
     exact absurd H (by simp)
   ·rw [if_neg c6] at H
    exact absurd H (by simp)
  ·rw [if_neg c5] at H
   exact absurd H (by simp)
 ·rw [if_neg c3] at H
  have c3b0 : (a0_0 == 0) = false := beq_eq_false_iff_ne.mpr c3
  have c3b1 : (a0_0 != 0) = true := bne_iff_ne.mpr c3
  by_cases c16 : a0_0 = 1
  ·rw [if_pos c16] at H
   have c16b0 : (a0_0 == 1) = true := beq_iff_eq.mpr c16
   have c16b1 : (a0_0 != 1) = false := bne_eq_false_iff_eq.mpr c16
   clear c16
   replace H := Option.bind_eq_some_iff.mp H
   obtain ⟨t288, A170, H⟩ := H
   try dsimp only at H
   have A17 := Aside0.mk A170
   clear A170
   by_cases c18 : 0 ≤ a0_1
   ·rw [if_pos c18] at H
    have c18b0 : decide (0 ≤ a0_1) = true := decide_eq_true c18
    clear c18
    by_cases c19 : a0_1 < (t288.length : Int)
    ·rw [if_pos c19] at H
     have c19b0 : decide (a0_1 < (t288.length : Int)) = true := decide_eq_true c19
     clear c19
     by_cases c20 : 0 ≤ a0_2
     ·rw [if_pos c20] at H
      have c20b0 : decide (0 ≤ a0_2) = true := decide_eq_true c20
      clear c20
      by_cases c21 : a0_2 < ((rd_L5 t288 a0_1).length : Int)
      ·rw [if_pos c21] at H
       have c21b0 : decide (a0_2 < ((rd_L5 t288 a0_1).length : Int)) = true := decide_eq_true c21
       clear c21
       obtain rfl := Option.some.inj H
       go_enter Tryd.func60, Tryd.ntmps60
       try go_wp2_with (first | ((with_reducible refine gate_dst (N := 2) rfl ?_); refine bxE 2 #[.int .i64 a0_0, .int .i64 a0_1, .int .i64 a0_2] 30 rfl ?_; intro gb281 hg w22 hbox hb; have BK281 := Aside0.mk (hbox); have GW281 := gS HB hg; have GE281 := gS HB hg; replace HB := hS HB hb; clear hb hbox hg) | ((with_reducible refine gate_dst (N := 3) rfl ?_); refine bxE 3 #[.int .i64 a1_0, .slice A1_1 l1_1.length c1_1] 34 rfl ?_; intro gb282 hg w23 hbox hb; have BK282 := Aside0.mk (hbox); have GW282 := gS HB hg; have GE282 := gS HB hg; have NB281_282 := nL BK281 hg; have NB282_281 := nG BK281 hg; replace BK281 := bS BK281 hb; replace HB := hS HB hb; clear hb hbox hg; have hnb24 := NB281_282.out; have hnc24 := NB282_281.out; have hcz25_0 := cz BK281 0; have hcz25_1 := cz BK281 1; have hcz25_2 := cz BK281 2; have hfz25_0 := fz BK281 0; have hfz25_1 := fz BK281 1; have hfz25_2 := fz BK281 2))
       replace BK281 := Aside0.mk (blk_drew BK281.out)
       replace BK282 := Aside0.mk (blk_drew BK282.out)
       replace HB := Aside0.mk (below_drew1 HB.out)
       refine start_ (n := 12) (S := fun w' => w'.cell? ⟨gb282, 0, none⟩ = some (.int .i64 a1_0) ∧ w'.cell? ⟨gb282, 1, none⟩ = some (.slice A1_1 l1_1.length c1_1) ∧ w'.cell? ⟨gb281, 0, none⟩ = some (.int .i64 a0_0) ∧ w'.cell? ⟨gb281, 1, none⟩ = some (.int .i64 a0_1) ∧ w'.cell? ⟨gb281, 2, none⟩ = some (.int .i64 a0_2)) (ds := []) (bz 12 0) (by kernel_rfl) rfl rfl ⟨(blk_cell BK282.out 0).trans rfl, (blk_cell BK282.out 1).trans rfl, (blk_cell BK281.out 0).trans rfl, (blk_cell BK281.out 1).trans rfl, (blk_cell BK281.out 2).trans rfl⟩ (fun hHeld => ?_); refine with_tabW spec_pzFits.tab5 spec_pzFits.bits5 (fun HT_ HW_ => ?_)
       generalize w23.drew = w26 at BK281 BK282 HB hHeld ⊢
       refine run_ [(0, 2, 4, some 23), (0, 6, 68, some 27), (1, 0, 69, some 21), (1, 3, 77, some 24), (1, 7, 205, some 28)] ?_
       repeat (first | (apply tag0; refine run_p (v := ?_) (a' := ?_) rfl rfl (any_of HT_.out (by kernel_rfl)) (fun _ _ _ h => h) (by rfl) ?_ ?_ ?_; rotate_left 2; (intro w'; go_simp; with_reducible rfl); (first | (simp only [Act.put, List.setIfInBounds_toArray, List.set_cons_zero, List.set_cons_succ, i64_w, i32_w]; rfl) | rfl)) | (apply tag1; refine run_t (v := ?_) (a' := ?_) rfl rfl (take_ofW HT_.out HW_.out (by kernel_rfl)) (fun _ _ _ h => h) (by rfl) ?_ hHeld ?_ ?_; rotate_left 2; (rintro w' ⟨s0, s1, s2, s3, s4⟩; go_simp; with_reducible rfl); (first | (simp only [Act.put, List.setIfInBounds_toArray, List.set_cons_zero, List.set_cons_succ, i64_w, i32_w]; rfl) | rfl)))
       refine run_nil ?_
       refine one_ (i := 1) (N := some 22) (bz 12 207) rfl rfl (one_of HT_.out (by kernel_rfl)) (by decide) (fun K hK => ?_)
       refine goes_ Tryd.func70 (by kernel_rfl) rfl #[.agg #[.int .i64 a1_0, .slice A1_1 l1_1.length c1_1]] (by rfl) rfl rfl mapT ?_
       with_reducible refine (spec_paTable.calls k a1_0 _ _ l1_1 t288 _ ?side1 ?side2 A17.out).mono ?_
       (case side1 => exact cS (Kd.C_below HR1_1.out HB.out))
       (case side2 => exact HC1_1.out)
       rintro e w27 ⟨v289, rfl, ho0, hb⟩
       refine ⟨_, rfl, ?_⟩
       have HO290 := Aside0.mk (Kd.S_lower ho0 (below_size hB))
       replace BK281 := bS BK281 hb
       replace BK282 := bS BK282 hb
       replace HB := hS HB hb
       (try clear hb)
       (try clear hb2)
       (try clear hk)
       (try clear hi)
       (try clear ho0)
       obtain ⟨Ao28, co28, eo28⟩ := Kd.S_slice HO290.out
       (first | subst eo28 | (injection eo28 with f1_ f2_ f3_; have f4_ := f1_.symm; have f5_ := f3_.symm; clear f1_ f2_ f3_; subst f4_; subst f5_))
       have p291 : 0 ≤ (a0_1 : Int) := of_decide_eq_true (by first | (with_reducible assumption) | assumption)
       have q291 : a0_1 < (t288.length : Int) := of_decide_eq_true (by first | (with_reducible assumption) | assumption)
       obtain ⟨ad291, A291_0, c291_0, e291, hx291_0, hl291_0, hi291_0⟩ := at_L5 (Kd.S_reads' HO290.out).2.2 a0_1 p291 q291
       cases e291
       obtain ⟨ce291, hce291, hMe291, hcc291⟩ := Kd.S_get HO290.out [] a0_1 p291 (by first | exact q291 | exact of_decide_eq_true (by first | (with_reducible assumption) | assumption) | (have e_ := (Kd.S_reads' HO290.out).1; omega))
       obtain ⟨ve291_0, rfl, ge291_0⟩ := hMe291
       have hv291_0 := hcc291 0 _ rfl
       rw [Nat.add_zero, show ((Kd.slice 4 Kd.bool)).sz = 1 from rfl, Nat.mul_one] at hv291_0
       replace hv291_0 := Option.some.inj (hv291_0.symm.trans hx291_0)
       rw [hv291_0] at ge291_0
       have HL291_0 := Aside0.mk (show Kd.R Kd.bool 4 _ _ _ _ (rd_L5 t288 a0_1) from ge291_0)
       clear hv291_0 ge291_0
       clear hcc291 hce291
       have HR291_0 := Aside0.mk hi291_0
       have HC291_0 := Aside0.mk hl291_0
       clear hi291_0 hl291_0
       replace p291 := eq_true p291
       replace q291 := eq_true q291
       have p292 : 0 ≤ (a0_2 : Int) := of_decide_eq_true (by first | (with_reducible assumption) | assumption)
       have q292 : a0_2 < ((rd_L5 t288 a0_1).length : Int) := of_decide_eq_true (by first | (with_reducible assumption) | assumption)
       obtain ⟨ad292, e292, hx292_0⟩ := Kd.at_bool (by repeat (first | (with_reducible exact HR291_0.out) | (with_reducible refine Kd.C_alloc ?_ _) | (with_reducible refine Kd.C_drewN ?_ _) | (with_reducible refine Kd.C_drew ?_) | exact HR291_0.out)) a0_2 p292 q292
       cases e292
       replace p292 := eq_true p292
       replace q292 := eq_true q292
       refine hK.out _ _ ⟨(blk_cell BK282.out 0).trans rfl, (blk_cell BK282.out 1).trans rfl, (blk_cell BK281.out 0).trans rfl, (blk_cell BK281.out 1).trans rfl, (blk_cell BK281.out 2).trans rfl⟩ (fun hHeld => ?_)
       have hHeld2 : (fun w' : World => w'.cell? ⟨gb282, 0, none⟩ = some (.int .i64 a1_0) ∧ w'.cell? ⟨gb282, 1, none⟩ = some (.slice A1_1 l1_1.length c1_1) ∧ w'.cell? ⟨gb281, 0, none⟩ = some (.int .i64 a0_0) ∧ w'.cell? ⟨gb281, 1, none⟩ = some (.int .i64 a0_1) ∧ w'.cell? ⟨gb281, 2, none⟩ = some (.int .i64 a0_2) ∧ w'.cell? (ad291.add (a0_1).toNat) = some (.slice (some ad292) (rd_L5 t288 a0_1).length c291_0) ∧ w'.cell? (ad292.add (a0_2).toNat) = some (.bool (rdOf false (rd_L5 t288 a0_1) a0_2))) _ := ⟨(blk_cell BK282.out 0).trans rfl, (blk_cell BK282.out 1).trans rfl, (blk_cell BK281.out 0).trans rfl, (blk_cell BK281.out 1).trans rfl, (blk_cell BK281.out 2).trans rfl, hx291_0, hx292_0⟩
       refine more_ (fun w' : World => w'.cell? ⟨gb282, 0, none⟩ = some (.int .i64 a1_0) ∧ w'.cell? ⟨gb282, 1, none⟩ = some (.slice A1_1 l1_1.length c1_1) ∧ w'.cell? ⟨gb281, 0, none⟩ = some (.int .i64 a0_0) ∧ w'.cell? ⟨gb281, 1, none⟩ = some (.int .i64 a0_1) ∧ w'.cell? ⟨gb281, 2, none⟩ = some (.int .i64 a0_2) ∧ w'.cell? (ad291.add (a0_1).toNat) = some (.slice (some ad292) (rd_L5 t288 a0_1).length c291_0) ∧ w'.cell? (ad292.add (a0_2).toNat) = some (.bool (rdOf false (rd_L5 t288 a0_1) a0_2))) (fun _ ⟨s0, s1, s2, s3, s4, s5, s6⟩ => ⟨s0, s1, s2, s3, s4⟩) _ _ _ _ hHeld2 ?_
       clear hHeld
       have hHeld := hHeld2
       clear hHeld2
       clear hK K
       refine norm_ (a' := ?_) ?_ ?_
       rotate_left
       ·show Act.put _ (some 22) _ = _
        simp only [Act.put, List.setIfInBounds_toArray, List.set_cons_zero, List.set_cons_succ, i64_w, i32_w]
        rfl
       refine run_ [(0, 4, 223, some 25), (1, 5, 255, some 26), (0, 8, 511, some 29), (1, 9, 1023, some 30), (0, 10, 2047, some 31), (0, 11, 4095, some 4)] ?_
       repeat (first | (apply tag0; refine run_p (v := ?_) (a' := ?_) rfl rfl (any_of HT_.out (by kernel_rfl)) (fun _ _ _ h => h) (by rfl) ?_ ?_ ?_; rotate_left 2; (intro w'; go_simp; with_reducible rfl); (first | (simp only [Act.put, List.setIfInBounds_toArray, List.set_cons_zero, List.set_cons_succ, i64_w, i32_w]; rfl) | rfl)) | (apply tag1; refine run_t (v := ?_) (a' := ?_) rfl rfl (take_ofW HT_.out HW_.out (by kernel_rfl)) (fun _ _ _ h => h) (by rfl) ?_ hHeld ?_ ?_; rotate_left 2; (rintro w' ⟨s0, s1, s2, s3, s4, s5, s6⟩; go_simp; with_reducible rfl); (first | (simp only [Act.put, List.setIfInBounds_toArray, List.set_cons_zero, List.set_cons_succ, i64_w, i32_w]; rfl) | rfl)))
       refine run_nil ?_
       refine done_ (done_of HT_.out (by kernel_rfl)) ?_
       try go_wp2
       go_ret
       exact ⟨by first | rfl | (simp [errW_none, errW_some] <;> rfl) | (simp [*, errW_none, errW_some] <;> rfl), hB⟩
      ·rw [if_neg c21] at H
       exact absurd H (by simp)
     ·rw [if_neg c20] at H
      exact absurd H (by simp)
    ·rw [if_neg c19] at H
     exact absurd H (by simp)
   ·rw [if_neg c18] at H
    exact absurd H (by simp)
  ·rw [if_neg c16] at H
   have c16b0 : (a0_0 == 1) = false := beq_eq_false_iff_ne.mpr c16
   have c16b1 : (a0_0 != 1) = true := bne_iff_ne.mpr c16
   by_cases c29 : a0_0 = 2
   ·rw [if_pos c29] at H
    have c29b0 : (a0_0 == 2) = true := beq_iff_eq.mpr c29
    have c29b1 : (a0_0 != 2) = false := bne_eq_false_iff_eq.mpr c29
    clear c29
    replace H := Option.bind_eq_some_iff.mp H
    obtain ⟨t293, A300, H⟩ := H
    try dsimp only at H
    have A30 := Aside0.mk A300
    clear A300
    by_cases c31 : 0 ≤ a0_1
    ·rw [if_pos c31] at H
     have c31b0 : decide (0 ≤ a0_1) = true := decide_eq_true c31
     clear c31
     by_cases c32 : a0_1 < (t293.length : Int)
     ·rw [if_pos c32] at H
      have c32b0 : decide (a0_1 < (t293.length : Int)) = true := decide_eq_true c32
      clear c32
      obtain rfl := Option.some.inj H
      go_enter Tryd.func60, Tryd.ntmps60
      try go_wp2_with (first | ((with_reducible refine gate_dst (N := 2) rfl ?_); refine bxE 2 #[.int .i64 a0_0, .int .i64 a0_1, .int .i64 a0_2] 30 rfl ?_; intro gb281 hg w33 hbox hb; have BK281 := Aside0.mk (hbox); have GW281 := gS HB hg; have GE281 := gS HB hg; replace HB := hS HB hb; clear hb hbox hg) | ((with_reducible refine gate_dst (N := 3) rfl ?_); refine bxE 3 #[.int .i64 a1_0, .slice A1_1 l1_1.length c1_1] 34 rfl ?_; intro gb282 hg w34 hbox hb; have BK282 := Aside0.mk (hbox); have GW282 := gS HB hg; have GE282 := gS HB hg; have NB281_282 := nL BK281 hg; have NB282_281 := nG BK281 hg; replace BK281 := bS BK281 hb; replace HB := hS HB hb; clear hb hbox hg; have hnb35 := NB281_282.out; have hnc35 := NB282_281.out; have hcz36_0 := cz BK281 0; have hcz36_1 := cz BK281 1; have hcz36_2 := cz BK281 2; have hfz36_0 := fz BK281 0; have hfz36_1 := fz BK281 1; have hfz36_2 := fz BK281 2))
      replace BK281 := Aside0.mk (blk_drew BK281.out)
      replace BK282 := Aside0.mk (blk_drew BK282.out)
      replace HB := Aside0.mk (below_drew1 HB.out)
      refine start_ (n := 10) (S := fun w' => w'.cell? ⟨gb282, 0, none⟩ = some (.int .i64 a1_0) ∧ w'.cell? ⟨gb282, 1, none⟩ = some (.slice A1_1 l1_1.length c1_1) ∧ w'.cell? ⟨gb281, 0, none⟩ = some (.int .i64 a0_0) ∧ w'.cell? ⟨gb281, 1, none⟩ = some (.int .i64 a0_1) ∧ w'.cell? ⟨gb281, 2, none⟩ = some (.int .i64 a0_2)) (ds := []) (bz 10 0) (by kernel_rfl) rfl rfl ⟨(blk_cell BK282.out 0).trans rfl, (blk_cell BK282.out 1).trans rfl, (blk_cell BK281.out 0).trans rfl, (blk_cell BK281.out 1).trans rfl, (blk_cell BK281.out 2).trans rfl⟩ (fun hHeld => ?_); refine with_tabW spec_pzFits.tab7 spec_pzFits.bits7 (fun HT_ HW_ => ?_)
      generalize w34.drew = w37 at BK281 BK282 HB hHeld ⊢
      refine run_ [(0, 2, 4, some 36), (0, 6, 68, some 40), (1, 0, 69, some 34), (1, 3, 77, some 37), (1, 7, 205, some 41)] ?_
      repeat (first | (apply tag0; refine run_p (v := ?_) (a' := ?_) rfl rfl (any_of HT_.out (by kernel_rfl)) (fun _ _ _ h => h) (by rfl) ?_ ?_ ?_; rotate_left 2; (intro w'; go_simp; with_reducible rfl); (first | (simp only [Act.put, List.setIfInBounds_toArray, List.set_cons_zero, List.set_cons_succ, i64_w, i32_w]; rfl) | rfl)) | (apply tag1; refine run_t (v := ?_) (a' := ?_) rfl rfl (take_ofW HT_.out HW_.out (by kernel_rfl)) (fun _ _ _ h => h) (by rfl) ?_ hHeld ?_ ?_; rotate_left 2; (rintro w' ⟨s0, s1, s2, s3, s4⟩; go_simp; with_reducible rfl); (first | (simp only [Act.put, List.setIfInBounds_toArray, List.set_cons_zero, List.set_cons_succ, i64_w, i32_w]; rfl) | rfl)))
      refine run_nil ?_
      refine one_ (i := 1) (N := some 35) (bz 10 207) rfl rfl (one_of HT_.out (by kernel_rfl)) (by decide) (fun K hK => ?_)
      refine goes_ Tryd.func71 (by kernel_rfl) rfl #[.agg #[.int .i64 a1_0, .slice A1_1 l1_1.length c1_1]] (by rfl) rfl rfl mapT ?_
      with_reducible refine (spec_paNumbers.calls k a1_0 _ _ l1_1 t293 _ ?side1 ?side2 A30.out).mono ?_
      (case side1 => exact cS (Kd.C_below HR1_1.out HB.out))
      (case side2 => exact HC1_1.out)
      rintro e w38 ⟨v294, rfl, ho0, hb⟩
      refine ⟨_, rfl, ?_⟩
      have HO295 := Aside0.mk (Kd.R_lower ho0 (below_size hB))
      replace BK281 := bS BK281 hb
      replace BK282 := bS BK282 hb
      replace HB := hS HB hb
      (try clear hb)
      (try clear hb2)
      (try clear hk)
      (try clear hi)
      (try clear ho0)
      obtain ⟨Ao39, co39, eo39⟩ := Kd.R_slice HO295.out
      (first | subst eo39 | (injection eo39 with f1_ f2_ f3_; have f4_ := f1_.symm; have f5_ := f3_.symm; clear f1_ f2_ f3_; subst f4_; subst f5_))
      have p296 : 0 ≤ (a0_1 : Int) := of_decide_eq_true (by first | (with_reducible assumption) | assumption)
      have q296 : a0_1 < (t293.length : Int) := of_decide_eq_true (by first | (with_reducible assumption) | assumption)
      obtain ⟨ad296, e296, hx296_0⟩ := Kd.at_int (Kd.R_reads' HO295.out).2.2 a0_1 p296 q296
      cases e296
      replace p296 := eq_true p296
      replace q296 := eq_true q296
      refine hK.out _ _ ⟨(blk_cell BK282.out 0).trans rfl, (blk_cell BK282.out 1).trans rfl, (blk_cell BK281.out 0).trans rfl, (blk_cell BK281.out 1).trans rfl, (blk_cell BK281.out 2).trans rfl⟩ (fun hHeld => ?_)
      have hHeld2 : (fun w' : World => w'.cell? ⟨gb282, 0, none⟩ = some (.int .i64 a1_0) ∧ w'.cell? ⟨gb282, 1, none⟩ = some (.slice A1_1 l1_1.length c1_1) ∧ w'.cell? ⟨gb281, 0, none⟩ = some (.int .i64 a0_0) ∧ w'.cell? ⟨gb281, 1, none⟩ = some (.int .i64 a0_1) ∧ w'.cell? ⟨gb281, 2, none⟩ = some (.int .i64 a0_2) ∧ w'.cell? (ad296.add (a0_1).toNat) = some (.int .i64 (rd t293 a0_1))) _ := ⟨(blk_cell BK282.out 0).trans rfl, (blk_cell BK282.out 1).trans rfl, (blk_cell BK281.out 0).trans rfl, (blk_cell BK281.out 1).trans rfl, (blk_cell BK281.out 2).trans rfl, hx296_0⟩
      refine more_ (fun w' : World => w'.cell? ⟨gb282, 0, none⟩ = some (.int .i64 a1_0) ∧ w'.cell? ⟨gb282, 1, none⟩ = some (.slice A1_1 l1_1.length c1_1) ∧ w'.cell? ⟨gb281, 0, none⟩ = some (.int .i64 a0_0) ∧ w'.cell? ⟨gb281, 1, none⟩ = some (.int .i64 a0_1) ∧ w'.cell? ⟨gb281, 2, none⟩ = some (.int .i64 a0_2) ∧ w'.cell? (ad296.add (a0_1).toNat) = some (.int .i64 (rd t293 a0_1))) (fun _ ⟨s0, s1, s2, s3, s4, s5⟩ => ⟨s0, s1, s2, s3, s4⟩) _ _ _ _ hHeld2 ?_
      clear hHeld
      have hHeld := hHeld2
      clear hHeld2
      clear hK K
      refine norm_ (a' := ?_) ?_ ?_
      rotate_left
      ·show Act.put _ (some 35) _ = _
       simp only [Act.put, List.setIfInBounds_toArray, List.set_cons_zero, List.set_cons_succ, i64_w, i32_w]
       rfl
      refine run_ [(0, 4, 223, some 38), (1, 5, 255, some 39), (0, 8, 511, some 42), (0, 9, 1023, some 4)] ?_
      repeat (first | (apply tag0; refine run_p (v := ?_) (a' := ?_) rfl rfl (any_of HT_.out (by kernel_rfl)) (fun _ _ _ h => h) (by rfl) ?_ ?_ ?_; rotate_left 2; (intro w'; go_simp; with_reducible rfl); (first | (simp only [Act.put, List.setIfInBounds_toArray, List.set_cons_zero, List.set_cons_succ, i64_w, i32_w]; rfl) | rfl)) | (apply tag1; refine run_t (v := ?_) (a' := ?_) rfl rfl (take_ofW HT_.out HW_.out (by kernel_rfl)) (fun _ _ _ h => h) (by rfl) ?_ hHeld ?_ ?_; rotate_left 2; (rintro w' ⟨s0, s1, s2, s3, s4, s5⟩; go_simp; with_reducible rfl); (first | (simp only [Act.put, List.setIfInBounds_toArray, List.set_cons_zero, List.set_cons_succ, i64_w, i32_w]; rfl) | rfl)))
      refine run_nil ?_
      refine done_ (done_of HT_.out (by kernel_rfl)) ?_
      try go_wp2
      go_ret
      exact ⟨by first | rfl | (simp [errW_none, errW_some] <;> rfl) | (simp [*, errW_none, errW_some] <;> rfl), hB⟩
     ·rw [if_neg c32] at H
      exact absurd H (by simp)
    ·rw [if_neg c31] at H
     exact absurd H (by simp)
   ·rw [if_neg c29] at H
    have c29b0 : (a0_0 == 2) = false := beq_eq_false_iff_ne.mpr c29
    have c29b1 : (a0_0 != 2) = true := bne_iff_ne.mpr c29
    by_cases c40 : a0_0 = 3
    ·rw [if_pos c40] at H
     have c40b0 : (a0_0 == 3) = true := beq_iff_eq.mpr c40
     have c40b1 : (a0_0 != 3) = false := bne_eq_false_iff_eq.mpr c40
     clear c40
     obtain rfl := Option.some.inj H
     go_enter Tryd.func60, Tryd.ntmps60
     go_wp2_with (first | ((with_reducible refine gate_dst (N := 2) rfl ?_); refine bxE 2 #[.int .i64 a0_0, .int .i64 a0_1, .int .i64 a0_2] 30 rfl ?_; intro gb281 hg w41 hbox hb; have BK281 := Aside0.mk (hbox); have GW281 := gS HB hg; have GE281 := gS HB hg; replace HB := hS HB hb; clear hb hbox hg) | ((with_reducible refine gate_dst (N := 3) rfl ?_); refine bxE 3 #[.int .i64 a1_0, .slice A1_1 l1_1.length c1_1] 34 rfl ?_; intro gb282 hg w42 hbox hb; have BK282 := Aside0.mk (hbox); have GW282 := gS HB hg; have GE282 := gS HB hg; have NB281_282 := nL BK281 hg; have NB282_281 := nG BK281 hg; replace BK281 := bS BK281 hb; replace HB := hS HB hb; clear hb hbox hg; have hnb43 := NB281_282.out; have hnc43 := NB282_281.out; have hcz44_0 := cz BK281 0; have hcz44_1 := cz BK281 1; have hcz44_2 := cz BK281 2; have hfz44_0 := fz BK281 0; have hfz44_1 := fz BK281 1; have hfz44_2 := fz BK281 2; have hcz45_0 := cz BK282 0; have hcz45_1 := cz BK282 1; have hfz45_0 := fz BK282 0; have hfz45_1 := fz BK282 1))
     go_ret
     exact ⟨by first | rfl | (simp [errW_none, errW_some] <;> rfl) | (simp [*, errW_none, errW_some] <;> rfl), hB⟩
    ·rw [if_neg c40] at H
     have c40b0 : (a0_0 == 3) = false := beq_eq_false_iff_ne.mpr c40
     have c40b1 : (a0_0 != 3) = true := bne_iff_ne.mpr c40
     by_cases c46 : a0_0 = 4
     ·rw [if_pos c46] at H
      have c46b0 : (a0_0 == 4) = true := beq_iff_eq.mpr c46
      have c46b1 : (a0_0 != 4) = false := bne_eq_false_iff_eq.mpr c46
      clear c46
      replace H := Option.bind_eq_some_iff.mp H
      obtain ⟨t297, A470, H⟩ := H
      replace H : (some (t297 == a0_1)) = some r := H
      have A47 := Aside0.mk A470
      clear A470
      obtain rfl := Option.some.inj H
      go_enter Tryd.func60, Tryd.ntmps60
      try go_wp2_with (first | ((with_reducible refine gate_dst (N := 2) rfl ?_); refine bxE 2 #[.int .i64 a0_0, .int .i64 a0_1, .int .i64 a0_2] 30 rfl ?_; intro gb281 hg w48 hbox hb; have BK281 := Aside0.mk (hbox); have GW281 := gS HB hg; have GE281 := gS HB hg; replace HB := hS HB hb; clear hb hbox hg) | ((with_reducible refine gate_dst (N := 3) rfl ?_); refine bxE 3 #[.int .i64 a1_0, .slice A1_1 l1_1.length c1_1] 34 rfl ?_; intro gb282 hg w49 hbox hb; have BK282 := Aside0.mk (hbox); have GW282 := gS HB hg; have GE282 := gS HB hg; have NB281_282 := nL BK281 hg; have NB282_281 := nG BK281 hg; replace BK281 := bS BK281 hb; replace HB := hS HB hb; clear hb hbox hg; have hnb50 := NB281_282.out; have hnc50 := NB282_281.out; have hcz51_0 := cz BK281 0; have hcz51_1 := cz BK281 1; have hcz51_2 := cz BK281 2; have hfz51_0 := fz BK281 0; have hfz51_1 := fz BK281 1; have hfz51_2 := fz BK281 2))
      replace BK281 := Aside0.mk (blk_drew BK281.out)
      replace BK282 := Aside0.mk (blk_drew BK282.out)
      replace HB := Aside0.mk (below_drew1 HB.out)
      refine start_ (n := 6) (S := fun w' => w'.cell? ⟨gb282, 0, none⟩ = some (.int .i64 a1_0) ∧ w'.cell? ⟨gb282, 1, none⟩ = some (.slice A1_1 l1_1.length c1_1) ∧ w'.cell? ⟨gb281, 0, none⟩ = some (.int .i64 a0_0) ∧ w'.cell? ⟨gb281, 1, none⟩ = some (.int .i64 a0_1) ∧ w'.cell? ⟨gb281, 2, none⟩ = some (.int .i64 a0_2)) (ds := []) (bz 6 0) (by kernel_rfl) rfl rfl ⟨(blk_cell BK282.out 0).trans rfl, (blk_cell BK282.out 1).trans rfl, (blk_cell BK281.out 0).trans rfl, (blk_cell BK281.out 1).trans rfl, (blk_cell BK281.out 2).trans rfl⟩ (fun hHeld => ?_)
      generalize w49.drew = w52 at BK281 BK282 HB hHeld ⊢
      refine run_ [(0, 2, 4, some 55), (1, 0, 5, some 53), (1, 3, 13, some 56)] ?_
      repeat (first | (apply tag0; refine run_p (v := ?_) (a' := ?_) rfl rfl (by kernel_rfl) (fun _ _ _ h => h) (by rfl) ?_ ?_ ?_; rotate_left 2; (intro w'; go_simp; with_reducible rfl); (first | (simp only [Act.put, List.setIfInBounds_toArray, List.set_cons_zero, List.set_cons_succ, i64_w, i32_w]; rfl) | rfl)) | (apply tag1; refine run_t (v := ?_) (a' := ?_) rfl rfl (by kernel_rfl) (fun _ _ _ h => h) (by rfl) ?_ hHeld ?_ ?_; rotate_left 2; (rintro w' ⟨s0, s1, s2, s3, s4⟩; go_simp; with_reducible rfl); (first | (simp only [Act.put, List.setIfInBounds_toArray, List.set_cons_zero, List.set_cons_succ, i64_w, i32_w]; rfl) | rfl)))
      refine run_nil ?_
      refine one_ (i := 1) (N := some 54) (bz 6 15) rfl rfl (by kernel_rfl) (by decide) (fun K hK => ?_)
      refine goes_ Tryd.func72 (by kernel_rfl) rfl #[.agg #[.int .i64 a1_0, .slice A1_1 l1_1.length c1_1]] (by rfl) rfl rfl mapT ?_
      with_reducible refine (spec_pzThrees.calls k a1_0 _ _ l1_1 t297 _ ?side1 ?side2 A47.out).mono ?_
      (case side1 => exact cS (Kd.C_below HR1_1.out HB.out))
      (case side2 => exact HC1_1.out)
      rintro e w53 ⟨rfl, hb⟩
      refine ⟨_, rfl, ?_⟩
      replace BK281 := bS BK281 hb
      replace BK282 := bS BK282 hb
      replace HB := hS HB hb
      (try clear hb)
      (try clear hb2)
      (try clear hk)
      (try clear hi)
      refine hK.out _ _ ⟨(blk_cell BK282.out 0).trans rfl, (blk_cell BK282.out 1).trans rfl, (blk_cell BK281.out 0).trans rfl, (blk_cell BK281.out 1).trans rfl, (blk_cell BK281.out 2).trans rfl⟩ (fun hHeld => ?_)
      clear hK K
      refine norm_ (a' := ?_) ?_ ?_
      rotate_left
      ·show Act.put _ (some 54) _ = _
       simp only [Act.put, List.setIfInBounds_toArray, List.set_cons_zero, List.set_cons_succ, i64_w, i32_w]
       rfl
      refine run_ [(0, 4, 31, some 57), (0, 5, 63, some 4)] ?_
      repeat ((apply tag0; refine run_p (v := ?_) (a' := ?_) rfl rfl (by kernel_rfl) (fun _ _ _ h => h) (by rfl) ?_ ?_ ?_; rotate_left 2; (intro w'; go_simp; with_reducible rfl); (first | (simp only [Act.put, List.setIfInBounds_toArray, List.set_cons_zero, List.set_cons_succ, i64_w, i32_w]; rfl) | rfl)))
      refine run_nil ?_
      refine done_ (by kernel_rfl) ?_
      try go_wp2
      go_ret
      exact ⟨by first | rfl | (simp [errW_none, errW_some] <;> rfl) | (simp [*, errW_none, errW_some] <;> rfl), hB⟩
     ·rw [if_neg c46] at H
      have c46b0 : (a0_0 == 4) = false := beq_eq_false_iff_ne.mpr c46
      have c46b1 : (a0_0 != 4) = true := bne_iff_ne.mpr c46
      replace H := Option.bind_eq_some_iff.mp H
      obtain ⟨t298, A540, H⟩ := H
      try dsimp only at H
      have A54 := Aside0.mk A540
      clear A540
      obtain rfl := Option.some.inj H
      go_enter Tryd.func60, Tryd.ntmps60
      try go_wp2_with (first | ((with_reducible refine gate_dst (N := 2) rfl ?_); refine bxE 2 #[.int .i64 a0_0, .int .i64 a0_1, .int .i64 a0_2] 30 rfl ?_; intro gb281 hg w55 hbox hb; have BK281 := Aside0.mk (hbox); have GW281 := gS HB hg; have GE281 := gS HB hg; replace HB := hS HB hb; clear hb hbox hg) | ((with_reducible refine gate_dst (N := 3) rfl ?_); refine bxE 3 #[.int .i64 a1_0, .slice A1_1 l1_1.length c1_1] 34 rfl ?_; intro gb282 hg w56 hbox hb; have BK282 := Aside0.mk (hbox); have GW282 := gS HB hg; have GE282 := gS HB hg; have NB281_282 := nL BK281 hg; have NB282_281 := nG BK281 hg; replace BK281 := bS BK281 hb; replace HB := hS HB hb; clear hb hbox hg; have hnb57 := NB281_282.out; have hnc57 := NB282_281.out; have hcz58_0 := cz BK281 0; have hcz58_1 := cz BK281 1; have hcz58_2 := cz BK281 2; have hfz58_0 := fz BK281 0; have hfz58_1 := fz BK281 1; have hfz58_2 := fz BK281 2))
      replace BK281 := Aside0.mk (blk_drew BK281.out)
      replace BK282 := Aside0.mk (blk_drew BK282.out)
      replace HB := Aside0.mk (below_drew1 HB.out)
      refine start_ (n := 7) (S := fun w' => w'.cell? ⟨gb282, 0, none⟩ = some (.int .i64 a1_0) ∧ w'.cell? ⟨gb282, 1, none⟩ = some (.slice A1_1 l1_1.length c1_1) ∧ w'.cell? ⟨gb281, 0, none⟩ = some (.int .i64 a0_0) ∧ w'.cell? ⟨gb281, 1, none⟩ = some (.int .i64 a0_1) ∧ w'.cell? ⟨gb281, 2, none⟩ = some (.int .i64 a0_2)) (ds := []) (bz 7 0) (by kernel_rfl) rfl rfl ⟨(blk_cell BK282.out 0).trans rfl, (blk_cell BK282.out 1).trans rfl, (blk_cell BK281.out 0).trans rfl, (blk_cell BK281.out 1).trans rfl, (blk_cell BK281.out 2).trans rfl⟩ (fun hHeld => ?_)
      generalize w56.drew = w59 at BK281 BK282 HB hHeld ⊢
      refine run_ [(0, 3, 8, some 61), (1, 0, 9, some 58), (1, 4, 25, some 62)] ?_
      repeat (first | (apply tag0; refine run_p (v := ?_) (a' := ?_) rfl rfl (by kernel_rfl) (fun _ _ _ h => h) (by rfl) ?_ ?_ ?_; rotate_left 2; (intro w'; go_simp; with_reducible rfl); (first | (simp only [Act.put, List.setIfInBounds_toArray, List.set_cons_zero, List.set_cons_succ, i64_w, i32_w]; rfl) | rfl)) | (apply tag1; refine run_t (v := ?_) (a' := ?_) rfl rfl (by kernel_rfl) (fun _ _ _ h => h) (by rfl) ?_ hHeld ?_ ?_; rotate_left 2; (rintro w' ⟨s0, s1, s2, s3, s4⟩; go_simp; with_reducible rfl); (first | (simp only [Act.put, List.setIfInBounds_toArray, List.set_cons_zero, List.set_cons_succ, i64_w, i32_w]; rfl) | rfl)))
      refine run_nil ?_
      refine one_ (i := 1) (N := some 59) (bz 7 27) rfl rfl (by kernel_rfl) (by decide) (fun K hK => ?_)
      refine goes_ Tryd.func73 (by kernel_rfl) rfl #[.agg #[.int .i64 a1_0, .slice A1_1 l1_1.length c1_1]] (by rfl) rfl rfl mapT ?_
      with_reducible refine (spec_paParts.calls k a1_0 _ _ l1_1 t298 _ ?side1 ?side2 A54.out).mono ?_
      (case side1 => exact cS (Kd.C_below HR1_1.out HB.out))
      (case side2 => exact HC1_1.out)
      rintro e w60 ⟨v299, rfl, ho0, hb⟩
      refine ⟨_, rfl, ?_⟩
      have HO300 := Aside0.mk (Kd.S_lower ho0 (below_size hB))
      replace BK281 := bS BK281 hb
      replace BK282 := bS BK282 hb
      replace HB := hS HB hb
      (try clear hb)
      (try clear hb2)
      (try clear hk)
      (try clear hi)
      (try clear ho0)
      obtain ⟨Ao61, co61, eo61⟩ := Kd.S_slice HO300.out
      (first | subst eo61 | (injection eo61 with f1_ f2_ f3_; have f4_ := f1_.symm; have f5_ := f3_.symm; clear f1_ f2_ f3_; subst f4_; subst f5_))
      refine hK.out _ _ ⟨(blk_cell BK282.out 0).trans rfl, (blk_cell BK282.out 1).trans rfl, (blk_cell BK281.out 0).trans rfl, (blk_cell BK281.out 1).trans rfl, (blk_cell BK281.out 2).trans rfl⟩ (fun hHeld => ?_)
      clear hK K
      refine norm_ (a' := ?_) ?_ ?_
      rotate_left
      ·show Act.put _ (some 59) _ = _
       simp only [Act.put, List.setIfInBounds_toArray, List.set_cons_zero, List.set_cons_succ, i64_w, i32_w]
       rfl
      refine run_ [(0, 2, 31, some 60), (0, 5, 63, some 63), (0, 6, 127, some 4)] ?_
      repeat ((apply tag0; refine run_p (v := ?_) (a' := ?_) rfl rfl (by kernel_rfl) (fun _ _ _ h => h) (by rfl) ?_ ?_ ?_; rotate_left 2; (intro w'; go_simp; with_reducible rfl); (first | (simp only [Act.put, List.setIfInBounds_toArray, List.set_cons_zero, List.set_cons_succ, i64_w, i32_w]; rfl) | rfl)))
      refine run_nil ?_
      refine done_ (by kernel_rfl) ?_
      try go_wp2
      go_ret
      exact ⟨by first | rfl | (simp [errW_none, errW_some] <;> rfl) | (simp [*, errW_none, errW_some] <;> rfl), hB⟩

/-! ### spec_l1Least: function 68 -/
def spec_l1Least.f (a0 : Int) (a1 : Int) : Option (Int) := if a0 < a1 then (some a0) else (some a1)
set_option maxHeartbeats 8000000 in
set_option maxRecDepth 100000 in
theorem spec_l1Least.calls (a0 : Int) (a1 : Int) (r : Int) (w : World) (h : spec_l1Least.f a0 a1 = some r) :
  Calls Tryd.prog 68 #[.int .i64 a0, .int .i64 a1] w fun e w' => e = .returned (.int .i64 r) ∧ Drawn0 w w' := by
 have H : (if a0 < a1 then (some a0) else (some a1)) = some r := h
 clear h
 by_cases c3 : a0 < a1
 ·rw [if_pos c3] at H
  have c3b0 : decide (a0 < a1) = true := decide_eq_true c3
  clear c3
  obtain rfl := Option.some.inj H
  go_enter Tryd.func68, Tryd.ntmps68
  go_wp2
  go_ret
  exact ⟨by first | rfl | (simp; done) | (simp [*]; done), by repeat (first | exact Drawn0.refl _ | apply Drawn0.step)⟩
 ·rw [if_neg c3] at H
  have c3b0 : decide (a0 < a1) = false := decide_eq_false c3
  clear c3
  obtain rfl := Option.some.inj H
  go_enter Tryd.func68, Tryd.ntmps68
  go_wp2
  go_ret
  exact ⟨by first | rfl | (simp; done) | (simp [*]; done), by repeat (first | exact Drawn0.refl _ | apply Drawn0.step)⟩

/-! ### spec_paLess: function 97 -/
def spec_paLess.f (a0_0 : Int) (a0_1 : Int) (a1_0 : Int) (a1_1 : Int) : Option (Bool) := if a0_0 < a1_0 then (some true) else (if a0_0 = a1_0 then (some (decide (a0_1 < a1_1))) else (some false))
set_option maxHeartbeats 8000000 in
set_option maxRecDepth 100000 in
theorem spec_paLess.calls (a0_0 : Int) (a0_1 : Int) (a1_0 : Int) (a1_1 : Int) (r : Bool) (w : World) (h : spec_paLess.f a0_0 a0_1 a1_0 a1_1 = some r) :
  Calls Tryd.prog 97 #[.agg #[.int .i64 a0_0, .int .i64 a0_1], .agg #[.int .i64 a1_0, .int .i64 a1_1]] w fun e w' => e = .returned (.bool r) ∧ Below w.heap.size w w' := by
 have hu110 := Tryd.underlying110
 have HB := Aside0.mk (Below.refl w.heap.size w)
 have H : (if a0_0 < a1_0 then (some true) else (if a0_0 = a1_0 then (some (decide (a0_1 < a1_1))) else (some false))) = some r := h
 clear h
 by_cases c3 : a0_0 < a1_0
 ·rw [if_pos c3] at H
  have c3b0 : decide (a0_0 < a1_0) = true := decide_eq_true c3
  clear c3
  obtain rfl := Option.some.inj H
  go_enter Tryd.func97, Tryd.ntmps97
  go_wp2_with (first | ((with_reducible refine gate_dst (N := 2) rfl ?_); refine bxE 2 #[.int .i64 a0_0, .int .i64 a0_1] 110 rfl ?_; intro gb301 hg w4 hbox hb; have BK301 := Aside0.mk (hbox); have GW301 := gS HB hg; have GE301 := gS HB hg; replace HB := hS HB hb; clear hb hbox hg) | ((with_reducible refine gate_dst (N := 3) rfl ?_); refine bxE 3 #[.int .i64 a1_0, .int .i64 a1_1] 110 rfl ?_; intro gb302 hg w5 hbox hb; have BK302 := Aside0.mk (hbox); have GW302 := gS HB hg; have GE302 := gS HB hg; have NB301_302 := nL BK301 hg; have NB302_301 := nG BK301 hg; replace BK301 := bS BK301 hb; replace HB := hS HB hb; clear hb hbox hg; have hnb6 := NB301_302.out; have hnc6 := NB302_301.out; have hcz7_0 := cz BK301 0; have hcz7_1 := cz BK301 1; have hfz7_0 := fz BK301 0; have hfz7_1 := fz BK301 1; have hcz8_0 := cz BK302 0; have hcz8_1 := cz BK302 1; have hfz8_0 := fz BK302 0; have hfz8_1 := fz BK302 1))
  go_ret
  exact ⟨by first | rfl | (simp [errW_none, errW_some] <;> rfl) | (simp [*, errW_none, errW_some] <;> rfl), hB⟩
 ·rw [if_neg c3] at H
  have c3b0 : decide (a0_0 < a1_0) = false := decide_eq_false c3
  clear c3
  by_cases c9 : a0_0 = a1_0
  ·rw [if_pos c9] at H
   have c9b0 : (a0_0 == a1_0) = true := beq_iff_eq.mpr c9
   have c9b1 : (a0_0 != a1_0) = false := bne_eq_false_iff_eq.mpr c9
   clear c9
   obtain rfl := Option.some.inj H
   go_enter Tryd.func97, Tryd.ntmps97
   go_wp2_with (first | ((with_reducible refine gate_dst (N := 2) rfl ?_); refine bxE 2 #[.int .i64 a0_0, .int .i64 a0_1] 110 rfl ?_; intro gb301 hg w10 hbox hb; have BK301 := Aside0.mk (hbox); have GW301 := gS HB hg; have GE301 := gS HB hg; replace HB := hS HB hb; clear hb hbox hg) | ((with_reducible refine gate_dst (N := 3) rfl ?_); refine bxE 3 #[.int .i64 a1_0, .int .i64 a1_1] 110 rfl ?_; intro gb302 hg w11 hbox hb; have BK302 := Aside0.mk (hbox); have GW302 := gS HB hg; have GE302 := gS HB hg; have NB301_302 := nL BK301 hg; have NB302_301 := nG BK301 hg; replace BK301 := bS BK301 hb; replace HB := hS HB hb; clear hb hbox hg; have hnb12 := NB301_302.out; have hnc12 := NB302_301.out; have hcz13_0 := cz BK301 0; have hcz13_1 := cz BK301 1; have hfz13_0 := fz BK301 0; have hfz13_1 := fz BK301 1; have hcz14_0 := cz BK302 0; have hcz14_1 := cz BK302 1; have hfz14_0 := fz BK302 0; have hfz14_1 := fz BK302 1))
   go_ret
   exact ⟨by first | rfl | (simp [errW_none, errW_some] <;> rfl) | (simp [*, errW_none, errW_some] <;> rfl), hB⟩
  ·rw [if_neg c9] at H
   have c9b0 : (a0_0 == a1_0) = false := beq_eq_false_iff_ne.mpr c9
   have c9b1 : (a0_0 != a1_0) = true := bne_iff_ne.mpr c9
   obtain rfl := Option.some.inj H
   go_enter Tryd.func97, Tryd.ntmps97
   go_wp2_with (first | ((with_reducible refine gate_dst (N := 2) rfl ?_); refine bxE 2 #[.int .i64 a0_0, .int .i64 a0_1] 110 rfl ?_; intro gb301 hg w15 hbox hb; have BK301 := Aside0.mk (hbox); have GW301 := gS HB hg; have GE301 := gS HB hg; replace HB := hS HB hb; clear hb hbox hg) | ((with_reducible refine gate_dst (N := 3) rfl ?_); refine bxE 3 #[.int .i64 a1_0, .int .i64 a1_1] 110 rfl ?_; intro gb302 hg w16 hbox hb; have BK302 := Aside0.mk (hbox); have GW302 := gS HB hg; have GE302 := gS HB hg; have NB301_302 := nL BK301 hg; have NB302_301 := nG BK301 hg; replace BK301 := bS BK301 hb; replace HB := hS HB hb; clear hb hbox hg; have hnb17 := NB301_302.out; have hnc17 := NB302_301.out; have hcz18_0 := cz BK301 0; have hcz18_1 := cz BK301 1; have hfz18_0 := fz BK301 0; have hfz18_1 := fz BK301 1; have hcz19_0 := cz BK302 0; have hcz19_1 := cz BK302 1; have hfz19_0 := fz BK302 0; have hfz19_1 := fz BK302 1))
   go_ret
   exact ⟨by first | rfl | (simp [errW_none, errW_some] <;> rfl) | (simp [*, errW_none, errW_some] <;> rfl), hB⟩

/-! ### spec_paBefore: function 130 -/
def spec_paBefore.l0 : Nat → List (S110) → Int → Int → Int → List (S110) → Int → List (S110) → Option (Bool)
 | 0, _, _, _, _, _, _, _ => none
 | k + 1, x8, x9, x10, x304000, x304001, x305000, x305001 => if x10 < x9 then (if 0 ≤ x10 then (if x10 < (x8.length : Int) then (if x10 ≥ (x305001.length : Int) then (some false) else (if x10 < (x305001.length : Int) then (if (!(((rd_T110 x8 x10).f0) == ((rd_T110 x305001 x10).f0)) || (!(((rd_T110 x8 x10).f1) == ((rd_T110 x305001 x10).f1)))) = true then ((spec_paLess.f ((rd_T110 x8 x10).f0) ((rd_T110 x8 x10).f1) ((rd_T110 x305001 x10).f0) ((rd_T110 x305001 x10).f1)).bind fun t309 => (some t309)) else (spec_paBefore.l0 k x8 x9 (wrap64 (x10 + 1)) x304000 x304001 x305000 x305001)) else (none))) else (none)) else (none)) else (some (decide ((x304001.length : Int) < (x305001.length : Int))))
def spec_paBefore.f (k : Nat) (a0_0 : Int) (l0_1 : List (S110)) (a1_0 : Int) (l1_1 : List (S110)) : Option (Bool) := spec_paBefore.l0 k l0_1 (l0_1.length : Int) 0 a0_0 l0_1 a1_0 l1_1
theorem spec_paBefore.mono_l : ∀ k, (∀ y0 y1 y2 y3 y4 y5 y6, LeO (spec_paBefore.l0 k y0 y1 y2 y3 y4 y5 y6) (spec_paBefore.l0 (k + 1) y0 y1 y2 y3 y4 y5 y6))
 | 0 => fun _ _ _ _ _ _ _ r h => by simp [spec_paBefore.l0] at h
 | k + 1 => by
  have ih0 := spec_paBefore.mono_l k
  ·intro y0 y1 y2 y3 y4 y5 y6
   unfold spec_paBefore.l0
   repeat' first
   | (with_reducible exact ih0 _ _ _ _ _ _ _)
   | (with_reducible exact LeO.refl _)
   | (with_reducible exact LeO.none _)
   | (with_reducible refine LeO.ite ?_ ?_)
   | (with_reducible refine LeO.bind ?_ (fun _ => ?_))
   | exact ih0 _ _ _ _ _ _ _
   | exact LeO.none _
   | refine LeO.ite ?_ ?_
   | refine LeO.bind ?_ (fun _ => ?_)
theorem spec_paBefore.mono : ∀ a0 a1 a2 a3 k, LeO (spec_paBefore.f k a0 a1 a2 a3) (spec_paBefore.f (k + 1) a0 a1 a2 a3) := by
 intro a0 a1 a2 a3 k
 have ih0 := spec_paBefore.mono_l k
 unfold spec_paBefore.f
 repeat' first
   | (with_reducible exact ih0 _ _ _ _ _ _ _)
   | (with_reducible exact LeO.refl _)
   | (with_reducible exact LeO.none _)
   | (with_reducible refine LeO.ite ?_ ?_)
   | (with_reducible refine LeO.bind ?_ (fun _ => ?_))
   | exact ih0 _ _ _ _ _ _ _
   | exact LeO.none _
   | refine LeO.ite ?_ ?_
   | refine LeO.bind ?_ (fun _ => ?_)
def spec_paBefore.T7 : Bool × List (List Nat × List Nat) := (true, [([], []), ([], []), ([1], [1]), ([], []), ([2, 3], [2, 3]), ([4], [4]), ([0, 5], [0, 5]), ([6, 6, 0, 1, 2, 3, 4, 5, 6], [6])])
def spec_paBefore.B7 : List Nat := [0, 0, 2, 0, 14, 30, 63, 127]
theorem spec_paBefore.tab7 : rtab .any (opsOf Tryd.f130 7) = spec_paBefore.T7 := by kernel_rfl
theorem spec_paBefore.bits7 : waitsOk spec_paBefore.T7.2 spec_paBefore.B7 = true := by kernel_rfl
set_option maxHeartbeats 8000000 in
set_option maxRecDepth 100000 in
theorem spec_paBefore.calls (k : Nat) (a0_0 : Int) (A0_1 : Option Addr) (c0_1 : Nat) (l0_1 : List (S110)) (a1_0 : Int) (A1_1 : Option Addr) (c1_1 : Nat) (l1_1 : List (S110)) (r : Bool) (w : World) (hr0_1 : Kd.C k110 w A0_1 l0_1.length l0_1) (hc0_1 : l0_1.length ≤ c0_1) (hr1_1 : Kd.C k110 w A1_1 l1_1.length l1_1) (hc1_1 : l1_1.length ≤ c1_1) (h : spec_paBefore.f k a0_0 l0_1 a1_0 l1_1 = some r) :
  Calls Tryd.prog 130 #[.agg #[.int .i64 a0_0, .slice A0_1 l0_1.length c0_1], .agg #[.int .i64 a1_0, .slice A1_1 l1_1.length c1_1]] w fun e w' => e = .returned (.bool r) ∧ Below w.heap.size w w' := by
 have hu34 := Tryd.underlying34
 have hu110 := Tryd.underlying110
 have HR0_1 := Aside0.mk hr0_1
 have HC0_1 := Aside0.mk hc0_1
 clear hr0_1 hc0_1
 have HR1_1 := Aside0.mk hr1_1
 have HC1_1 := Aside0.mk hc1_1
 clear hr1_1 hc1_1
 have HB := Aside0.mk (Below.refl w.heap.size w)
 have H : (spec_paBefore.l0 k l0_1 (l0_1.length : Int) 0 a0_0 l0_1 a1_0 l1_1) = some r := h
 clear h
 have H' := Aside0.mk H
 clear H
 go_enter Tryd.func130, Tryd.ntmps130
 go_wp2_with (first | ((with_reducible refine gate_dst (N := 2) rfl ?_); refine bxE 2 #[.int .i64 a0_0, .slice A0_1 l0_1.length c0_1] 34 rfl ?_; intro gb303 hg w3 hbox hb; have BK303 := Aside0.mk (hbox); have GW303 := gS HB hg; have GE303 := gS HB hg; replace HB := hS HB hb; clear hb hbox hg) | ((with_reducible refine gate_dst (N := 3) rfl ?_); refine bxE 3 #[.int .i64 a1_0, .slice A1_1 l1_1.length c1_1] 34 rfl ?_; intro gb304 hg w4 hbox hb; have BK304 := Aside0.mk (hbox); have GW304 := gS HB hg; have GE304 := gS HB hg; have NB303_304 := nL BK303 hg; have NB304_303 := nG BK303 hg; replace BK303 := bS BK303 hb; replace HB := hS HB hb; clear hb hbox hg; have hnb5 := NB303_304.out; have hnc5 := NB304_303.out; have hcz6_0 := cz BK303 0; have hcz6_1 := cz BK303 1; have hfz6_0 := fz BK303 0; have hfz6_1 := fz BK303 1))
 go_loopg [10] k (fun kq v10 w' => ∃ (x10_1 : Int), v10 = .int .i64 x10_1 ∧ Aside0 (spec_paBefore.l0 kq l0_1 (l0_1.length : Int) x10_1 a0_0 l0_1 a1_0 l1_1 = some r) ∧ Aside0 (kq ≤ k) ∧ Aside0 (w'.heap[gb303]? = some (.cells #[.int .i64 a0_0, (.slice A0_1 l0_1.length c0_1)] 34 (0, 0))) ∧ Aside0 (w'.heap[gb304]? = some (.cells #[.int .i64 a1_0, (.slice A1_1 l1_1.length c1_1)] 34 (0, 0))) ∧ Aside0 (Below w.heap.size w w'))
 case atStart => exact ⟨(0), (by first | rfl | (simp; done) | (simp [*]; done)), H', ⟨Nat.le_refl _⟩, ⟨bK⟩, ⟨bK⟩, ⟨hB⟩⟩
 case round =>
  clear H'
  try clear c1
  try clear p2
  try clear c5
  try clear hcz6_0
  try clear hcz6_1
  try clear hfz6_0
  try clear hfz6_1
  obtain ⟨x10_1, rfl, HA, HK1, BK303, BK304, HB⟩ := hrel
  cases gk with
  | zero => exact absurd HA.out (by simp [spec_paBefore.l0])
  | succ k1 =>
   have H := HA.out
   clear HA
   simp only [spec_paBefore.l0] at H
   by_cases c7 : x10_1 < (l0_1.length : Int)
   ·rw [if_pos c7] at H
    have c7b0 : decide (x10_1 < (l0_1.length : Int)) = true := decide_eq_true c7
    clear c7
    by_cases c8 : 0 ≤ x10_1
    ·rw [if_pos c8] at H
     have c8b0 : decide (0 ≤ x10_1) = true := decide_eq_true c8
     clear c8
     by_cases c9 : x10_1 < (l0_1.length : Int)
     ·rw [if_pos c9] at H
      have c9b0 : decide (x10_1 < (l0_1.length : Int)) = true := decide_eq_true c9
      clear c9
      by_cases c10 : x10_1 ≥ (l1_1.length : Int)
      ·rw [if_pos c10] at H
       have c10b0 : decide ((l1_1.length : Int) ≤ x10_1) = true := decide_eq_true c10
       clear c10
       obtain rfl := Option.some.inj H
       have p305 : 0 ≤ (x10_1 : Int) := of_decide_eq_true (by first | (with_reducible assumption) | assumption)
       have q305 : x10_1 < (l0_1.length : Int) := of_decide_eq_true (by first | (with_reducible assumption) | assumption)
       obtain ⟨ad305, e305, hx305_0, hx305_1⟩ := at_T110 HR0_1.out x10_1 p305 q305
       cases e305
       replace hx305_0 := (HB.out.cell (World.block_lt_of_cell? w _ hx305_0)).trans hx305_0
       replace hx305_1 := (HB.out.cell (World.block_lt_of_cell? w _ hx305_1)).trans hx305_1
       replace p305 := eq_true p305
       replace q305 := eq_true q305
       go_wp2_with (first | ((with_reducible refine gate_dst (N := 6) rfl ?_); refine bxE 6 #[.int .i64 0, .int .i64 0] 110 rfl ?_; intro gb306 hg w11 hbox hb; have BK306 := Aside0.mk (hbox); have GW306 := gS HB hg; have GE306 := gS HB hg; have NB303_306 := nL BK303 hg; have NB306_303 := nG BK303 hg; have NB304_306 := nL BK304 hg; have NB306_304 := nG BK304 hg; replace BK303 := bS BK303 hb; replace BK304 := bS BK304 hb; replace HB := hS HB hb; clear hb hbox hg; have hnb12 := NB306_303.out; have hnc12 := NB303_306.out; have hnb13 := NB306_304.out; have hnc13 := NB304_306.out; have hcz14_0 := cz BK306 0; have hcz14_1 := cz BK306 1; have hfz14_0 := fz BK306 0; have hfz14_1 := fz BK306 1; have hnb15 := NB304_303.out; have hnc15 := NB303_304.out; have hcz16_0 := cz BK304 0; have hcz16_1 := cz BK304 1; have hfz16_0 := fz BK304 0; have hfz16_1 := fz BK304 1))
       go_ret
       exact ⟨by first | rfl | (simp [errW_none, errW_some] <;> rfl) | (simp [*, errW_none, errW_some] <;> rfl), hB⟩
      ·rw [if_neg c10] at H
       have c10b0 : decide ((l1_1.length : Int) ≤ x10_1) = false := decide_eq_false c10
       clear c10
       by_cases c17 : x10_1 < (l1_1.length : Int)
       ·rw [if_pos c17] at H
        have c17b0 : decide (x10_1 < (l1_1.length : Int)) = true := decide_eq_true c17
        clear c17
        by_cases c18 : (!(((rd_T110 l0_1 x10_1).f0) == ((rd_T110 l1_1 x10_1).f0)) || (!(((rd_T110 l0_1 x10_1).f1) == ((rd_T110 l1_1 x10_1).f1)))) = true
        ·rw [if_pos c18] at H
         have c18b0 : (!(((rd_T110 l0_1 x10_1).f0) == ((rd_T110 l1_1 x10_1).f0)) || (!(((rd_T110 l0_1 x10_1).f1) == ((rd_T110 l1_1 x10_1).f1)))) = true := c18
         clear c18
         replace H := Option.bind_eq_some_iff.mp H
         obtain ⟨t309, A190, H⟩ := H
         replace H : (some t309) = some r := H
         have A19 := Aside0.mk A190
         clear A190
         obtain rfl := Option.some.inj H
         have p305 : 0 ≤ (x10_1 : Int) := of_decide_eq_true (by first | (with_reducible assumption) | assumption)
         have q305 : x10_1 < (l0_1.length : Int) := of_decide_eq_true (by first | (with_reducible assumption) | assumption)
         obtain ⟨ad305, e305, hx305_0, hx305_1⟩ := at_T110 HR0_1.out x10_1 p305 q305
         cases e305
         replace hx305_0 := (HB.out.cell (World.block_lt_of_cell? w _ hx305_0)).trans hx305_0
         replace hx305_1 := (HB.out.cell (World.block_lt_of_cell? w _ hx305_1)).trans hx305_1
         replace p305 := eq_true p305
         replace q305 := eq_true q305
         try go_wp2_with (first | ((with_reducible refine gate_dst (N := 6) rfl ?_); refine bxE 6 #[.int .i64 0, .int .i64 0] 110 rfl ?_; intro gb306 hg w20 hbox hb; have BK306 := Aside0.mk (hbox); have GW306 := gS HB hg; have GE306 := gS HB hg; have NB303_306 := nL BK303 hg; have NB306_303 := nG BK303 hg; have NB304_306 := nL BK304 hg; have NB306_304 := nG BK304 hg; replace BK303 := bS BK303 hb; replace BK304 := bS BK304 hb; replace HB := hS HB hb; clear hb hbox hg; have hnb21 := NB306_303.out; have hnc21 := NB303_306.out; have hnb22 := NB306_304.out; have hnc22 := NB304_306.out; have hcz23_0 := cz BK306 0; have hcz23_1 := cz BK306 1; have hfz23_0 := fz BK306 0; have hfz23_1 := fz BK306 1; have hnb24 := NB304_303.out; have hnc24 := NB303_304.out; have hcz25_0 := cz BK304 0; have hcz25_1 := cz BK304 1; have hfz25_0 := fz BK304 0; have hfz25_1 := fz BK304 1))
         have n0_ : Aside0 (((w20.setCell ⟨gb306, 0, none⟩ (.int .i64 ((rd_T110 l0_1 x10_1).f0))).setCell ⟨gb306, 1, none⟩ (.int .i64 ((rd_T110 l0_1 x10_1).f1))).heap[gb303]? = some (.cells #[.int .i64 a0_0, .slice (some ad305) l0_1.length c0_1] 34 (0, 0))) := ⟨by (with_reducible repeat (first | refine blk_drewN ?_ _ | refine blk_drew ?_ | refine blk_alloc ?_ _)); refine blk_far ?_ NB303_306.out _; (with_reducible repeat (first | refine blk_drewN ?_ _ | refine blk_drew ?_ | refine blk_alloc ?_ _)); refine blk_far ?_ NB303_306.out _; (with_reducible repeat (first | refine blk_drewN ?_ _ | refine blk_drew ?_ | refine blk_alloc ?_ _)); exact BK303.out⟩
         have n1_ : Aside0 (((w20.setCell ⟨gb306, 0, none⟩ (.int .i64 ((rd_T110 l0_1 x10_1).f0))).setCell ⟨gb306, 1, none⟩ (.int .i64 ((rd_T110 l0_1 x10_1).f1))).heap[gb304]? = some (.cells #[.int .i64 a1_0, .slice A1_1 l1_1.length c1_1] 34 (0, 0))) := ⟨by (with_reducible repeat (first | refine blk_drewN ?_ _ | refine blk_drew ?_ | refine blk_alloc ?_ _)); refine blk_far ?_ NB304_306.out _; (with_reducible repeat (first | refine blk_drewN ?_ _ | refine blk_drew ?_ | refine blk_alloc ?_ _)); refine blk_far ?_ NB304_306.out _; (with_reducible repeat (first | refine blk_drewN ?_ _ | refine blk_drew ?_ | refine blk_alloc ?_ _)); exact BK304.out⟩
         have n2_ : Aside0 (((w20.setCell ⟨gb306, 0, none⟩ (.int .i64 ((rd_T110 l0_1 x10_1).f0))).setCell ⟨gb306, 1, none⟩ (.int .i64 ((rd_T110 l0_1 x10_1).f1))).heap[gb306]? = some (.cells #[.int .i64 ((rd_T110 l0_1 x10_1).f0), .int .i64 ((rd_T110 l0_1 x10_1).f1)] 110 (0, 0))) := ⟨by (with_reducible repeat (first | refine blk_drewN ?_ _ | refine blk_drew ?_ | refine blk_alloc ?_ _)); refine blk_put (cs := #[.int .i64 ((rd_T110 l0_1 x10_1).f0), .int .i64 0]) ?_ 1 _ rfl; (with_reducible repeat (first | refine blk_drewN ?_ _ | refine blk_drew ?_ | refine blk_alloc ?_ _)); refine blk_put (cs := #[.int .i64 0, .int .i64 0]) ?_ 0 _ rfl; (with_reducible repeat (first | refine blk_drewN ?_ _ | refine blk_drew ?_ | refine blk_alloc ?_ _)); exact BK306.out⟩
         have n3_ : Aside0 (Below w.heap.size w ((w20.setCell ⟨gb306, 0, none⟩ (.int .i64 ((rd_T110 l0_1 x10_1).f0))).setCell ⟨gb306, 1, none⟩ (.int .i64 ((rd_T110 l0_1 x10_1).f1)))) := ⟨hB⟩
         (try clear BK303)
         (try clear BK304)
         (try clear BK306)
         (try clear HB)
         generalize ((w20.setCell ⟨gb306, 0, none⟩ (.int .i64 ((rd_T110 l0_1 x10_1).f0))).setCell ⟨gb306, 1, none⟩ (.int .i64 ((rd_T110 l0_1 x10_1).f1))) = w26 at n0_ n1_ n2_ n3_ ⊢
         have BK303 := n0_
         have BK304 := n1_
         have BK306 := n2_
         have HB := n3_
         clear n0_ n1_ n2_ n3_
         replace BK303 := Aside0.mk (blk_drew BK303.out)
         replace BK304 := Aside0.mk (blk_drew BK304.out)
         replace BK306 := Aside0.mk (blk_drew BK306.out)
         replace HB := Aside0.mk (below_drew1 HB.out)
         have p307 : 0 ≤ (x10_1 : Int) := of_decide_eq_true (by first | (with_reducible assumption) | assumption)
         have q307 : x10_1 < (l1_1.length : Int) := of_decide_eq_true (by first | (with_reducible assumption) | assumption)
         obtain ⟨ad307, e307, hx307_0, hx307_1⟩ := at_T110 HR1_1.out x10_1 p307 q307
         have hw307_1 := hx307_1
         have hw307_0 := hx307_0
         cases e307
         replace hx307_0 := (HB.out.cell (World.block_lt_of_cell? w _ hx307_0)).trans hx307_0
         replace hx307_1 := (HB.out.cell (World.block_lt_of_cell? w _ hx307_1)).trans hx307_1
         replace p307 := eq_true p307
         replace q307 := eq_true q307
         refine start_ (n := 7) (S := fun w' => w'.cell? ⟨gb306, 0, none⟩ = some (.int .i64 ((rd_T110 l0_1 x10_1).f0)) ∧ w'.cell? ⟨gb306, 1, none⟩ = some (.int .i64 ((rd_T110 l0_1 x10_1).f1)) ∧ w'.cell? ⟨gb304, 0, none⟩ = some (.int .i64 a1_0) ∧ w'.cell? ⟨gb304, 1, none⟩ = some (.slice (some ad307) l1_1.length c1_1) ∧ w'.cell? (ad307.add ((x10_1).toNat * 2)) = some (.int .i64 ((rd_T110 l1_1 x10_1).f0)) ∧ w'.cell? ⟨(ad307.add ((x10_1).toNat * 2)).block, (ad307.add ((x10_1).toNat * 2)).off + 1, none⟩ = some (.int .i64 ((rd_T110 l1_1 x10_1).f1))) (ds := []) (bz 7 0) (by kernel_rfl) rfl rfl ⟨(blk_cell BK306.out 0).trans rfl, (blk_cell BK306.out 1).trans rfl, (blk_cell BK304.out 0).trans rfl, (blk_cell BK304.out 1).trans rfl, ((HB.out.cell (World.block_lt_of_cell? w _ hw307_0)).trans hw307_0), ((HB.out.cell (World.block_lt_of_cell? w _ hw307_1)).trans hw307_1)⟩ (fun hHeld => ?_)
         generalize w26.drew = w27 at BK303 BK304 BK306 HB hx307_0 hx307_1 hHeld ⊢
         refine run_ [(0, 1, 2, some 21), (0, 3, 10, some 23), (1, 0, 11, some 20), (1, 2, 15, some 22), (0, 4, 31, some 24), (1, 5, 63, some 25), (0, 6, 127, some 26)] ?_
         repeat (first | (apply tag0; refine run_p (v := ?_) (a' := ?_) rfl rfl (by kernel_rfl) (fun _ _ _ h => h) (by rfl) ?_ ?_ ?_; rotate_left 2; (intro w'; go_simp; with_reducible rfl); (first | (simp only [Act.put, List.setIfInBounds_toArray, List.set_cons_zero, List.set_cons_succ, i64_w, i32_w]; rfl) | rfl)) | (apply tag1; refine run_t (v := ?_) (a' := ?_) rfl rfl (by kernel_rfl) (fun _ _ _ h => h) (by rfl) ?_ hHeld ?_ ?_; rotate_left 2; (rintro w' ⟨s0, s1, s2, s3, s4, s5⟩; go_simp; with_reducible rfl); (first | (simp only [Act.put, List.setIfInBounds_toArray, List.set_cons_zero, List.set_cons_succ, i64_w, i32_w]; rfl) | rfl)))
         refine run_nil ?_
         refine done_ (by kernel_rfl) ?_
         try go_wp2
         replace BK303 := Aside0.mk (blk_drew BK303.out)
         replace BK304 := Aside0.mk (blk_drew BK304.out)
         replace BK306 := Aside0.mk (blk_drew BK306.out)
         replace HB := Aside0.mk (below_drew1 HB.out)
         have p308 : 0 ≤ (x10_1 : Int) := of_decide_eq_true (by first | (with_reducible assumption) | assumption)
         have q308 : x10_1 < (l1_1.length : Int) := of_decide_eq_true (by first | (with_reducible assumption) | assumption)
         obtain ⟨ad308, e308, hx308_0, hx308_1⟩ := at_T110 HR1_1.out x10_1 p308 q308
         have hw308_1 := hx308_1
         have hw308_0 := hx308_0
         obtain rfl : ad307 = ad308 := (by injection e308)
         replace hx308_0 := (HB.out.cell (World.block_lt_of_cell? w _ hx308_0)).trans hx308_0
         replace hx308_1 := (HB.out.cell (World.block_lt_of_cell? w _ hx308_1)).trans hx308_1
         replace p308 := eq_true p308
         replace q308 := eq_true q308
         refine start_ (n := 8) (S := fun w' => w'.cell? ⟨gb306, 0, none⟩ = some (.int .i64 ((rd_T110 l0_1 x10_1).f0)) ∧ w'.cell? ⟨gb306, 1, none⟩ = some (.int .i64 ((rd_T110 l0_1 x10_1).f1)) ∧ w'.cell? ⟨gb304, 0, none⟩ = some (.int .i64 a1_0) ∧ w'.cell? ⟨gb304, 1, none⟩ = some (.slice (some ad307) l1_1.length c1_1) ∧ w'.cell? (ad307.add ((x10_1).toNat * 2)) = some (.int .i64 ((rd_T110 l1_1 x10_1).f0)) ∧ w'.cell? ⟨(ad307.add ((x10_1).toNat * 2)).block, (ad307.add ((x10_1).toNat * 2)).off + 1, none⟩ = some (.int .i64 ((rd_T110 l1_1 x10_1).f1))) (ds := []) (bz 8 0) (by kernel_rfl) rfl rfl ⟨(blk_cell BK306.out 0).trans rfl, (blk_cell BK306.out 1).trans rfl, (blk_cell BK304.out 0).trans rfl, (blk_cell BK304.out 1).trans rfl, ((HB.out.cell (World.block_lt_of_cell? w _ hw308_0)).trans hw308_0), ((HB.out.cell (World.block_lt_of_cell? w _ hw308_1)).trans hw308_1)⟩ (fun hHeld => ?_); refine with_tabW spec_paBefore.tab7 spec_paBefore.bits7 (fun HT_ HW_ => ?_)
         generalize w27.drew = w28 at BK303 BK304 BK306 HB hx308_0 hx308_1 hHeld ⊢
         refine run_ [(0, 1, 2, some 28), (0, 3, 10, some 30), (1, 0, 11, some 27), (1, 2, 15, some 29), (0, 4, 31, some 31), (1, 5, 63, some 32)] ?_
         repeat (first | (apply tag0; refine run_p (v := ?_) (a' := ?_) rfl rfl (any_of HT_.out (by kernel_rfl)) (fun _ _ _ h => h) (by rfl) ?_ ?_ ?_; rotate_left 2; (intro w'; go_simp; with_reducible rfl); (first | (simp only [Act.put, List.setIfInBounds_toArray, List.set_cons_zero, List.set_cons_succ, i64_w, i32_w]; rfl) | rfl)) | (apply tag1; refine run_t (v := ?_) (a' := ?_) rfl rfl (take_ofW HT_.out HW_.out (by kernel_rfl)) (fun _ _ _ h => h) (by rfl) ?_ hHeld ?_ ?_; rotate_left 2; (rintro w' ⟨s0, s1, s2, s3, s4, s5⟩; go_simp; with_reducible rfl); (first | (simp only [Act.put, List.setIfInBounds_toArray, List.set_cons_zero, List.set_cons_succ, i64_w, i32_w]; rfl) | rfl)))
         refine run_nil ?_
         refine one_ (i := 6) (N := some 33) (bz 8 127) rfl rfl (one_of HT_.out (by kernel_rfl)) (by decide) (fun K hK => ?_)
         refine goes_ Tryd.func97 (by kernel_rfl) rfl #[.agg #[.int .i64 ((rd_T110 l0_1 x10_1).f0), .int .i64 ((rd_T110 l0_1 x10_1).f1)], .agg #[.int .i64 ((rd_T110 l1_1 x10_1).f0), .int .i64 ((rd_T110 l1_1 x10_1).f1)]] (by rfl) rfl rfl mapT ?_
         with_reducible refine (spec_paLess.calls ((rd_T110 l0_1 x10_1).f0) ((rd_T110 l0_1 x10_1).f1) ((rd_T110 l1_1 x10_1).f0) ((rd_T110 l1_1 x10_1).f1) t309 _ A19.out).mono ?_
         rintro e w29 ⟨rfl, hb⟩
         refine ⟨_, rfl, ?_⟩
         replace BK303 := bS BK303 hb
         replace BK304 := bS BK304 hb
         replace BK306 := bS BK306 hb
         replace HB := hS HB hb
         (try clear hb)
         (try clear hb2)
         (try clear hk)
         (try clear hi)
         refine hK.out _ _ ⟨(blk_cell BK306.out 0).trans rfl, (blk_cell BK306.out 1).trans rfl, (blk_cell BK304.out 0).trans rfl, (blk_cell BK304.out 1).trans rfl, ((HB.out.cell (World.block_lt_of_cell? w _ hw308_0)).trans hw308_0), ((HB.out.cell (World.block_lt_of_cell? w _ hw308_1)).trans hw308_1)⟩ (fun hHeld => ?_)
         clear hK K
         refine norm_ (a' := ?_) ?_ ?_
         rotate_left
         ·show Act.put _ (some 33) _ = _
          simp only [Act.put, List.setIfInBounds_toArray, List.set_cons_zero, List.set_cons_succ, i64_w, i32_w]
          rfl
         refine run_ [(0, 7, 255, some 4)] ?_
         repeat ((apply tag0; refine run_p (v := ?_) (a' := ?_) rfl rfl (any_of HT_.out (by kernel_rfl)) (fun _ _ _ h => h) (by rfl) ?_ ?_ ?_; rotate_left 2; (intro w'; go_simp; with_reducible rfl); (first | (simp only [Act.put, List.setIfInBounds_toArray, List.set_cons_zero, List.set_cons_succ, i64_w, i32_w]; rfl) | rfl)))
         refine run_nil ?_
         refine done_ (done_of HT_.out (by kernel_rfl)) ?_
         try go_wp2
         go_ret
         exact ⟨by first | rfl | (simp [errW_none, errW_some] <;> rfl) | (simp [*, errW_none, errW_some] <;> rfl), hB⟩
        ·rw [if_neg c18] at H
         have c18b0 : (!(((rd_T110 l0_1 x10_1).f0) == ((rd_T110 l1_1 x10_1).f0)) || (!(((rd_T110 l0_1 x10_1).f1) == ((rd_T110 l1_1 x10_1).f1)))) = false := by simpa using c18
         clear c18
         have H' := Aside0.mk H
         clear H
         have p305 : 0 ≤ (x10_1 : Int) := of_decide_eq_true (by first | (with_reducible assumption) | assumption)
         have q305 : x10_1 < (l0_1.length : Int) := of_decide_eq_true (by first | (with_reducible assumption) | assumption)
         obtain ⟨ad305, e305, hx305_0, hx305_1⟩ := at_T110 HR0_1.out x10_1 p305 q305
         cases e305
         replace hx305_0 := (HB.out.cell (World.block_lt_of_cell? w _ hx305_0)).trans hx305_0
         replace hx305_1 := (HB.out.cell (World.block_lt_of_cell? w _ hx305_1)).trans hx305_1
         replace p305 := eq_true p305
         replace q305 := eq_true q305
         try go_wp2_with (first | ((with_reducible refine gate_dst (N := 6) rfl ?_); refine bxE 6 #[.int .i64 0, .int .i64 0] 110 rfl ?_; intro gb306 hg w30 hbox hb; have BK306 := Aside0.mk (hbox); have GW306 := gS HB hg; have GE306 := gS HB hg; have NB303_306 := nL BK303 hg; have NB306_303 := nG BK303 hg; have NB304_306 := nL BK304 hg; have NB306_304 := nG BK304 hg; replace BK303 := bS BK303 hb; replace BK304 := bS BK304 hb; replace HB := hS HB hb; clear hb hbox hg; have hnb31 := NB306_303.out; have hnc31 := NB303_306.out; have hnb32 := NB306_304.out; have hnc32 := NB304_306.out; have hcz33_0 := cz BK306 0; have hcz33_1 := cz BK306 1; have hfz33_0 := fz BK306 0; have hfz33_1 := fz BK306 1; have hnb34 := NB304_303.out; have hnc34 := NB303_304.out; have hcz35_0 := cz BK304 0; have hcz35_1 := cz BK304 1; have hfz35_0 := fz BK304 0; have hfz35_1 := fz BK304 1))
         have n0_ : Aside0 (((w30.setCell ⟨gb306, 0, none⟩ (.int .i64 ((rd_T110 l0_1 x10_1).f0))).setCell ⟨gb306, 1, none⟩ (.int .i64 ((rd_T110 l0_1 x10_1).f1))).heap[gb303]? = some (.cells #[.int .i64 a0_0, .slice (some ad305) l0_1.length c0_1] 34 (0, 0))) := ⟨by (with_reducible repeat (first | refine blk_drewN ?_ _ | refine blk_drew ?_ | refine blk_alloc ?_ _)); refine blk_far ?_ NB303_306.out _; (with_reducible repeat (first | refine blk_drewN ?_ _ | refine blk_drew ?_ | refine blk_alloc ?_ _)); refine blk_far ?_ NB303_306.out _; (with_reducible repeat (first | refine blk_drewN ?_ _ | refine blk_drew ?_ | refine blk_alloc ?_ _)); exact BK303.out⟩
         have n1_ : Aside0 (((w30.setCell ⟨gb306, 0, none⟩ (.int .i64 ((rd_T110 l0_1 x10_1).f0))).setCell ⟨gb306, 1, none⟩ (.int .i64 ((rd_T110 l0_1 x10_1).f1))).heap[gb304]? = some (.cells #[.int .i64 a1_0, .slice A1_1 l1_1.length c1_1] 34 (0, 0))) := ⟨by (with_reducible repeat (first | refine blk_drewN ?_ _ | refine blk_drew ?_ | refine blk_alloc ?_ _)); refine blk_far ?_ NB304_306.out _; (with_reducible repeat (first | refine blk_drewN ?_ _ | refine blk_drew ?_ | refine blk_alloc ?_ _)); refine blk_far ?_ NB304_306.out _; (with_reducible repeat (first | refine blk_drewN ?_ _ | refine blk_drew ?_ | refine blk_alloc ?_ _)); exact BK304.out⟩
         have n2_ : Aside0 (((w30.setCell ⟨gb306, 0, none⟩ (.int .i64 ((rd_T110 l0_1 x10_1).f0))).setCell ⟨gb306, 1, none⟩ (.int .i64 ((rd_T110 l0_1 x10_1).f1))).heap[gb306]? = some (.cells #[.int .i64 ((rd_T110 l0_1 x10_1).f0), .int .i64 ((rd_T110 l0_1 x10_1).f1)] 110 (0, 0))) := ⟨by (with_reducible repeat (first | refine blk_drewN ?_ _ | refine blk_drew ?_ | refine blk_alloc ?_ _)); refine blk_put (cs := #[.int .i64 ((rd_T110 l0_1 x10_1).f0), .int .i64 0]) ?_ 1 _ rfl; (with_reducible repeat (first | refine blk_drewN ?_ _ | refine blk_drew ?_ | refine blk_alloc ?_ _)); refine blk_put (cs := #[.int .i64 0, .int .i64 0]) ?_ 0 _ rfl; (with_reducible repeat (first | refine blk_drewN ?_ _ | refine blk_drew ?_ | refine blk_alloc ?_ _)); exact BK306.out⟩
         have n3_ : Aside0 (Below w.heap.size w ((w30.setCell ⟨gb306, 0, none⟩ (.int .i64 ((rd_T110 l0_1 x10_1).f0))).setCell ⟨gb306, 1, none⟩ (.int .i64 ((rd_T110 l0_1 x10_1).f1)))) := ⟨hB⟩
         (try clear BK303)
         (try clear BK304)
         (try clear BK306)
         (try clear HB)
         generalize ((w30.setCell ⟨gb306, 0, none⟩ (.int .i64 ((rd_T110 l0_1 x10_1).f0))).setCell ⟨gb306, 1, none⟩ (.int .i64 ((rd_T110 l0_1 x10_1).f1))) = w36 at n0_ n1_ n2_ n3_ ⊢
         have BK303 := n0_
         have BK304 := n1_
         have BK306 := n2_
         have HB := n3_
         clear n0_ n1_ n2_ n3_
         replace BK303 := Aside0.mk (blk_drew BK303.out)
         replace BK304 := Aside0.mk (blk_drew BK304.out)
         replace BK306 := Aside0.mk (blk_drew BK306.out)
         replace HB := Aside0.mk (below_drew1 HB.out)
         have p307 : 0 ≤ (x10_1 : Int) := of_decide_eq_true (by first | (with_reducible assumption) | assumption)
         have q307 : x10_1 < (l1_1.length : Int) := of_decide_eq_true (by first | (with_reducible assumption) | assumption)
         obtain ⟨ad307, e307, hx307_0, hx307_1⟩ := at_T110 HR1_1.out x10_1 p307 q307
         have hw307_1 := hx307_1
         have hw307_0 := hx307_0
         cases e307
         replace hx307_0 := (HB.out.cell (World.block_lt_of_cell? w _ hx307_0)).trans hx307_0
         replace hx307_1 := (HB.out.cell (World.block_lt_of_cell? w _ hx307_1)).trans hx307_1
         replace p307 := eq_true p307
         replace q307 := eq_true q307
         refine start_ (n := 7) (S := fun w' => w'.cell? ⟨gb306, 0, none⟩ = some (.int .i64 ((rd_T110 l0_1 x10_1).f0)) ∧ w'.cell? ⟨gb306, 1, none⟩ = some (.int .i64 ((rd_T110 l0_1 x10_1).f1)) ∧ w'.cell? ⟨gb304, 0, none⟩ = some (.int .i64 a1_0) ∧ w'.cell? ⟨gb304, 1, none⟩ = some (.slice (some ad307) l1_1.length c1_1) ∧ w'.cell? (ad307.add ((x10_1).toNat * 2)) = some (.int .i64 ((rd_T110 l1_1 x10_1).f0)) ∧ w'.cell? ⟨(ad307.add ((x10_1).toNat * 2)).block, (ad307.add ((x10_1).toNat * 2)).off + 1, none⟩ = some (.int .i64 ((rd_T110 l1_1 x10_1).f1))) (ds := []) (bz 7 0) (by kernel_rfl) rfl rfl ⟨(blk_cell BK306.out 0).trans rfl, (blk_cell BK306.out 1).trans rfl, (blk_cell BK304.out 0).trans rfl, (blk_cell BK304.out 1).trans rfl, ((HB.out.cell (World.block_lt_of_cell? w _ hw307_0)).trans hw307_0), ((HB.out.cell (World.block_lt_of_cell? w _ hw307_1)).trans hw307_1)⟩ (fun hHeld => ?_)
         generalize w36.drew = w37 at BK303 BK304 BK306 HB hx307_0 hx307_1 hHeld ⊢
         refine run_ [(0, 1, 2, some 21), (0, 3, 10, some 23), (1, 0, 11, some 20), (1, 2, 15, some 22), (0, 4, 31, some 24), (1, 5, 63, some 25), (0, 6, 127, some 26)] ?_
         repeat (first | (apply tag0; refine run_p (v := ?_) (a' := ?_) rfl rfl (by kernel_rfl) (fun _ _ _ h => h) (by rfl) ?_ ?_ ?_; rotate_left 2; (intro w'; go_simp; with_reducible rfl); (first | (simp only [Act.put, List.setIfInBounds_toArray, List.set_cons_zero, List.set_cons_succ, i64_w, i32_w]; rfl) | rfl)) | (apply tag1; refine run_t (v := ?_) (a' := ?_) rfl rfl (by kernel_rfl) (fun _ _ _ h => h) (by rfl) ?_ hHeld ?_ ?_; rotate_left 2; (rintro w' ⟨s0, s1, s2, s3, s4, s5⟩; go_simp; with_reducible rfl); (first | (simp only [Act.put, List.setIfInBounds_toArray, List.set_cons_zero, List.set_cons_succ, i64_w, i32_w]; rfl) | rfl)))
         refine run_nil ?_
         refine done_ (by kernel_rfl) ?_
         try go_wp2
         go_roundg k1
         case measure => have := HK1.out; omega
         case rel => exact ⟨(wrap64 (x10_1 + 1)), (by first | rfl | (simp; done) | (simp [*]; done)), H', ⟨by have := HK1.out; omega⟩, ⟨bK⟩, ⟨bK⟩, ⟨hB⟩⟩
       ·rw [if_neg c17] at H
        exact absurd H (by simp)
     ·rw [if_neg c9] at H
      exact absurd H (by simp)
    ·rw [if_neg c8] at H
     exact absurd H (by simp)
   ·rw [if_neg c7] at H
    have c7b0 : decide (x10_1 < (l0_1.length : Int)) = false := decide_eq_false c7
    clear c7
    obtain rfl := Option.some.inj H
    have hnb38 := NB303_304.out
    have hnc38 := NB304_303.out
    have hcz39_0 := cz BK303 0
    have hcz39_1 := cz BK303 1
    have hfz39_0 := fz BK303 0
    have hfz39_1 := fz BK303 1
    have hcz40_0 := cz BK304 0
    have hcz40_1 := cz BK304 1
    have hfz40_0 := fz BK304 0
    have hfz40_1 := fz BK304 1
    go_wp2
    go_ret
    exact ⟨by first | rfl | (simp [errW_none, errW_some] <;> rfl) | (simp [*, errW_none, errW_some] <;> rfl), hB⟩

end Go.Proofs.YtdnkipagpagfiaaDoor.PSol3
