-- Of this session's own program wip/gen/gen.py (it drives the kit's print): contracts of the functions that the law reaches.
import Derived.Test.YtdnkipagpagfiaaDoorPSol2x0
import Derived.Test.YtdnkipagpagfiaaDoorPSol2x2
import Derived.Test.YtdnkipagpagfiaaDoorPSol2x13
import Derived.Test.YtdnkipagpagfiaaDoorPSol2x14
import Derived.Test.YtdnkipagpagfiaaDoorPSol2x17
namespace Go.Proofs.YtdnkipagpagfiaaDoor.PSol2
open Go.RowKit Go.Proofs.YtdnkipagpagfiaaDoorW.PrintWords Go.Proofs.YtdnkipagpagfiaaDoorW.PrintLast Go.Proofs.YtdnkipagpagfiaaDoorW.PrintMore Go.Proofs.YtdnkipagpagfiaaDoor.Base
attribute [local go_sem] max2_int min2_int max_two min_two max_three min_three max_four min_four   -- for this text's walks alone
set_option linter.unusedVariables false
set_option linter.unusedSimpArgs false

/-! ### impl_NeedlessClues: function 38 -/
def impl_NeedlessClues.l0 : Nat → Int → List Int → Int → Int → Int → List (S30) → Option (List Int × Bool)
 | 0, _, _, _, _, _, _ => none
 | k + 1, x4, x6, x18, x19, x480000, x480001 => if x19 < x18 then ((impl_dropped.f x480001 x19).bind fun t485 => ((impl_solutions.f k x480000 t485).bind fun t488 => (if (t488.length : Int) = x4 then (if x6.length < 17592186044416 then (impl_NeedlessClues.l0 k x4 (x6 ++ [x19]) x18 (wrap64 (x19 + 1)) x480000 x480001) else (none)) else (impl_NeedlessClues.l0 k x4 x6 x18 (wrap64 (x19 + 1)) x480000 x480001)))) else (some (x6, true))
def impl_NeedlessClues.f (k : Nat) (a0_0 : Int) (l0_1 : List (S30)) : Option (List Int × Bool) := (impl_CountSolutions.f k a0_0 l0_1).bind fun bt480 => (if bt480.2 = true then (impl_NeedlessClues.l0 k bt480.1 (([] : List Int)) (l0_1.length : Int) 0 a0_0 l0_1) else (some (([] : List Int), false)))
theorem impl_NeedlessClues.mono_l : ∀ k, (∀ y0 y1 y2 y3 y4 y5, LeO (impl_NeedlessClues.l0 k y0 y1 y2 y3 y4 y5) (impl_NeedlessClues.l0 (k + 1) y0 y1 y2 y3 y4 y5))
 | 0 => fun _ _ _ _ _ _ r h => by simp [impl_NeedlessClues.l0] at h
 | k + 1 => by
  have ih0 := impl_NeedlessClues.mono_l k
  ·intro y0 y1 y2 y3 y4 y5
   unfold impl_NeedlessClues.l0
   repeat' first
   | (with_reducible exact ih0 _ _ _ _ _ _)
   | (with_reducible exact impl_CountSolutions.mono _ _ _)
   | (with_reducible exact impl_solutions.mono _ _ _)
   | (with_reducible exact LeO.refl _)
   | (with_reducible exact LeO.none _)
   | (with_reducible refine LeO.ite ?_ ?_)
   | (with_reducible refine LeO.bind ?_ (fun _ => ?_))
   | exact ih0 _ _ _ _ _ _
   | exact impl_CountSolutions.mono _ _ _
   | exact impl_solutions.mono _ _ _
   | exact LeO.none _
   | refine LeO.ite ?_ ?_
   | refine LeO.bind ?_ (fun _ => ?_)
theorem impl_NeedlessClues.mono : ∀ a0 a1 k, LeO (impl_NeedlessClues.f k a0 a1) (impl_NeedlessClues.f (k + 1) a0 a1) := by
 intro a0 a1 k
 have ih0 := impl_NeedlessClues.mono_l k
 unfold impl_NeedlessClues.f
 repeat' first
   | (with_reducible exact ih0 _ _ _ _ _ _)
   | (with_reducible exact impl_CountSolutions.mono _ _ _)
   | (with_reducible exact impl_solutions.mono _ _ _)
   | (with_reducible exact LeO.refl _)
   | (with_reducible exact LeO.none _)
   | (with_reducible refine LeO.ite ?_ ?_)
   | (with_reducible refine LeO.bind ?_ (fun _ => ?_))
   | exact ih0 _ _ _ _ _ _
   | exact impl_CountSolutions.mono _ _ _
   | exact impl_solutions.mono _ _ _
   | exact LeO.none _
   | refine LeO.ite ?_ ?_
   | refine LeO.bind ?_ (fun _ => ?_)
def impl_NeedlessClues.T8 : Bool × List (List Nat × List Nat) := (true, [([], []), ([0], [0]), ([], []), ([2], [2]), ([], []), ([3, 4], [3, 4]), ([1, 5, 5], [1, 5]), ([6], [6]), ([], []), ([7, 8], [7, 8])])
def impl_NeedlessClues.B8 : List Nat := [0, 1, 0, 4, 0, 28, 63, 127, 0, 511]
theorem impl_NeedlessClues.tab8 : rtab .any (opsOf Tryd.f38 8) = impl_NeedlessClues.T8 := by kernel_rfl
theorem impl_NeedlessClues.bits8 : waitsOk impl_NeedlessClues.T8.2 impl_NeedlessClues.B8 = true := by kernel_rfl
set_option maxHeartbeats 8000000 in
set_option maxRecDepth 100000 in
theorem impl_NeedlessClues.calls (k : Nat) (a0_0 : Int) (A0_1 : Option Addr) (c0_1 : Nat) (l0_1 : List (S30)) (r1 : List Int) (r2 : Bool) (w : World) (hr0_1 : Kd.C k30 w A0_1 l0_1.length l0_1) (hc0_1 : l0_1.length ≤ c0_1) (h : impl_NeedlessClues.f k a0_0 l0_1 = some (r1, r2)) (hG : GTab 0 w := by first | exact Aside0.out ‹Aside0 (GTab _ _)› | exact GTab.up (Aside0.out ‹Aside0 (GTab _ _)›) (by repeat (first | (with_reducible first | exact Below.refl _ _ | exact Aside0.out ‹Aside0 (Below _ _ _)› | apply below_alloc | apply pw_below_drewN | apply below_drew1 | refine below_set ?_ (Aside0.out (by assumption))) | exact Aside0.out ‹Aside0 (Below _ _ _)›))) :
  Calls Tryd.prog 38 #[.agg #[.int .i64 a0_0, .slice A0_1 l0_1.length c0_1]] w fun e w' => ∃ v0_ : Value, e = .returned (.tuple #[v0_, .bool r2]) ∧ Kd.R (Kd.int .i64) 3 w' w.heap.size (fun _ => True) v0_ r1 ∧ Below w.heap.size w w' := by
 have hu40 := Tryd.underlying40
 have HG := Aside0.mk (p := GTab _ _) hG
 clear hG
 have HR0_1 := Aside0.mk hr0_1
 have HC0_1 := Aside0.mk hc0_1
 clear hr0_1 hc0_1
 have HB := Aside0.mk (Below.refl w.heap.size w)
 have H : ((impl_CountSolutions.f k a0_0 l0_1).bind fun bt480 => (if bt480.2 = true then (impl_NeedlessClues.l0 k bt480.1 (([] : List Int)) (l0_1.length : Int) 0 a0_0 l0_1) else (some (([] : List Int), false)))) = some (r1, r2) := h
 clear h
 replace H := Option.bind_eq_some_iff.mp H
 obtain ⟨⟨t480, t481⟩, A20, H⟩ := H
 try dsimp only at H
 have A2 := Aside0.mk A20
 clear A20
 by_cases c3 : t481 = true
 ·subst c3
  rw [if_pos rfl] at H
  obtain ⟨y482, hy482⟩ : ∃ y_ : List Int, y_ = (([] : List Int)) := ⟨_, rfl⟩
  replace H : (impl_NeedlessClues.l0 k t480 y482 (l0_1.length : Int) 0 a0_0 l0_1) = some (r1, r2) := by first | (rw [hy482]; with_reducible exact H) | (have H2_ := (Option.bind_some _ _).symm.trans H; rw [hy482]; with_reducible exact H2_) | (have H2_ := (Option.bind_some _ _).symm.trans H; with_reducible exact H2_) | with_reducible exact H | (rw [hy482]; exact H) | exact H
  have Ny482 := Aside0.mk hy482
  clear hy482
  have H' := Aside0.mk H
  clear H
  go_enter Tryd.func38, Tryd.ntmps38
  go_wp2_with (first | ((with_reducible refine gate_dst (N := 1) rfl ?_); refine bxE 1 #[.int .i64 a0_0, .slice A0_1 l0_1.length c0_1] 40 rfl ?_; intro gb479 hg w4 hbox hb; have BK479 := Aside0.mk (hbox); have GW479 := gS HB hg; have GE479 := gS HB hg; replace HB := hS HB hb; clear hb hbox hg; have hcz5_0 := cz BK479 0; have hcz5_1 := cz BK479 1; have hfz5_0 := fz BK479 0; have hfz5_1 := fz BK479 1) | ((with_reducible refine gate_callee (f := 29) rfl ?_); refine goC (N := some 10) Tryd.func29 #[.agg #[.int .i64 a0_0, .slice A0_1 l0_1.length c0_1]] rfl ?_; (with_reducible refine (impl_CountSolutions.calls k a0_0 _ _ l0_1 t480 true _ ?side1 ?side2 A2.out).mono ?_); (case side1 => exact cS (Kd.C_below HR0_1.out HB.out)); (case side2 => exact HC0_1.out); rintro e w6 ⟨rfl, hb⟩; refine ⟨_, rfl, ?_⟩; replace BK479 := bS BK479 hb; replace HB := hS HB hb; (try clear hb); (try clear hb2); (try clear hk); (try clear hi)) | ((with_reducible refine gate_dst (N := 15) rfl ?_); refine Kd.R_lit (Kd.int .i64) _ 3 ?hg (N := 15) ?hd (xs := ([] : List Int)) (inner := []) (ok := fun _ => True) (okp := fun _ => True) ?hr ?hp (fun _ hk => hk) trivial (Below.refl _ _) (Nat.le_refl _) (by simp) ?_; (case hd => rfl); (case hg => rfl); (case hr => first | (go_simp; done) | (go_simp; rfl)); (case hp => exact (Reps.none _ _)); intro v483 w7 ho8 hb hg_ hnew_; clear hg_ hnew_; (first | rw [← Ny482.out] at ho8 | (simp only [Int.reduceToNat] at ho8; rw [← Ny482.out] at ho8)); have HO484 := Aside0.mk (Kd.R_lower ho8 (below_size hB)); replace BK479 := bS BK479 hb; replace HB := hS HB hb; clear hb ho8; have hcz9_0 := cz BK479 0; have hcz9_1 := cz BK479 1; have hfz9_0 := fz BK479 0; have hfz9_1 := fz BK479 1))
  go_loopg [6, 19] k (fun kq v6 v19 w' => ∃ (x6_1 : List Int) (x19_1 : Int), v19 = .int .i64 x19_1 ∧ Aside0 (impl_NeedlessClues.l0 kq t480 x6_1 (l0_1.length : Int) x19_1 a0_0 l0_1 = some (r1, r2)) ∧ Aside0 (kq ≤ k) ∧ Aside0 (Kd.R (Kd.int .i64) 3 w' w.heap.size (fun _ => True) v6 x6_1) ∧ Aside0 (w'.heap[gb479]? = some (.cells #[.int .i64 a0_0, (.slice A0_1 l0_1.length c0_1)] 40 (0, 0))) ∧ Aside0 (Below w.heap.size w w'))
  case atStart => exact ⟨(y482), (0), (by first | rfl | (simp; done) | (simp [*]; done)), H', ⟨Nat.le_refl _⟩, ⟨rU HO484⟩, ⟨bK⟩, ⟨hB⟩⟩
  case round =>
   clear H'
   try clear c2
   try clear p2
   try clear c3
   try clear hcz5_0
   try clear hcz5_1
   try clear hcz9_0
   try clear hcz9_1
   try clear hfz5_0
   try clear hfz5_1
   try clear hfz9_0
   try clear hfz9_1
   obtain ⟨x6_1, x19_1, rfl, HA, HK1, HO_6, BK479, HB⟩ := hrel
   cases gk with
   | zero => exact absurd HA.out (by simp [impl_NeedlessClues.l0])
   | succ k1 =>
    have H := HA.out
    clear HA
    simp only [impl_NeedlessClues.l0] at H
    by_cases c10 : x19_1 < (l0_1.length : Int)
    ·rw [if_pos c10] at H
     have c10b0 : decide (x19_1 < (l0_1.length : Int)) = true := decide_eq_true c10
     clear c10
     replace H := Option.bind_eq_some_iff.mp H
     obtain ⟨t485, A110, H⟩ := H
     try dsimp only at H
     have A11 := Aside0.mk A110
     clear A110
     replace H := Option.bind_eq_some_iff.mp H
     obtain ⟨t488, A120, H⟩ := H
     try dsimp only at H
     have A12 := Aside0.mk A120
     clear A120
     by_cases c13 : (t488.length : Int) = t480
     ·rw [if_pos c13] at H
      have c13b0 : ((t488.length : Int) == t480) = true := beq_iff_eq.mpr c13
      have c13b1 : ((t488.length : Int) != t480) = false := bne_eq_false_iff_eq.mpr c13
      clear c13
      by_cases c14 : x6_1.length < 17592186044416
      ·rw [if_pos c14] at H
       have LMc14 := Aside0.mk c14
       clear c14
       obtain ⟨y491, hy491⟩ : ∃ y_ : List Int, y_ = (x6_1 ++ [x19_1]) := ⟨_, rfl⟩
       replace H : (impl_NeedlessClues.l0 k1 t480 y491 (l0_1.length : Int) (wrap64 (x19_1 + 1)) a0_0 l0_1) = some (r1, r2) := by first | (rw [hy491]; with_reducible exact H) | (have H2_ := (Option.bind_some _ _).symm.trans H; rw [hy491]; with_reducible exact H2_) | (have H2_ := (Option.bind_some _ _).symm.trans H; with_reducible exact H2_) | with_reducible exact H | (rw [hy491]; exact H) | exact H
       have Ny491 := Aside0.mk hy491
       clear hy491
       have H' := Aside0.mk H
       clear H
       try go_wp2
       replace HO_6 := Aside0.mk (Kd.R_drew HO_6.out)
       replace BK479 := Aside0.mk (blk_drew BK479.out)
       replace HB := Aside0.mk (below_drew1 HB.out)
       refine start_ (n := 10) (S := fun w' => w'.cell? ⟨gb479, 0, none⟩ = some (.int .i64 a0_0) ∧ w'.cell? ⟨gb479, 1, none⟩ = some (.slice A0_1 l0_1.length c0_1)) (ds := []) (bz 10 0) (by kernel_rfl) rfl rfl ⟨(blk_cell BK479.out 0).trans rfl, (blk_cell BK479.out 1).trans rfl⟩ (fun hHeld => ?_); refine with_tabW impl_NeedlessClues.tab8 impl_NeedlessClues.bits8 (fun HT_ HW_ => ?_)
       generalize wr.drew = w15 at HO_6 BK479 HB hHeld ⊢
       refine run_ [(0, 0, 1, some 22), (0, 2, 5, some 24), (0, 4, 21, some 26), (0, 8, 277, some 30), (1, 1, 279, some 23), (1, 3, 287, some 25)] ?_
       repeat (first | (apply tag0; refine run_p (v := ?_) (a' := ?_) rfl rfl (any_of HT_.out (by kernel_rfl)) (fun _ _ _ h => h) (by rfl) ?_ ?_ ?_; rotate_left 2; (intro w'; go_simp; with_reducible rfl); (first | (simp only [Act.put, List.setIfInBounds_toArray, List.set_cons_zero, List.set_cons_succ, i64_w, i32_w]; rfl) | rfl)) | (apply tag1; refine run_t (v := ?_) (a' := ?_) rfl rfl (take_ofW HT_.out HW_.out (by kernel_rfl)) (fun _ _ _ h => h) (by rfl) ?_ hHeld ?_ ?_; rotate_left 2; (rintro w' ⟨s0, s1⟩; go_simp; with_reducible rfl); (first | (simp only [Act.put, List.setIfInBounds_toArray, List.set_cons_zero, List.set_cons_succ, i64_w, i32_w]; rfl) | rfl)))
       refine run_nil ?_
       refine one_ (i := 5) (N := some 27) (bz 10 319) rfl rfl (one_of HT_.out (by kernel_rfl)) (by decide) (fun K hK => ?_)
       refine goes_ Tryd.func91 (by kernel_rfl) rfl #[.slice A0_1 l0_1.length c0_1, .int .i64 x19_1] (by rfl) rfl rfl mapT ?_
       with_reducible refine (impl_dropped.calls _ _ l0_1 x19_1 t485 _ ?side1 ?side2 A11.out).mono ?_
       (case side1 => exact cS (Kd.C_below HR0_1.out HB.out))
       (case side2 => exact HC0_1.out)
       rintro e w16 ⟨v486, rfl, ho0, hb⟩
       refine ⟨_, rfl, ?_⟩
       have HO487 := Aside0.mk (Kd.R_lower ho0 (below_size hB))
       replace HO_6 := Aside0.mk (Kd.R_below (rU HO_6) hb)
       replace BK479 := bS BK479 hb
       replace HB := hS HB hb
       (try clear hb)
       (try clear hb2)
       (try clear hk)
       (try clear hi)
       (try clear ho0)
       obtain ⟨Ao17, co17, eo17⟩ := Kd.R_slice HO487.out
       (first | subst eo17 | (injection eo17 with f1_ f2_ f3_; have f4_ := f1_.symm; have f5_ := f3_.symm; clear f1_ f2_ f3_; subst f4_; subst f5_))
       refine hK.out _ _ ⟨(blk_cell BK479.out 0).trans rfl, (blk_cell BK479.out 1).trans rfl⟩ (fun hHeld => ?_)
       clear hK K
       refine norm_ (a' := ?_) ?_ ?_
       rotate_left
       ·show Act.put _ (some 27) _ = _
        simp only [Act.put, List.setIfInBounds_toArray, List.set_cons_zero, List.set_cons_succ, i64_w, i32_w]
        rfl
       refine one_ (i := 6) (N := some 28) (bz 10 383) rfl rfl (one_of HT_.out (by kernel_rfl)) (by decide) (fun K hK => ?_)
       refine goes_ Tryd.func89 (by kernel_rfl) rfl #[.int .i64 a0_0, .slice Ao17 t485.length co17] (by rfl) rfl rfl mapT ?_
       with_reducible refine (impl_solutions.calls k1 a0_0 _ _ t485 t488 _ ?side1 ?side2 A12.out).mono ?_
       (case side1 => exact cS (Kd.R_reads' HO487.out).2.2)
       (case side2 => exact (Kd.R_reads' HO487.out).2.1)
       rintro e w18 ⟨v489, rfl, ho0, hb⟩
       refine ⟨_, rfl, ?_⟩
       have HO490 := Aside0.mk (Kd.S_lower ho0 (below_size hB))
       replace HO_6 := Aside0.mk (Kd.R_below (rU HO_6) hb)
       replace HO487 := Aside0.mk (Kd.R_below (rU HO487) hb)
       replace BK479 := bS BK479 hb
       replace HB := hS HB hb
       (try clear hb)
       (try clear hb2)
       (try clear hk)
       (try clear hi)
       (try clear ho0)
       obtain ⟨Ao19, co19, eo19⟩ := Kd.S_slice HO490.out
       (first | subst eo19 | (injection eo19 with f1_ f2_ f3_; have f4_ := f1_.symm; have f5_ := f3_.symm; clear f1_ f2_ f3_; subst f4_; subst f5_))
       refine hK.out _ _ ⟨(blk_cell BK479.out 0).trans rfl, (blk_cell BK479.out 1).trans rfl⟩ (fun hHeld => ?_)
       clear hK K
       refine norm_ (a' := ?_) ?_ ?_
       rotate_left
       ·show Act.put _ (some 28) _ = _
        simp only [Act.put, List.setIfInBounds_toArray, List.set_cons_zero, List.set_cons_succ, i64_w, i32_w]
        rfl
       refine run_ [(0, 7, 511, some 29), (0, 9, 1023, some 31)] ?_
       repeat ((apply tag0; refine run_p (v := ?_) (a' := ?_) rfl rfl (any_of HT_.out (by kernel_rfl)) (fun _ _ _ h => h) (by rfl) ?_ ?_ ?_; rotate_left 2; (intro w'; go_simp; with_reducible rfl); (first | (simp only [Act.put, List.setIfInBounds_toArray, List.set_cons_zero, List.set_cons_succ, i64_w, i32_w]; rfl) | rfl)))
       refine run_nil ?_
       refine done_ (done_of HT_.out (by kernel_rfl)) ?_
       try go_wp2_with (first | ((with_reducible refine gate_builtin (b := .append) (xs := #[.tmp 32, .tmp 34]) rfl ?_); at_builtin; refine Kd.R_append (Kd.int .i64) (w0 := w) w.heap.size rfl (.tmp 32) (.tmp 34) 56 3 (.int .i64 0) 8 rfl Tryd.underlying56 info3 rfl (by decide) (by omega) u6 x6_1 x19_1 [.int .i64 x19_1] (fun _ => True) (fun _ => False) rfl rfl ?aP (fun _ hk => hk.elim) ?aF ?aO ?aB ?aS ?aL ?_; (case aP => exact rfl); (case aB => exact hB); (case aF => exact (fun _ _ => trivial)); (case aO => exact (rU HO_6)); (case aS => exact (below_size hB)); (case aL => have := LMc14.out; omega); intro v492 w20 ho hb hg hat; rw [← Ny491.out] at ho; have HO493 := Aside0.mk (ho); replace BK479 := Aside0.mk (blk_grown (g := gb479) (o := .cells #[.int .i64 a0_0, .slice A0_1 l0_1.length c0_1] 40 (0, 0)) bK hg (Kd.R_ne HO_6.out BK479.out (by decide))); replace HO487 := Aside0.mk (Kd.R_over' (rU HO487) (Kd.R_typed (rU HO_6)) (by decide) hg); replace HO490 := Aside0.mk (Kd.S_over' (sU HO490) (Kd.R_typed (rU HO_6)) (by decide) hg); replace HB := Aside0.mk (hb); clear HO_6; clear ho hb hg hat))
       go_roundg k1
       case measure => have := HK1.out; omega
       case rel => exact ⟨(y491), (wrap64 (x19_1 + 1)), (by first | rfl | (simp; done) | (simp [*]; done)), H', ⟨by have := HK1.out; omega⟩, ⟨rU HO493⟩, ⟨bK⟩, ⟨hB⟩⟩
      ·rw [if_neg c14] at H
       exact absurd H (by simp)
     ·rw [if_neg c13] at H
      have c13b0 : ((t488.length : Int) == t480) = false := beq_eq_false_iff_ne.mpr c13
      have c13b1 : ((t488.length : Int) != t480) = true := bne_iff_ne.mpr c13
      have H' := Aside0.mk H
      clear H
      try go_wp2
      replace HO_6 := Aside0.mk (Kd.R_drew HO_6.out)
      replace BK479 := Aside0.mk (blk_drew BK479.out)
      replace HB := Aside0.mk (below_drew1 HB.out)
      refine start_ (n := 10) (S := fun w' => w'.cell? ⟨gb479, 0, none⟩ = some (.int .i64 a0_0) ∧ w'.cell? ⟨gb479, 1, none⟩ = some (.slice A0_1 l0_1.length c0_1)) (ds := []) (bz 10 0) (by kernel_rfl) rfl rfl ⟨(blk_cell BK479.out 0).trans rfl, (blk_cell BK479.out 1).trans rfl⟩ (fun hHeld => ?_); refine with_tabW impl_NeedlessClues.tab8 impl_NeedlessClues.bits8 (fun HT_ HW_ => ?_)
      generalize wr.drew = w21 at HO_6 BK479 HB hHeld ⊢
      refine run_ [(0, 0, 1, some 22), (0, 2, 5, some 24), (0, 4, 21, some 26), (0, 8, 277, some 30), (1, 1, 279, some 23), (1, 3, 287, some 25)] ?_
      repeat (first | (apply tag0; refine run_p (v := ?_) (a' := ?_) rfl rfl (any_of HT_.out (by kernel_rfl)) (fun _ _ _ h => h) (by rfl) ?_ ?_ ?_; rotate_left 2; (intro w'; go_simp; with_reducible rfl); (first | (simp only [Act.put, List.setIfInBounds_toArray, List.set_cons_zero, List.set_cons_succ, i64_w, i32_w]; rfl) | rfl)) | (apply tag1; refine run_t (v := ?_) (a' := ?_) rfl rfl (take_ofW HT_.out HW_.out (by kernel_rfl)) (fun _ _ _ h => h) (by rfl) ?_ hHeld ?_ ?_; rotate_left 2; (rintro w' ⟨s0, s1⟩; go_simp; with_reducible rfl); (first | (simp only [Act.put, List.setIfInBounds_toArray, List.set_cons_zero, List.set_cons_succ, i64_w, i32_w]; rfl) | rfl)))
      refine run_nil ?_
      refine one_ (i := 5) (N := some 27) (bz 10 319) rfl rfl (one_of HT_.out (by kernel_rfl)) (by decide) (fun K hK => ?_)
      refine goes_ Tryd.func91 (by kernel_rfl) rfl #[.slice A0_1 l0_1.length c0_1, .int .i64 x19_1] (by rfl) rfl rfl mapT ?_
      with_reducible refine (impl_dropped.calls _ _ l0_1 x19_1 t485 _ ?side1 ?side2 A11.out).mono ?_
      (case side1 => exact cS (Kd.C_below HR0_1.out HB.out))
      (case side2 => exact HC0_1.out)
      rintro e w22 ⟨v486, rfl, ho0, hb⟩
      refine ⟨_, rfl, ?_⟩
      have HO487 := Aside0.mk (Kd.R_lower ho0 (below_size hB))
      replace HO_6 := Aside0.mk (Kd.R_below (rU HO_6) hb)
      replace BK479 := bS BK479 hb
      replace HB := hS HB hb
      (try clear hb)
      (try clear hb2)
      (try clear hk)
      (try clear hi)
      (try clear ho0)
      obtain ⟨Ao23, co23, eo23⟩ := Kd.R_slice HO487.out
      (first | subst eo23 | (injection eo23 with f1_ f2_ f3_; have f4_ := f1_.symm; have f5_ := f3_.symm; clear f1_ f2_ f3_; subst f4_; subst f5_))
      refine hK.out _ _ ⟨(blk_cell BK479.out 0).trans rfl, (blk_cell BK479.out 1).trans rfl⟩ (fun hHeld => ?_)
      clear hK K
      refine norm_ (a' := ?_) ?_ ?_
      rotate_left
      ·show Act.put _ (some 27) _ = _
       simp only [Act.put, List.setIfInBounds_toArray, List.set_cons_zero, List.set_cons_succ, i64_w, i32_w]
       rfl
      refine one_ (i := 6) (N := some 28) (bz 10 383) rfl rfl (one_of HT_.out (by kernel_rfl)) (by decide) (fun K hK => ?_)
      refine goes_ Tryd.func89 (by kernel_rfl) rfl #[.int .i64 a0_0, .slice Ao23 t485.length co23] (by rfl) rfl rfl mapT ?_
      with_reducible refine (impl_solutions.calls k1 a0_0 _ _ t485 t488 _ ?side1 ?side2 A12.out).mono ?_
      (case side1 => exact cS (Kd.R_reads' HO487.out).2.2)
      (case side2 => exact (Kd.R_reads' HO487.out).2.1)
      rintro e w24 ⟨v489, rfl, ho0, hb⟩
      refine ⟨_, rfl, ?_⟩
      have HO490 := Aside0.mk (Kd.S_lower ho0 (below_size hB))
      replace HO_6 := Aside0.mk (Kd.R_below (rU HO_6) hb)
      replace HO487 := Aside0.mk (Kd.R_below (rU HO487) hb)
      replace BK479 := bS BK479 hb
      replace HB := hS HB hb
      (try clear hb)
      (try clear hb2)
      (try clear hk)
      (try clear hi)
      (try clear ho0)
      obtain ⟨Ao25, co25, eo25⟩ := Kd.S_slice HO490.out
      (first | subst eo25 | (injection eo25 with f1_ f2_ f3_; have f4_ := f1_.symm; have f5_ := f3_.symm; clear f1_ f2_ f3_; subst f4_; subst f5_))
      refine hK.out _ _ ⟨(blk_cell BK479.out 0).trans rfl, (blk_cell BK479.out 1).trans rfl⟩ (fun hHeld => ?_)
      clear hK K
      refine norm_ (a' := ?_) ?_ ?_
      rotate_left
      ·show Act.put _ (some 28) _ = _
       simp only [Act.put, List.setIfInBounds_toArray, List.set_cons_zero, List.set_cons_succ, i64_w, i32_w]
       rfl
      refine run_ [(0, 7, 511, some 29), (0, 9, 1023, some 31)] ?_
      repeat ((apply tag0; refine run_p (v := ?_) (a' := ?_) rfl rfl (any_of HT_.out (by kernel_rfl)) (fun _ _ _ h => h) (by rfl) ?_ ?_ ?_; rotate_left 2; (intro w'; go_simp; with_reducible rfl); (first | (simp only [Act.put, List.setIfInBounds_toArray, List.set_cons_zero, List.set_cons_succ, i64_w, i32_w]; rfl) | rfl)))
      refine run_nil ?_
      refine done_ (done_of HT_.out (by kernel_rfl)) ?_
      try go_wp2
      go_roundg k1
      case measure => have := HK1.out; omega
      case rel => exact ⟨(x6_1), (wrap64 (x19_1 + 1)), (by first | rfl | (simp; done) | (simp [*]; done)), H', ⟨by have := HK1.out; omega⟩, ⟨rU HO_6⟩, ⟨bK⟩, ⟨hB⟩⟩
    ·rw [if_neg c10] at H
     have c10b0 : decide (x19_1 < (l0_1.length : Int)) = false := decide_eq_false c10
     clear c10
     simp only [Option.some.injEq, Prod.mk.injEq] at H
     obtain ⟨rfl, rfl⟩ := H
     go_wp2
     go_ret2
     exact ⟨_, by first | rfl | (simp [errW_none, errW_some] <;> rfl) | (simp [*, errW_none, errW_some] <;> rfl), rU HO_6, hB⟩
 ·replace c3 := Bool.eq_false_iff.mpr c3
  subst c3
  rw [if_neg (show ¬ (false = true) by decide)] at H
  simp only [Option.some.injEq, Prod.mk.injEq] at H
  obtain ⟨rfl, rfl⟩ := H
  go_enter Tryd.func38, Tryd.ntmps38
  go_wp2_with (first | ((with_reducible refine gate_dst (N := 1) rfl ?_); refine bxE 1 #[.int .i64 a0_0, .slice A0_1 l0_1.length c0_1] 40 rfl ?_; intro gb479 hg w26 hbox hb; have BK479 := Aside0.mk (hbox); have GW479 := gS HB hg; have GE479 := gS HB hg; replace HB := hS HB hb; clear hb hbox hg; have hcz27_0 := cz BK479 0; have hcz27_1 := cz BK479 1; have hfz27_0 := fz BK479 0; have hfz27_1 := fz BK479 1) | ((with_reducible refine gate_callee (f := 29) rfl ?_); refine goC (N := some 10) Tryd.func29 #[.agg #[.int .i64 a0_0, .slice A0_1 l0_1.length c0_1]] rfl ?_; (with_reducible refine (impl_CountSolutions.calls k a0_0 _ _ l0_1 t480 false _ ?side1 ?side2 A2.out).mono ?_); (case side1 => exact cS (Kd.C_below HR0_1.out HB.out)); (case side2 => exact HC0_1.out); rintro e w28 ⟨rfl, hb⟩; refine ⟨_, rfl, ?_⟩; replace BK479 := bS BK479 hb; replace HB := hS HB hb; (try clear hb); (try clear hb2); (try clear hk); (try clear hi)))
  go_ret2
  exact ⟨_, by first | rfl | (simp [errW_none, errW_some] <;> rfl) | (simp [*, errW_none, errW_some] <;> rfl), by first | exact Kd.R_nil _ _ _ _ _ | exact Kd.N_nil _ _ _ _ _ | exact Kd.V_nil _ _ _ _ _ | exact Kd.Q_nil _ _ _ _ _ | exact Kd.S_nil _ _ _ _ _, hB⟩

/-! ### laws_FnExactNeedlessClues: function 8 -/
def laws_FnExactNeedlessClues.f (k : Nat) (a0_0 : Int) (l0_1 : List (S23)) : Option (Bool) := (laws_szPuzzle.f a0_0 l0_1 1048576).bind fun t495 => (if t495 < 0 then (some true) else ((laws_toPuzzle.f k a0_0 l0_1).bind fun bt496 => ((spec_NeedlessClues.f k bt496.1 bt496.2).bind fun bt500 => ((laws_toPuzzle.f k a0_0 l0_1).bind fun bt504 => ((impl_NeedlessClues.f k bt504.1 bt504.2).bind fun bt509 => ((laws_eqIntS.f k bt509.1 bt500.1).bind fun t513 => (if t513 = true then (if (bt509.2 != bt500.2) = true then (none) else ((laws_toPuzzle.f k a0_0 l0_1).bind fun bt514 => ((laws_eqPuzzle.f k bt504.1 bt504.2 bt514.1 bt514.2).bind fun t518 => (if t518 = true then ((laws_markPuzzle.f k bt504.1 bt504.2 1).bind fun bt519 => (if bt519.1 < 0 then (none) else ((laws_eqIntS.f k bt509.1 bt500.1).bind fun t521 => (if t521 = true then ((laws_markIntS.f k bt509.1 1).bind fun bt522 => ((laws_heldIntS.f k bt522.2 1).bind fun t524 => (if t524 < 0 then (none) else (if t524 = bt522.1 then ((laws_toPuzzle.f k a0_0 l0_1).bind fun bt525 => ((impl_NeedlessClues.f k bt525.1 bt525.2).bind fun bt529 => ((laws_eqIntS.f k bt529.1 bt500.1).bind fun t533 => (if t533 = true then (if (bt529.2 != bt500.2) = true then (none) else ((laws_heldIntS.f k bt522.2 1).bind fun t534 => (if t534 < 0 then (none) else (if t534 = bt522.1 then (some true) else (none))))) else (none))))) else (none))))) else (none))))) else (none))))) else (none))))))))
theorem laws_FnExactNeedlessClues.mono : ∀ a0 a1 k, LeO (laws_FnExactNeedlessClues.f k a0 a1) (laws_FnExactNeedlessClues.f (k + 1) a0 a1) := by
 intro a0 a1 k
 unfold laws_FnExactNeedlessClues.f
 repeat' first
   | (with_reducible exact impl_NeedlessClues.mono _ _ _)
   | (with_reducible exact laws_eqIntS.mono _ _ _)
   | (with_reducible exact laws_eqPuzzle.mono _ _ _ _ _)
   | (with_reducible exact laws_heldIntS.mono _ _ _)
   | (with_reducible exact laws_markIntS.mono _ _ _)
   | (with_reducible exact laws_markPuzzle.mono _ _ _ _)
   | (with_reducible exact laws_toPuzzle.mono _ _ _)
   | (with_reducible exact spec_NeedlessClues.mono _ _ _)
   | (with_reducible exact LeO.refl _)
   | (with_reducible exact LeO.none _)
   | (with_reducible refine LeO.ite ?_ ?_)
   | (with_reducible refine LeO.bind ?_ (fun _ => ?_))
   | exact impl_NeedlessClues.mono _ _ _
   | exact laws_eqIntS.mono _ _ _
   | exact laws_eqPuzzle.mono _ _ _ _ _
   | exact laws_heldIntS.mono _ _ _
   | exact laws_markIntS.mono _ _ _
   | exact laws_markPuzzle.mono _ _ _ _
   | exact laws_toPuzzle.mono _ _ _
   | exact spec_NeedlessClues.mono _ _ _
   | exact LeO.none _
   | refine LeO.ite ?_ ?_
   | refine LeO.bind ?_ (fun _ => ?_)
set_option maxHeartbeats 8000000 in
set_option maxRecDepth 100000 in
theorem laws_FnExactNeedlessClues.calls (k : Nat) (a0_0 : Int) (A0_1 : Option Addr) (c0_1 : Nat) (l0_1 : List (S23)) (r : Bool) (w : World) (hr0_1 : Kd.C k23 w A0_1 l0_1.length l0_1) (hc0_1 : l0_1.length ≤ c0_1) (h : laws_FnExactNeedlessClues.f k a0_0 l0_1 = some r) (hG : GTab 0 w := by first | exact Aside0.out ‹Aside0 (GTab _ _)› | exact GTab.up (Aside0.out ‹Aside0 (GTab _ _)›) (by repeat (first | (with_reducible first | exact Below.refl _ _ | exact Aside0.out ‹Aside0 (Below _ _ _)› | apply below_alloc | apply pw_below_drewN | apply below_drew1 | refine below_set ?_ (Aside0.out (by assumption))) | exact Aside0.out ‹Aside0 (Below _ _ _)›))) :
  Calls Tryd.prog 8 #[.agg #[.int .i64 a0_0, .slice A0_1 l0_1.length c0_1]] w fun e w' => e = .returned (.bool r) ∧ Below w.heap.size w w' := by
 have hu49 := Tryd.underlying49
 have hu40 := Tryd.underlying40
 have HG := Aside0.mk (p := GTab _ _) hG
 clear hG
 have HR0_1 := Aside0.mk hr0_1
 have HC0_1 := Aside0.mk hc0_1
 clear hr0_1 hc0_1
 have HB := Aside0.mk (Below.refl w.heap.size w)
 have H : ((laws_szPuzzle.f a0_0 l0_1 1048576).bind fun t495 => (if t495 < 0 then (some true) else ((laws_toPuzzle.f k a0_0 l0_1).bind fun bt496 => ((spec_NeedlessClues.f k bt496.1 bt496.2).bind fun bt500 => ((laws_toPuzzle.f k a0_0 l0_1).bind fun bt504 => ((impl_NeedlessClues.f k bt504.1 bt504.2).bind fun bt509 => ((laws_eqIntS.f k bt509.1 bt500.1).bind fun t513 => (if t513 = true then (if (bt509.2 != bt500.2) = true then (none) else ((laws_toPuzzle.f k a0_0 l0_1).bind fun bt514 => ((laws_eqPuzzle.f k bt504.1 bt504.2 bt514.1 bt514.2).bind fun t518 => (if t518 = true then ((laws_markPuzzle.f k bt504.1 bt504.2 1).bind fun bt519 => (if bt519.1 < 0 then (none) else ((laws_eqIntS.f k bt509.1 bt500.1).bind fun t521 => (if t521 = true then ((laws_markIntS.f k bt509.1 1).bind fun bt522 => ((laws_heldIntS.f k bt522.2 1).bind fun t524 => (if t524 < 0 then (none) else (if t524 = bt522.1 then ((laws_toPuzzle.f k a0_0 l0_1).bind fun bt525 => ((impl_NeedlessClues.f k bt525.1 bt525.2).bind fun bt529 => ((laws_eqIntS.f k bt529.1 bt500.1).bind fun t533 => (if t533 = true then (if (bt529.2 != bt500.2) = true then (none) else ((laws_heldIntS.f k bt522.2 1).bind fun t534 => (if t534 < 0 then (none) else (if t534 = bt522.1 then (some true) else (none))))) else (none))))) else (none))))) else (none))))) else (none))))) else (none))))))))) = some r := h
 clear h
 replace H := Option.bind_eq_some_iff.mp H
 obtain ⟨t495, A20, H⟩ := H
 try dsimp only at H
 have A2 := Aside0.mk A20
 clear A20
 by_cases c3 : t495 < 0
 ·rw [if_pos c3] at H
  have c3b0 : decide (t495 < 0) = true := decide_eq_true c3
  clear c3
  obtain rfl := Option.some.inj H
  go_enter Tryd.func8, Tryd.ntmps8
  go_wp2_with (first | ((with_reducible refine gate_dst (N := 1) rfl ?_); refine bxE 1 #[.int .i64 a0_0, .slice A0_1 l0_1.length c0_1] 49 rfl ?_; intro gb494 hg w4 hbox hb; have BK494 := Aside0.mk (hbox); have GW494 := gS HB hg; have GE494 := gS HB hg; replace HB := hS HB hb; clear hb hbox hg; have hcz5_0 := cz BK494 0; have hcz5_1 := cz BK494 1; have hfz5_0 := fz BK494 0; have hfz5_1 := fz BK494 1) | ((with_reducible refine gate_callee (f := 26) rfl ?_); refine goC (N := some 16) Tryd.func26 #[.agg #[.int .i64 a0_0, .slice A0_1 l0_1.length c0_1], .int .i64 1048576] rfl ?_; (with_reducible refine (laws_szPuzzle.calls a0_0 _ _ l0_1 1048576 t495 _ ?side1 ?side2 A2.out).mono ?_); (case side1 => exact cS (Kd.C_below HR0_1.out HB.out)); (case side2 => exact HC0_1.out); rintro e w6 ⟨rfl, hb⟩; refine ⟨_, rfl, ?_⟩; replace BK494 := bS BK494 hb; replace HB := hS HB hb; (try clear hb); (try clear hb2); (try clear hk); (try clear hi)))
  go_ret
  exact ⟨by first | rfl | (simp [errW_none, errW_some] <;> rfl) | (simp [*, errW_none, errW_some] <;> rfl), hB⟩
 ·rw [if_neg c3] at H
  have c3b0 : decide (t495 < 0) = false := decide_eq_false c3
  clear c3
  replace H := Option.bind_eq_some_iff.mp H
  obtain ⟨⟨t496, t497⟩, A70, H⟩ := H
  try dsimp only at H
  have A7 := Aside0.mk A70
  clear A70
  replace H := Option.bind_eq_some_iff.mp H
  obtain ⟨⟨t500, t503⟩, A80, H⟩ := H
  try dsimp only at H
  have A8 := Aside0.mk A80
  clear A80
  replace H := Option.bind_eq_some_iff.mp H
  obtain ⟨⟨t504, t505⟩, A90, H⟩ := H
  try dsimp only at H
  have A9 := Aside0.mk A90
  clear A90
  replace H := Option.bind_eq_some_iff.mp H
  obtain ⟨⟨t509, t512⟩, A100, H⟩ := H
  try dsimp only at H
  have A10 := Aside0.mk A100
  clear A100
  replace H := Option.bind_eq_some_iff.mp H
  obtain ⟨t513, A110, H⟩ := H
  try dsimp only at H
  have A11 := Aside0.mk A110
  clear A110
  by_cases c12 : t513 = true
  ·subst c12
   rw [if_pos rfl] at H
   by_cases c13 : (t512 != t503) = true
   ·rw [if_pos c13] at H
    exact absurd H (by simp)
   ·rw [if_neg c13] at H
    have c13b0 : (t512 != t503) = false := by simpa using c13
    (try (have c13b1 : decide (t512 = t503) = true := by simpa using c13))
    (try (have c13b2 : (t512 == t503) = true := by simpa using c13))
    clear c13
    replace H := Option.bind_eq_some_iff.mp H
    obtain ⟨⟨t514, t515⟩, A140, H⟩ := H
    try dsimp only at H
    have A14 := Aside0.mk A140
    clear A140
    replace H := Option.bind_eq_some_iff.mp H
    obtain ⟨t518, A150, H⟩ := H
    try dsimp only at H
    have A15 := Aside0.mk A150
    clear A150
    by_cases c16 : t518 = true
    ·subst c16
     rw [if_pos rfl] at H
     replace H := Option.bind_eq_some_iff.mp H
     obtain ⟨⟨t519, t520⟩, A170, H⟩ := H
     try dsimp only at H
     have A17 := Aside0.mk A170
     clear A170
     by_cases c18 : t519 < 0
     ·rw [if_pos c18] at H
      exact absurd H (by simp)
     ·rw [if_neg c18] at H
      have c18b0 : decide (t519 < 0) = false := decide_eq_false c18
      clear c18
      replace H := Option.bind_eq_some_iff.mp H
      obtain ⟨t521, A190, H⟩ := H
      try dsimp only at H
      have A19 := Aside0.mk A190
      clear A190
      by_cases c20 : t521 = true
      ·subst c20
       rw [if_pos rfl] at H
       replace H := Option.bind_eq_some_iff.mp H
       obtain ⟨⟨t522, t523⟩, A210, H⟩ := H
       try dsimp only at H
       have A21 := Aside0.mk A210
       clear A210
       replace H := Option.bind_eq_some_iff.mp H
       obtain ⟨t524, A220, H⟩ := H
       try dsimp only at H
       have A22 := Aside0.mk A220
       clear A220
       by_cases c23 : t524 < 0
       ·rw [if_pos c23] at H
        exact absurd H (by simp)
       ·rw [if_neg c23] at H
        have c23b0 : decide (t524 < 0) = false := decide_eq_false c23
        clear c23
        by_cases c24 : t524 = t522
        ·rw [if_pos c24] at H
         have c24b0 : (t524 == t522) = true := beq_iff_eq.mpr c24
         have c24b1 : (t524 != t522) = false := bne_eq_false_iff_eq.mpr c24
         clear c24
         replace H := Option.bind_eq_some_iff.mp H
         obtain ⟨⟨t525, t526⟩, A250, H⟩ := H
         try dsimp only at H
         have A25 := Aside0.mk A250
         clear A250
         replace H := Option.bind_eq_some_iff.mp H
         obtain ⟨⟨t529, t532⟩, A260, H⟩ := H
         try dsimp only at H
         have A26 := Aside0.mk A260
         clear A260
         replace H := Option.bind_eq_some_iff.mp H
         obtain ⟨t533, A270, H⟩ := H
         try dsimp only at H
         have A27 := Aside0.mk A270
         clear A270
         by_cases c28 : t533 = true
         ·subst c28
          rw [if_pos rfl] at H
          by_cases c29 : (t532 != t503) = true
          ·rw [if_pos c29] at H
           exact absurd H (by simp)
          ·rw [if_neg c29] at H
           have c29b0 : (t532 != t503) = false := by simpa using c29
           (try (have c29b1 : decide (t532 = t503) = true := by simpa using c29))
           (try (have c29b2 : (t532 == t503) = true := by simpa using c29))
           clear c29
           replace H := Option.bind_eq_some_iff.mp H
           obtain ⟨t534, A300, H⟩ := H
           try dsimp only at H
           have A30 := Aside0.mk A300
           clear A300
           by_cases c31 : t534 < 0
           ·rw [if_pos c31] at H
            exact absurd H (by simp)
           ·rw [if_neg c31] at H
            have c31b0 : decide (t534 < 0) = false := decide_eq_false c31
            clear c31
            by_cases c32 : t534 = t522
            ·rw [if_pos c32] at H
             have c32b0 : (t534 == t522) = true := beq_iff_eq.mpr c32
             have c32b1 : (t534 != t522) = false := bne_eq_false_iff_eq.mpr c32
             clear c32
             obtain rfl := Option.some.inj H
             go_enter Tryd.func8, Tryd.ntmps8
             try go_wp2_with (first | ((with_reducible refine gate_dst (N := 1) rfl ?_); refine bxE 1 #[.int .i64 a0_0, .slice A0_1 l0_1.length c0_1] 49 rfl ?_; intro gb494 hg w33 hbox hb; have BK494 := Aside0.mk (hbox); have GW494 := gS HB hg; have GE494 := gS HB hg; replace HB := hS HB hb; clear hb hbox hg; have hcz34_0 := cz BK494 0; have hcz34_1 := cz BK494 1; have hfz34_0 := fz BK494 0; have hfz34_1 := fz BK494 1) | ((with_reducible refine gate_callee (f := 26) rfl ?_); refine goC (N := some 16) Tryd.func26 #[.agg #[.int .i64 a0_0, .slice A0_1 l0_1.length c0_1], .int .i64 1048576] rfl ?_; (with_reducible refine (laws_szPuzzle.calls a0_0 _ _ l0_1 1048576 t495 _ ?side1 ?side2 A2.out).mono ?_); (case side1 => exact cS (Kd.C_below HR0_1.out HB.out)); (case side2 => exact HC0_1.out); rintro e w35 ⟨rfl, hb⟩; refine ⟨_, rfl, ?_⟩; replace BK494 := bS BK494 hb; replace HB := hS HB hb; (try clear hb); (try clear hb2); (try clear hk); (try clear hi); have hcz36_0 := cz BK494 0; have hcz36_1 := cz BK494 1; have hfz36_0 := fz BK494 0; have hfz36_1 := fz BK494 1) | ((with_reducible refine gate_callee (f := 28) rfl ?_); refine goC (N := some 21) Tryd.func28 #[.agg #[.int .i64 a0_0, .slice A0_1 l0_1.length c0_1]] rfl ?_; (with_reducible refine (laws_toPuzzle.calls k a0_0 _ _ l0_1 t496 t497 _ ?side1 ?side2 A7.out).mono ?_); (case side1 => exact cS (Kd.C_below HR0_1.out HB.out)); (case side2 => exact HC0_1.out); rintro e w37 ⟨v498, rfl, ho0, hb⟩; refine ⟨_, rfl, ?_⟩; have HO499 := Aside0.mk (Kd.R_lower ho0 (below_size hB)); replace BK494 := bS BK494 hb; replace HB := hS HB hb; (try clear hb); (try clear hb2); (try clear hk); (try clear hi); (try clear ho0); obtain ⟨Ao38, co38, eo38⟩ := Kd.R_slice HO499.out; subst eo38) | ((with_reducible refine gate_callee (f := 37) rfl ?_); refine goC (N := some 22) Tryd.func37 #[.agg #[.int .i64 t496, .slice Ao38 t497.length co38]] rfl ?_; (with_reducible refine (spec_NeedlessClues.calls k t496 _ _ t497 t500 t503 _ ?side1 ?side2 A8.out).mono ?_); (case side1 => exact cS (Kd.R_reads' HO499.out).2.2); (case side2 => exact (Kd.R_reads' HO499.out).2.1); rintro e w39 ⟨v501, rfl, ho0, hb⟩; refine ⟨_, rfl, ?_⟩; have HO502 := Aside0.mk (Kd.R_lower ho0 (below_size hB)); replace HO499 := Aside0.mk (Kd.R_below (rU HO499) hb); replace BK494 := bS BK494 hb; replace HB := hS HB hb; (try clear hb); (try clear hb2); (try clear hk); (try clear hi); (try clear ho0); have hcz40_0 := cz BK494 0; have hcz40_1 := cz BK494 1; have hfz40_0 := fz BK494 0; have hfz40_1 := fz BK494 1) | ((with_reducible refine gate_callee (f := 28) rfl ?_); refine goC (N := some 26) Tryd.func28 #[.agg #[.int .i64 a0_0, .slice A0_1 l0_1.length c0_1]] rfl ?_; (with_reducible refine (laws_toPuzzle.calls k a0_0 _ _ l0_1 t504 t505 _ ?side1 ?side2 A9.out).mono ?_); (case side1 => exact cS (Kd.C_below HR0_1.out HB.out)); (case side2 => exact HC0_1.out); rintro e w41 ⟨v506, rfl, ho0, hb⟩; refine ⟨_, rfl, ?_⟩; have HO507 := Aside0.mk (Kd.R_lower (Kd.R_new' ho0 (Kd.R_lt (rU HO499))) (below_size hB)); replace HO499 := Aside0.mk (Kd.R_elder' (rU HO499) (Kd.R_base ho0) hb); replace HO502 := Aside0.mk (Kd.R_below (rU HO502) hb); replace BK494 := bS BK494 hb; replace HB := hS HB hb; (try clear hb); (try clear hb2); (try clear hk); (try clear hi); (try clear ho0)) | ((with_reducible refine gate_dst (N := 6) rfl ?_); refine bxE 6 #[.int .i64 0, .slice none 0 0] 40 rfl ?_; intro gb508 hg w42 hbox hb; have BK508 := Aside0.mk (hbox); have GW508 := gS HB hg; have GE508 := gS HB hg; have NB494_508 := nL BK494 hg; have NB508_494 := nG BK494 hg; replace HO499 := Aside0.mk (Kd.R_below (rU HO499) hb); replace HO502 := Aside0.mk (Kd.R_below (rU HO502) hb); replace HO507 := Aside0.mk (Kd.R_below (rU HO507) hb); replace BK494 := bS BK494 hb; replace HB := hS HB hb; clear hb hbox hg; have hnb43 := NB508_494.out; have hnc43 := NB494_508.out; have hcz44_0 := cz BK508 0; have hcz44_1 := cz BK508 1; have hfz44_0 := fz BK508 0; have hfz44_1 := fz BK508 1; obtain ⟨Ao45, co45, eo45⟩ := Kd.R_slice HO507.out; subst eo45) | ((with_reducible refine gate_callee (f := 38) rfl ?_); refine goC (N := some 29) Tryd.func38 #[.agg #[.int .i64 t504, .slice Ao45 t505.length co45]] rfl ?_; (with_reducible refine (impl_NeedlessClues.calls k t504 _ _ t505 t509 t512 _ ?side1 ?side2 A10.out).mono ?_); (case side1 => refine (Kd.R_reads' (e := 30) (base := w.heap.size) (ok := fun k_ => (True ∧ some k_ ≠ (.slice Ao38 t497.length co38 : Value).ownBlock)) (n := t505.length) (c := co45) ?_).2.2; exact (by (with_reducible repeat (first | apply Kd.R_alloc | apply Kd.R_drewN | apply Kd.R_drew)); exact (Kd.R_mono (Kd.R_far (p := ⟨gb508, 1, none⟩) (Kd.R_far (p := ⟨gb508, 0, none⟩) (Kd.R_types HO507.out BK508.out (by decide)) (fun _ hk => hk.2) (.int .i64 t504)) (fun _ hk => hk.2) (.slice Ao45 t505.length co45)) (fun _ h_ => h_.1)))); (case side2 => exact (Kd.R_reads' HO507.out).2.1); rintro e w46 ⟨v510, rfl, ho0, hb⟩; refine ⟨_, rfl, ?_⟩; have HO511 := Aside0.mk (Kd.R_lower (Kd.R_new' ho0 (Kd.R_lt (by (with_reducible repeat (first | apply Kd.R_alloc | apply Kd.R_drewN | apply Kd.R_drew)); exact (Kd.R_mono (Kd.R_far (p := ⟨gb508, 1, none⟩) (Kd.R_far (p := ⟨gb508, 0, none⟩) (Kd.R_types HO502.out BK508.out (by decide)) (fun _ hk => hk.2) (.int .i64 t504)) (fun _ hk => hk.2) (.slice Ao45 t505.length co45)) (fun _ h_ => h_.1))))) (below_size hB)); replace HO499 := Aside0.mk (Kd.R_below (by (with_reducible repeat (first | apply Kd.R_alloc | apply Kd.R_drewN | apply Kd.R_drew)); exact (Kd.R_mono (Kd.R_far (p := ⟨gb508, 1, none⟩) (Kd.R_far (p := ⟨gb508, 0, none⟩) (Kd.R_types HO499.out BK508.out (by decide)) (fun _ hk => hk.2) (.int .i64 t504)) (fun _ hk => hk.2) (.slice Ao45 t505.length co45)) (fun _ h_ => h_.1))) hb); replace HO502 := Aside0.mk (Kd.R_elder' (by (with_reducible repeat (first | apply Kd.R_alloc | apply Kd.R_drewN | apply Kd.R_drew)); exact (Kd.R_mono (Kd.R_far (p := ⟨gb508, 1, none⟩) (Kd.R_far (p := ⟨gb508, 0, none⟩) (Kd.R_types HO502.out BK508.out (by decide)) (fun _ hk => hk.2) (.int .i64 t504)) (fun _ hk => hk.2) (.slice Ao45 t505.length co45)) (fun _ h_ => h_.1))) (Kd.R_base ho0) hb); replace HO507 := Aside0.mk (Kd.R_below (by (with_reducible repeat (first | apply Kd.R_alloc | apply Kd.R_drewN | apply Kd.R_drew)); exact (Kd.R_mono (Kd.R_far (p := ⟨gb508, 1, none⟩) (Kd.R_far (p := ⟨gb508, 0, none⟩) (Kd.R_types HO507.out BK508.out (by decide)) (fun _ hk => hk.2) (.int .i64 t504)) (fun _ hk => hk.2) (.slice Ao45 t505.length co45)) (fun _ h_ => h_.1))) hb); replace BK494 := Aside0.mk (blk_below (g := gb494) (o := .cells #[.int .i64 a0_0, .slice A0_1 l0_1.length c0_1] 49 (0, 0)) (by (with_reducible repeat (first | refine blk_drewN ?_ _ | refine blk_drew ?_ | refine blk_alloc ?_ _)); refine blk_far ?_ NB494_508.out _; (with_reducible repeat (first | refine blk_drewN ?_ _ | refine blk_drew ?_ | refine blk_alloc ?_ _)); refine blk_far ?_ NB494_508.out _; (with_reducible repeat (first | refine blk_drewN ?_ _ | refine blk_drew ?_ | refine blk_alloc ?_ _)); exact BK494.out) hb); replace BK508 := Aside0.mk (blk_below (g := gb508) (o := .cells #[.int .i64 t504, .slice Ao45 t505.length co45] 40 (0, 0)) (by (with_reducible repeat (first | refine blk_drewN ?_ _ | refine blk_drew ?_ | refine blk_alloc ?_ _)); refine blk_put (cs := #[.int .i64 t504, .slice none 0 0]) ?_ 1 _ rfl; (with_reducible repeat (first | refine blk_drewN ?_ _ | refine blk_drew ?_ | refine blk_alloc ?_ _)); refine blk_put (cs := #[.int .i64 0, .slice none 0 0]) ?_ 0 _ rfl; (with_reducible repeat (first | refine blk_drewN ?_ _ | refine blk_drew ?_ | refine blk_alloc ?_ _)); exact BK508.out) hb); replace HB := hS HB hb; (try clear hb); (try clear hb2); (try clear hk); (try clear hi); (try clear ho0); obtain ⟨Ao47, co47, eo47⟩ := Kd.R_slice HO511.out; subst eo47; obtain ⟨Ao48, co48, eo48⟩ := Kd.R_slice HO502.out; subst eo48) | ((with_reducible refine gate_callee (f := 34) rfl ?_); refine goC (N := some 34) Tryd.func34 #[.slice Ao47 t509.length co47, .slice Ao48 t500.length co48] rfl ?_; (with_reducible refine (laws_eqIntS.calls k _ _ t509 _ _ t500 true _ ?side1 ?side2 ?side3 ?side4 A11.out).mono ?_); (case side1 => exact cS (Kd.R_reads' HO511.out).2.2); (case side2 => exact (Kd.R_reads' HO511.out).2.1); (case side3 => exact cS (Kd.R_reads' HO502.out).2.2); (case side4 => exact (Kd.R_reads' HO502.out).2.1); rintro e w' ⟨rfl, ⟨nd, rfl⟩⟩; refine ⟨_, rfl, ?_⟩))
             (try (rw [drewN_self w46]; generalize hq_ : World.drewN w46 _ = w46; have n0_ : Aside0 (Kd.R k30 30 w46 w.heap.size (fun k_ => some k_ ≠ (.slice Ao45 t505.length co45 : Value).ownBlock) (.slice Ao38 t497.length co38) t497) := ⟨by rw [← hq_]; exact (by (with_reducible repeat (first | apply Kd.R_alloc | apply Kd.R_drewN | apply Kd.R_drew)); exact Kd.R_mono HO499.out (fun _ hk => hk.2))⟩; have n1_ : Aside0 (Kd.R (Kd.int .i64) 3 w46 w.heap.size (fun k_ => some k_ ≠ (.slice Ao47 t509.length co47 : Value).ownBlock) (.slice Ao48 t500.length co48) t500) := ⟨by rw [← hq_]; exact (by (with_reducible repeat (first | apply Kd.R_alloc | apply Kd.R_drewN | apply Kd.R_drew)); exact Kd.R_mono HO502.out (fun _ hk => hk.2))⟩; have n2_ : Aside0 (Kd.R k30 30 w46 w.heap.size (fun k_ => some k_ ≠ (.slice Ao38 t497.length co38 : Value).ownBlock) (.slice Ao45 t505.length co45) t505) := ⟨by rw [← hq_]; exact (by (with_reducible repeat (first | apply Kd.R_alloc | apply Kd.R_drewN | apply Kd.R_drew)); exact Kd.R_mono HO507.out (fun _ hk => hk.2))⟩; have n3_ : Aside0 (Kd.R (Kd.int .i64) 3 w46 w.heap.size (fun k_ => some k_ ≠ (.slice Ao48 t500.length co48 : Value).ownBlock) (.slice Ao47 t509.length co47) t509) := ⟨by rw [← hq_]; exact (by (with_reducible repeat (first | apply Kd.R_alloc | apply Kd.R_drewN | apply Kd.R_drew)); exact Kd.R_mono HO511.out (fun _ hk => hk.2))⟩; have n4_ : Aside0 (w46.heap[gb494]? = some (.cells #[.int .i64 a0_0, .slice A0_1 l0_1.length c0_1] 49 (0, 0))) := ⟨by rw [← hq_]; exact bK⟩; have n5_ : Aside0 (w46.heap[gb508]? = some (.cells #[.int .i64 t504, .slice Ao45 t505.length co45] 40 (0, 0))) := ⟨by rw [← hq_]; exact bK⟩; have n6_ : Aside0 (Below w.heap.size w w46) := ⟨by rw [← hq_]; exact hB⟩; clear HO499 HO502 HO507 HO511 BK494 BK508 HB hq_; have HO499 := n0_; have HO502 := n1_; have HO507 := n2_; have HO511 := n3_; have BK494 := n4_; have BK508 := n5_; have HB := n6_; clear n0_ n1_ n2_ n3_ n4_ n5_ n6_))
             replace HO499 := Aside0.mk (Kd.R_drew HO499.out)
             replace HO502 := Aside0.mk (Kd.R_drew HO502.out)
             replace HO507 := Aside0.mk (Kd.R_drew HO507.out)
             replace HO511 := Aside0.mk (Kd.R_drew HO511.out)
             replace BK494 := Aside0.mk (blk_drew BK494.out)
             replace BK508 := Aside0.mk (blk_drew BK508.out)
             replace HB := Aside0.mk (below_drew1 HB.out)
             refine start_ (n := 5) (S := fun w' => w'.cell? ⟨gb508, 0, none⟩ = some (.int .i64 t504) ∧ w'.cell? ⟨gb508, 1, none⟩ = some (.slice Ao45 t505.length co45) ∧ w'.cell? ⟨gb494, 0, none⟩ = some (.int .i64 a0_0) ∧ w'.cell? ⟨gb494, 1, none⟩ = some (.slice A0_1 l0_1.length c0_1)) (ds := []) (bz 5 0) (by kernel_rfl) rfl rfl ⟨(blk_cell BK508.out 0).trans rfl, (blk_cell BK508.out 1).trans rfl, (blk_cell BK494.out 0).trans rfl, (blk_cell BK494.out 1).trans rfl⟩ (fun hHeld => ?_)
             generalize w46.drew = w49 at HO499 HO502 HO507 HO511 BK494 BK508 HB hHeld ⊢
             refine run_ [(1, 0, 1, some 41), (1, 1, 3, some 42)] ?_
             repeat ((apply tag1; refine run_t (v := ?_) (a' := ?_) rfl rfl (by kernel_rfl) (fun _ _ _ h => h) (by rfl) ?_ hHeld ?_ ?_; rotate_left 2; (rintro w' ⟨s0, s1, s2, s3⟩; go_simp; with_reducible rfl); (first | (simp only [Act.put, List.setIfInBounds_toArray, List.set_cons_zero, List.set_cons_succ, i64_w, i32_w]; rfl) | rfl)))
             refine run_nil ?_
             refine one_ (i := 2) (N := some 43) (bz 5 7) rfl rfl (by kernel_rfl) (by decide) (fun K hK => ?_)
             refine goes_ Tryd.func28 (by kernel_rfl) rfl #[.agg #[.int .i64 a0_0, .slice A0_1 l0_1.length c0_1]] (by rfl) rfl rfl mapT ?_
             with_reducible refine (laws_toPuzzle.calls k a0_0 _ _ l0_1 t514 t515 _ ?side1 ?side2 A14.out).mono ?_
             (case side1 => exact cS (Kd.C_below HR0_1.out HB.out))
             (case side2 => exact HC0_1.out)
             rintro e w50 ⟨v516, rfl, ho0, hb⟩
             refine ⟨_, rfl, ?_⟩
             have HO517 := Aside0.mk (Kd.R_lower (Kd.R_new' (Kd.R_new' ho0 (Kd.R_lt (rU HO499))) (Kd.R_lt (rU HO507))) (below_size hB))
             replace HO499 := Aside0.mk (Kd.R_elder' (rU HO499) (Kd.R_base ho0) hb)
             replace HO502 := Aside0.mk (Kd.R_below (rU HO502) hb)
             replace HO507 := Aside0.mk (Kd.R_elder' (rU HO507) (Kd.R_base ho0) hb)
             replace HO511 := Aside0.mk (Kd.R_below (rU HO511) hb)
             replace BK494 := bS BK494 hb
             replace BK508 := bS BK508 hb
             replace HB := hS HB hb
             (try clear hb)
             (try clear hb2)
             (try clear hk)
             (try clear hi)
             (try clear ho0)
             obtain ⟨Ao51, co51, eo51⟩ := Kd.R_slice HO517.out
             (first | subst eo51 | (injection eo51 with f1_ f2_ f3_; have f4_ := f1_.symm; have f5_ := f3_.symm; clear f1_ f2_ f3_; subst f4_; subst f5_))
             refine hK.out _ _ ⟨(blk_cell BK508.out 0).trans rfl, (blk_cell BK508.out 1).trans rfl, (blk_cell BK494.out 0).trans rfl, (blk_cell BK494.out 1).trans rfl⟩ (fun hHeld => ?_)
             clear hK K
             refine norm_ (a' := ?_) ?_ ?_
             rotate_left
             ·show Act.put _ (some 43) _ = _
              simp only [Act.put, List.setIfInBounds_toArray, List.set_cons_zero, List.set_cons_succ, i64_w, i32_w]
              rfl
             refine one_ (i := 3) (N := some 44) (bz 5 15) rfl rfl (by kernel_rfl) (by decide) (fun K hK => ?_)
             refine goes_ Tryd.func22 (by kernel_rfl) rfl #[.agg #[.int .i64 t504, .slice Ao45 t505.length co45], .agg #[.int .i64 t514, .slice Ao51 t515.length co51]] (by rfl) rfl rfl mapT ?_
             with_reducible refine (laws_eqPuzzle.calls k t504 _ _ t505 t514 _ _ t515 true _ ?side1 ?side2 ?side3 ?side4 A15.out).mono ?_
             (case side1 => exact cS (Kd.R_reads' HO507.out).2.2)
             (case side2 => exact (Kd.R_reads' HO507.out).2.1)
             (case side3 => exact cS (Kd.R_reads' HO517.out).2.2)
             (case side4 => exact (Kd.R_reads' HO517.out).2.1)
             rintro e w52 ⟨rfl, hb⟩
             refine ⟨_, rfl, ?_⟩
             replace HO499 := Aside0.mk (Kd.R_below (rU HO499) hb)
             replace HO502 := Aside0.mk (Kd.R_below (rU HO502) hb)
             replace HO507 := Aside0.mk (Kd.R_below (rU HO507) hb)
             replace HO511 := Aside0.mk (Kd.R_below (rU HO511) hb)
             replace HO517 := Aside0.mk (Kd.R_below (rU HO517) hb)
             replace BK494 := bS BK494 hb
             replace BK508 := bS BK508 hb
             replace HB := hS HB hb
             (try clear hb)
             (try clear hb2)
             (try clear hk)
             (try clear hi)
             refine hK.out _ _ ⟨(blk_cell BK508.out 0).trans rfl, (blk_cell BK508.out 1).trans rfl, (blk_cell BK494.out 0).trans rfl, (blk_cell BK494.out 1).trans rfl⟩ (fun hHeld => ?_)
             clear hK K
             refine norm_ (a' := ?_) ?_ ?_
             rotate_left
             ·show Act.put _ (some 44) _ = _
              simp only [Act.put, List.setIfInBounds_toArray, List.set_cons_zero, List.set_cons_succ, i64_w, i32_w]
              rfl
             refine run_ [(0, 4, 31, some 45)] ?_
             repeat ((apply tag0; refine run_p (v := ?_) (a' := ?_) rfl rfl (by kernel_rfl) (fun _ _ _ h => h) (by rfl) ?_ ?_ ?_; rotate_left 2; (intro w'; go_simp; with_reducible rfl); (first | (simp only [Act.put, List.setIfInBounds_toArray, List.set_cons_zero, List.set_cons_succ, i64_w, i32_w]; rfl) | rfl)))
             refine run_nil ?_
             refine done_ (by kernel_rfl) ?_
             have hcz53_0 := cz BK508 0
             have hcz53_1 := cz BK508 1
             have hfz53_0 := fz BK508 0
             have hfz53_1 := fz BK508 1
             try go_wp2_with (first | ((with_reducible refine gate_callee (f := 24) rfl ?_); refine goC (N := some 48) Tryd.func24 #[.agg #[.int .i64 t504, .slice Ao45 t505.length co45], .int .i64 1] rfl ?_; (with_reducible refine (laws_markPuzzle.calls k t504 (fun k_ => some k_ = (.slice Ao45 t505.length co45 : Value).ownBlock) (.slice Ao45 t505.length co45) t505 1 t519 t520 w _ ?side1 ?side2 A17.out).mono ?_); (case side1 => repeat (first | (with_reducible first | exact HB.out | apply below_alloc | apply pw_below_drewN | apply below_drew1 | refine below_set ?_ GE494.out | refine below_set ?_ GE508.out) | exact HB.out)); (case side2 => exact Kd.R_tight rfl (rU HO507)); rintro e w54 ⟨rfl, hy0, hb, hkp⟩; refine ⟨_, rfl, ?_⟩; have n0_ := Aside0.mk (blk_kept bK hkp (fun hs_ => (fun e_ => (Kd.R_ne HO507.out BK494.out (by decide)) e_) hs_)); have n1_ := Aside0.mk (Kd.R_mono (ok' := fun k_ => some k_ ≠ (.slice Ao45 t505.length co45 : Value).ownBlock ∧ some k_ ≠ (.slice Ao51 t515.length co51 : Value).ownBlock) (Kd.R_keptB (rU HO499) hkp (fun k_ hk_ hs_ => pjn hk_ hs_)) (fun k_ hk_ => pj hk_)); have n2_ := Aside0.mk (Kd.R_mono (ok' := fun k_ => some k_ ≠ (.slice Ao47 t509.length co47 : Value).ownBlock) (Kd.R_keptB ((Kd.R_apart' (rU HO502) (Kd.R_typed (rU HO507)) (by decide))) hkp (fun k_ hk_ hs_ => pjn hk_ hs_)) (fun k_ hk_ => pj hk_)); have n3_ := Aside0.mk (Kd.R_reok rfl hy0 (fun k_ e_ => HO507.out.1 k_ e_)); have n4_ := Aside0.mk (blk_kept bK hkp (fun hs_ => (fun e_ => (Kd.R_ne HO507.out BK508.out (by decide)) e_) hs_)); have n5_ := Aside0.mk (Kd.R_mono (ok' := fun k_ => some k_ ≠ (.slice Ao48 t500.length co48 : Value).ownBlock) (Kd.R_keptB ((Kd.R_apart' (rU HO511) (Kd.R_typed (rU HO507)) (by decide))) hkp (fun k_ hk_ hs_ => pjn hk_ hs_)) (fun k_ hk_ => pj hk_)); have n6_ := Aside0.mk (Kd.R_mono (ok' := fun k_ => some k_ ≠ (.slice Ao38 t497.length co38 : Value).ownBlock ∧ some k_ ≠ (.slice Ao45 t505.length co45 : Value).ownBlock) (Kd.R_keptB (rU HO517) hkp (fun k_ hk_ hs_ => pjn hk_ hs_)) (fun k_ hk_ => pj hk_)); have n7_ := Aside0.mk (hb); clear BK494; clear HO499; clear HO502; clear HO507; clear BK508; clear HO511; clear HO517; clear HB; have BK494 := n0_; have HO499 := n1_; have HO502 := n2_; have HO507 := n3_; have BK508 := n4_; have HO511 := n5_; have HO517 := n6_; have HB := n7_; clear n0_ n1_ n2_ n3_ n4_ n5_ n6_ n7_; (try clear hb); (try clear hkp); (try clear hy0)) | (go_at_call 34; (with_reducible refine (laws_eqIntS.calls k _ _ t509 _ _ t500 true _ ?side1 ?side2 ?side3 ?side4 A19.out).mono ?_); (case side1 => exact cS (Kd.R_reads' HO511.out).2.2); (case side2 => exact (Kd.R_reads' HO511.out).2.1); (case side3 => exact cS (Kd.R_reads' HO502.out).2.2); (case side4 => exact (Kd.R_reads' HO502.out).2.1); rintro e w' ⟨rfl, ⟨nd, rfl⟩⟩) | ((with_reducible refine gate_callee (f := 35) rfl ?_); refine goC (N := some 64) Tryd.func35 #[.slice Ao47 t509.length co47, .int .i64 1] rfl ?_; (with_reducible refine (laws_markIntS.calls k (fun k_ => some k_ = (.slice Ao47 t509.length co47 : Value).ownBlock) (.slice Ao47 t509.length co47) t509 1 t522 t523 w _ ?side1 ?side2 A21.out).mono ?_); (case side1 => repeat (first | (with_reducible first | exact HB.out | apply below_alloc | apply pw_below_drewN | apply below_drew1 | refine below_set ?_ GE494.out | refine below_set ?_ GE508.out) | exact HB.out)); (case side2 => exact Kd.R_tight rfl (rU HO511)); rintro e w55 ⟨rfl, hy0, hb, hkp⟩; refine ⟨_, rfl, ?_⟩; have n0_ := Aside0.mk (blk_kept bK hkp (fun hs_ => (fun e_ => (Kd.R_ne HO511.out BK494.out (by decide)) e_) hs_)); have n1_ := Aside0.mk (Kd.R_mono (ok' := fun k_ => some k_ ≠ (.slice Ao45 t505.length co45 : Value).ownBlock ∧ some k_ ≠ (.slice Ao51 t515.length co51 : Value).ownBlock) (Kd.R_keptB ((Kd.R_apart' (rU HO499) (Kd.R_typed (rU HO511)) (by decide))) hkp (fun k_ hk_ hs_ => pjn hk_ hs_)) (fun k_ hk_ => pj hk_)); have n2_ := Aside0.mk (Kd.R_mono (ok' := fun k_ => some k_ ≠ (.slice Ao47 t509.length co47 : Value).ownBlock) (Kd.R_keptB (rU HO502) hkp (fun k_ hk_ hs_ => pjn hk_ hs_)) (fun k_ hk_ => pj hk_)); have n3_ := Aside0.mk (Kd.R_mono (ok' := fun k_ => some k_ ≠ (.slice Ao38 t497.length co38 : Value).ownBlock ∧ some k_ ≠ (.slice Ao51 t515.length co51 : Value).ownBlock) (Kd.R_keptB ((Kd.R_apart' (rU HO507) (Kd.R_typed (rU HO511)) (by decide))) hkp (fun k_ hk_ hs_ => pjn hk_ hs_)) (fun k_ hk_ => pj hk_)); have n4_ := Aside0.mk (blk_kept bK hkp (fun hs_ => (fun e_ => (Kd.R_ne HO511.out BK508.out (by decide)) e_) hs_)); have n5_ := Aside0.mk (Kd.R_reok rfl hy0 (fun k_ e_ => HO511.out.1 k_ e_)); have n6_ := Aside0.mk (Kd.R_mono (ok' := fun k_ => some k_ ≠ (.slice Ao38 t497.length co38 : Value).ownBlock ∧ some k_ ≠ (.slice Ao45 t505.length co45 : Value).ownBlock) (Kd.R_keptB ((Kd.R_apart' (rU HO517) (Kd.R_typed (rU HO511)) (by decide))) hkp (fun k_ hk_ hs_ => pjn hk_ hs_)) (fun k_ hk_ => pj hk_)); have n7_ := Aside0.mk (hb); clear BK494; clear HO499; clear HO502; clear HO507; clear BK508; clear HO511; clear HO517; clear HB; have BK494 := n0_; have HO499 := n1_; have HO502 := n2_; have HO507 := n3_; have BK508 := n4_; have HO511 := n5_; have HO517 := n6_; have HB := n7_; clear n0_ n1_ n2_ n3_ n4_ n5_ n6_ n7_; (try clear hb); (try clear hkp); (try clear hy0)) | ((with_reducible refine gate_callee (f := 36) rfl ?_); refine goesL_ (some 67) rfl rfl Tryd.func36 (by kernel_rfl) rfl #[.slice Ao47 t523.length co47, .int .i64 1] rfl (by (try simp only [List.map_toArray, List.map_cons, List.map_nil]); first | done | (rw [show t523.length = t509.length from (Kd.R_reads' HO511.out).1.symm] <;> rfl) | rfl | (simp only [List.length_drop, List.length_take]; rfl)) ?_; (with_reducible refine (laws_heldIntS.calls k _ _ t523 1 t524 _ ?side1 ?side2 A22.out).mono ?_); (case side1 => exact cS (Kd.R_reads' HO511.out).2.2); (case side2 => rw [show t523.length = t509.length from (Kd.R_reads' HO511.out).1.symm]; exact (Kd.R_reads' HO511.out).2.1); rintro e w' ⟨rfl, ⟨nd, rfl⟩⟩; refine ⟨_, rfl, ?_⟩; have hcz56_0 := cz BK494 0; have hcz56_1 := cz BK494 1; have hfz56_0 := fz BK494 0; have hfz56_1 := fz BK494 1) | ((with_reducible refine gate_callee (f := 28) rfl ?_); refine goC (N := some 75) Tryd.func28 #[.agg #[.int .i64 a0_0, .slice A0_1 l0_1.length c0_1]] rfl ?_; (with_reducible refine (laws_toPuzzle.calls k a0_0 _ _ l0_1 t525 t526 _ ?side1 ?side2 A25.out).mono ?_); (case side1 => repeat (first | exact (Kd.C_below HR0_1.out hB) | (with_reducible refine Kd.C_alloc ?_ _) | (with_reducible refine Kd.C_drewN ?_ _) | (with_reducible refine Kd.C_drew ?_))); (case side2 => exact HC0_1.out); rintro e w57 ⟨v527, rfl, ho0, hb⟩; refine ⟨_, rfl, ?_⟩; have HO528 := Aside0.mk (Kd.R_lower (Kd.R_new' (Kd.R_new' (Kd.R_new' ho0 (Kd.R_lt (rU HO499))) (Kd.R_lt (rU HO507))) (Kd.R_lt (rU HO517))) (below_size hB)); replace HO499 := Aside0.mk (Kd.R_elder' (rU HO499) (Kd.R_base ho0) hb); replace HO502 := Aside0.mk (Kd.R_below (rU HO502) hb); replace HO507 := Aside0.mk (Kd.R_elder' (rU HO507) (Kd.R_base ho0) hb); replace HO511 := Aside0.mk (Kd.R_below (rU HO511) hb); replace HO517 := Aside0.mk (Kd.R_elder' (rU HO517) (Kd.R_base ho0) hb); replace BK494 := bS BK494 hb; replace BK508 := bS BK508 hb; replace HB := hS HB hb; (try clear hb); (try clear hb2); (try clear hk); (try clear hi); (try clear ho0); obtain ⟨Ao58, co58, eo58⟩ := Kd.R_slice HO528.out; subst eo58) | ((with_reducible refine gate_callee (f := 38) rfl ?_); refine goC (N := some 76) Tryd.func38 #[.agg #[.int .i64 t525, .slice Ao58 t526.length co58]] rfl ?_; (with_reducible refine (impl_NeedlessClues.calls k t525 _ _ t526 t529 t532 _ ?side1 ?side2 A26.out).mono ?_); (case side1 => exact cS (Kd.R_reads' HO528.out).2.2); (case side2 => exact (Kd.R_reads' HO528.out).2.1); rintro e w59 ⟨v530, rfl, ho0, hb⟩; refine ⟨_, rfl, ?_⟩; have HO531 := Aside0.mk (Kd.R_lower (Kd.R_new' (Kd.R_new' ho0 (Kd.R_lt (rU HO502))) (Kd.R_lt (rU HO511))) (below_size hB)); replace HO499 := Aside0.mk (Kd.R_below (rU HO499) hb); replace HO502 := Aside0.mk (Kd.R_elder' (rU HO502) (Kd.R_base ho0) hb); replace HO507 := Aside0.mk (Kd.R_below (rU HO507) hb); replace HO511 := Aside0.mk (Kd.R_elder' (rU HO511) (Kd.R_base ho0) hb); replace HO517 := Aside0.mk (Kd.R_below (rU HO517) hb); replace HO528 := Aside0.mk (Kd.R_below (rU HO528) hb); replace BK494 := bS BK494 hb; replace BK508 := bS BK508 hb; replace HB := hS HB hb; (try clear hb); (try clear hb2); (try clear hk); (try clear hi); (try clear ho0); obtain ⟨Ao60, co60, eo60⟩ := Kd.R_slice HO531.out; subst eo60) | ((with_reducible refine gate_callee (f := 34) rfl ?_); refine goC (N := some 81) Tryd.func34 #[.slice Ao60 t529.length co60, .slice Ao48 t500.length co48] rfl ?_; (with_reducible refine (laws_eqIntS.calls k _ _ t529 _ _ t500 true _ ?side1 ?side2 ?side3 ?side4 A27.out).mono ?_); (case side1 => exact cS (Kd.R_reads' HO531.out).2.2); (case side2 => exact (Kd.R_reads' HO531.out).2.1); (case side3 => exact cS (Kd.R_reads' HO502.out).2.2); (case side4 => exact (Kd.R_reads' HO502.out).2.1); rintro e w' ⟨rfl, ⟨nd, rfl⟩⟩; refine ⟨_, rfl, ?_⟩) | ((with_reducible refine gate_callee (f := 36) rfl ?_); refine goesL_ (some 90) rfl rfl Tryd.func36 (by kernel_rfl) rfl #[.slice Ao47 t523.length co47, .int .i64 1] rfl (by (try simp only [List.map_toArray, List.map_cons, List.map_nil]); first | done | (rw [show t523.length = t509.length from (Kd.R_reads' HO511.out).1.symm] <;> rfl) | rfl | (simp only [List.length_drop, List.length_take]; rfl)) ?_; (with_reducible refine (laws_heldIntS.calls k _ _ t523 1 t534 _ ?side1 ?side2 A30.out).mono ?_); (case side1 => exact cS (Kd.R_reads' HO511.out).2.2); (case side2 => rw [show t523.length = t509.length from (Kd.R_reads' HO511.out).1.symm]; exact (Kd.R_reads' HO511.out).2.1); rintro e w' ⟨rfl, ⟨nd, rfl⟩⟩; refine ⟨_, rfl, ?_⟩))
             go_ret
             exact ⟨by first | rfl | (simp [errW_none, errW_some] <;> rfl) | (simp [*, errW_none, errW_some] <;> rfl), hB⟩
            ·rw [if_neg c32] at H
             exact absurd H (by simp)
         ·replace c28 := Bool.eq_false_iff.mpr c28
          subst c28
          have H1 : (none) = some r := by rw [if_neg (show ¬ (false = true) by decide)] at H; exact H
          clear H
          have H := H1
          clear H1
          exact absurd H (by simp)
        ·rw [if_neg c24] at H
         exact absurd H (by simp)
      ·replace c20 := Bool.eq_false_iff.mpr c20
       subst c20
       have H1 : (none) = some r := by rw [if_neg (show ¬ (false = true) by decide)] at H; exact H
       clear H
       have H := H1
       clear H1
       exact absurd H (by simp)
    ·replace c16 := Bool.eq_false_iff.mpr c16
     subst c16
     have H1 : (none) = some r := by rw [if_neg (show ¬ (false = true) by decide)] at H; exact H
     clear H
     have H := H1
     clear H1
     exact absurd H (by simp)
  ·replace c12 := Bool.eq_false_iff.mpr c12
   subst c12
   have H1 : (none) = some r := by rw [if_neg (show ¬ (false = true) by decide)] at H; exact H
   clear H
   have H := H1
   clear H1
   exact absurd H (by simp)

end Go.Proofs.YtdnkipagpagfiaaDoor.PSol2
