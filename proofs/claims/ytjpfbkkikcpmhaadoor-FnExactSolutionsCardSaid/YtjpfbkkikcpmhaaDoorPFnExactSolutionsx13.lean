-- Of this session's own program wip/gen/gen.py (it drives the kit's print): contracts of the functions that the law reaches.
import Derived.Test.YtjpfbkkikcpmhaaDoorPFnExactSolutionsx0
import Derived.Test.YtjpfbkkikcpmhaaDoorPFnExactSolutionsx10
import Derived.Test.YtjpfbkkikcpmhaaDoorPFnExactSolutionsx11
import Derived.Test.YtjpfbkkikcpmhaaDoorPFnExactSolutionsx12
namespace Go.Proofs.YtjpfbkkikcpmhaaDoor.PFnExactSolutions
open Go.RowKit Go.Proofs.YtjpfbkkikcpmhaaDoorW.PrintWords Go.Proofs.YtjpfbkkikcpmhaaDoorW.PrintLast Go.Proofs.YtjpfbkkikcpmhaaDoorW.PrintMore Go.Proofs.YtjpfbkkikcpmhaaDoor.Base
attribute [local go_sem] max2_int min2_int max_two min_two max_three min_three max_four min_four   -- for this text's walks alone
set_option linter.unusedVariables false
set_option linter.unusedSimpArgs false

/-! ### impl_Clue_fits: function 139 -/
def impl_Clue_fits.j0 : Nat → List Int → Int → Bool → Int → Int → Int → Option (Bool)
 | 0, _, _, _, _, _, _ => none
 | k + 1, x1, x6, x7, x437000, x437001, x437002 => if x7 = true then ((impl_table_has.f x1 x437001 x437002).bind fun t437 => (some (t437 == (x437000 == 0)))) else (if x6 = 2 then ((impl_toldOf.f k 2 x437001 x1).bind fun t438 => (some (t438 == x437002))) else ((impl_toldOf.f k x437000 0 x1).bind fun t439 => (some (t439 == x437001))))
def impl_Clue_fits.f (k : Nat) (a0_0 : Int) (a0_1 : Int) (a0_2 : Int) (l1 : List Int) : Option (Bool) := if a0_0 = 0 then (impl_Clue_fits.j0 k l1 a0_0 (a0_0 == 0) a0_0 a0_1 a0_2) else (impl_Clue_fits.j0 k l1 a0_0 (a0_0 == 1) a0_0 a0_1 a0_2)
theorem impl_Clue_fits.mono_l : ∀ k, (∀ y0 y1 y2 y3 y4 y5, LeO (impl_Clue_fits.j0 k y0 y1 y2 y3 y4 y5) (impl_Clue_fits.j0 (k + 1) y0 y1 y2 y3 y4 y5))
 | 0 => fun _ _ _ _ _ _ r h => by simp [impl_Clue_fits.j0] at h
 | k + 1 => by
  have ih0 := impl_Clue_fits.mono_l k
  ·intro y0 y1 y2 y3 y4 y5
   unfold impl_Clue_fits.j0
   repeat' first
   | (with_reducible exact ih0 _ _ _ _ _ _)
   | (with_reducible exact impl_toldOf.mono _ _ _ _)
   | (with_reducible exact LeO.refl _)
   | (with_reducible exact LeO.none _)
   | (with_reducible refine LeO.ite ?_ ?_)
   | (with_reducible refine LeO.bind ?_ (fun _ => ?_))
   | exact ih0 _ _ _ _ _ _
   | exact impl_toldOf.mono _ _ _ _
   | exact LeO.none _
   | refine LeO.ite ?_ ?_
   | refine LeO.bind ?_ (fun _ => ?_)
theorem impl_Clue_fits.mono : ∀ a0 a1 a2 a3 k, LeO (impl_Clue_fits.f k a0 a1 a2 a3) (impl_Clue_fits.f (k + 1) a0 a1 a2 a3) := by
 intro a0 a1 a2 a3 k
 have ih0 := impl_Clue_fits.mono_l k
 unfold impl_Clue_fits.f
 repeat' first
   | (with_reducible exact ih0 _ _ _ _ _ _)
   | (with_reducible exact impl_toldOf.mono _ _ _ _)
   | (with_reducible exact LeO.refl _)
   | (with_reducible exact LeO.none _)
   | (with_reducible refine LeO.ite ?_ ?_)
   | (with_reducible refine LeO.bind ?_ (fun _ => ?_))
   | exact ih0 _ _ _ _ _ _
   | exact impl_toldOf.mono _ _ _ _
   | exact LeO.none _
   | refine LeO.ite ?_ ?_
   | refine LeO.bind ?_ (fun _ => ?_)
def impl_Clue_fits.T4 : Bool × List (List Nat × List Nat) := (true, [([], []), ([], []), ([1], [1]), ([], []), ([3], [3]), ([0, 2, 4], [0, 2, 4]), ([], []), ([6], [6]), ([7], [7]), ([5, 8], [5, 8]), ([9, 5, 0, 1, 2, 3, 4, 5, 6, 7, 8, 9], [9])])
def impl_Clue_fits.B4 : List Nat := [0, 0, 2, 0, 8, 31, 0, 64, 192, 511, 1023]
theorem impl_Clue_fits.tab4 : rtab .any (opsOf Tryd.f139 4) = impl_Clue_fits.T4 := by kernel_rfl
theorem impl_Clue_fits.bits4 : waitsOk impl_Clue_fits.T4.2 impl_Clue_fits.B4 = true := by kernel_rfl
def impl_Clue_fits.T6 : Bool × List (List Nat × List Nat) := (true, [([], []), ([0], [0]), ([], []), ([1, 2], [1, 2]), ([], []), ([4], [4]), ([3, 5], [3, 5]), ([6, 3, 0, 1, 2, 3, 4, 5, 6], [6])])
def impl_Clue_fits.B6 : List Nat := [0, 1, 0, 7, 0, 16, 63, 127]
theorem impl_Clue_fits.tab6 : rtab .any (opsOf Tryd.f139 6) = impl_Clue_fits.T6 := by kernel_rfl
theorem impl_Clue_fits.bits6 : waitsOk impl_Clue_fits.T6.2 impl_Clue_fits.B6 = true := by kernel_rfl
def impl_Clue_fits.T7 : Bool × List (List Nat × List Nat) := (true, [([], []), ([0], [0]), ([], []), ([1, 2], [1, 2]), ([], []), ([4], [4]), ([3, 5], [3, 5]), ([6, 3, 0, 1, 2, 3, 4, 5, 6], [6])])
def impl_Clue_fits.B7 : List Nat := [0, 1, 0, 7, 0, 16, 63, 127]
theorem impl_Clue_fits.tab7 : rtab .any (opsOf Tryd.f139 7) = impl_Clue_fits.T7 := by kernel_rfl
theorem impl_Clue_fits.bits7 : waitsOk impl_Clue_fits.T7.2 impl_Clue_fits.B7 = true := by kernel_rfl
set_option maxHeartbeats 8000000 in
set_option maxRecDepth 100000 in
theorem impl_Clue_fits.calls (k : Nat) (a0_0 : Int) (a0_1 : Int) (a0_2 : Int) (A1 : Option Addr) (c1 : Nat) (l1 : List Int) (r : Bool) (w : World) (hr1 : Kd.C (Kd.int .u16) w A1 l1.length l1) (hc1 : l1.length ≤ c1) (h : impl_Clue_fits.f k a0_0 a0_1 a0_2 l1 = some r) (hG : GTab 0 w := by first | exact Aside0.out ‹Aside0 (GTab _ _)› | exact GTab.up (Aside0.out ‹Aside0 (GTab _ _)›) (by repeat (first | (with_reducible first | exact Below.refl _ _ | exact Aside0.out ‹Aside0 (Below _ _ _)› | apply below_alloc | apply pw_below_drewN | apply below_drew1 | refine below_set ?_ (Aside0.out (by assumption))) | exact Aside0.out ‹Aside0 (Below _ _ _)›))) :
  Calls Tryd.prog 139 #[.agg #[.int .i64 a0_0, .int .i64 a0_1, .int .i64 a0_2], .slice A1 l1.length c1] w fun e w' => e = .returned (.bool r) ∧ Below w.heap.size w w' := by
 have hu70 := Tryd.underlying70
 have HG := Aside0.mk (p := GTab _ _) hG
 clear hG
 have HR1 := Aside0.mk hr1
 have HC1 := Aside0.mk hc1
 clear hr1 hc1
 have HB := Aside0.mk (Below.refl w.heap.size w)
 have H : (if a0_0 = 0 then (impl_Clue_fits.j0 k l1 a0_0 (a0_0 == 0) a0_0 a0_1 a0_2) else (impl_Clue_fits.j0 k l1 a0_0 (a0_0 == 1) a0_0 a0_1 a0_2)) = some r := h
 clear h
 have HC3 := Aside0.mk H
 clear H
 go_enter Tryd.func139, Tryd.ntmps139
 go_upto_if 7 with (first | ((with_reducible refine gate_dst (N := 2) rfl ?_); refine bxE 2 #[.int .i64 a0_0, .int .i64 a0_1, .int .i64 a0_2] 70 rfl ?_; intro gb436 hg w4 hbox hb; have BK436 := Aside0.mk (hbox); have GW436 := gS HB hg; have GE436 := gS HB hg; replace HB := hS HB hb; clear hb hbox hg; have hcz5_0 := cz BK436 0; have hcz5_1 := cz BK436 1; have hcz5_2 := cz BK436 2; have hfz5_0 := fz BK436 0; have hfz5_1 := fz BK436 1; have hfz5_2 := fz BK436 2))
 (try simp only [Act.put, List.setIfInBounds_toArray, List.set_cons_zero, List.set_cons_succ])
 go_cut [7] (fun v7 wc => ∃ (kq : Nat) (x7_2 : Bool), v7 = .bool x7_2 ∧ Aside0 (impl_Clue_fits.j0 kq l1 a0_0 x7_2 a0_0 a0_1 a0_2 = some r) ∧ Aside0 (kq ≤ k) ∧ Aside0 (wc.heap[gb436]? = some (.cells #[.int .i64 a0_0, .int .i64 a0_1, .int .i64 a0_2] 70 (0, 0))) ∧ Aside0 (Below w.heap.size w wc))
 case first =>
  have H := HC3.out
  clear HC3
  by_cases c6 : a0_0 = 0
  ·rw [if_pos c6] at H
   have c6b0 : (a0_0 == 0) = true := beq_iff_eq.mpr c6
   have c6b1 : (a0_0 != 0) = false := bne_eq_false_iff_eq.mpr c6
   clear c6
   (first | rw [c6b0] | (simp only [i64_w, i32_w]; rw [c6b0]) | skip)
   have H' := Aside0.mk H
   clear H
   go_wp2
   go_meet
   case rel => exact ⟨_, ((a0_0 == 0)), (by first | rfl | (simp; done) | (simp [*]; done)), H', ⟨by first | omega | exact Nat.le_refl _⟩, ⟨bK⟩, ⟨hB⟩⟩
  ·rw [if_neg c6] at H
   have c6b0 : (a0_0 == 0) = false := beq_eq_false_iff_ne.mpr c6
   have c6b1 : (a0_0 != 0) = true := bne_iff_ne.mpr c6
   (first | rw [c6b0] | (simp only [i64_w, i32_w]; rw [c6b0]) | skip)
   have H' := Aside0.mk H
   clear H
   go_wp2
   go_meet
   case rel => exact ⟨_, ((a0_0 == 1)), (by first | rfl | (simp; done) | (simp [*]; done)), H', ⟨by first | omega | exact Nat.le_refl _⟩, ⟨bK⟩, ⟨hB⟩⟩
 case rest =>
  clear HC3
  try clear c1
  try clear p2
  try clear c6
  try clear c6b0
  try clear c6b1
  try clear hcz5_0
  try clear hcz5_1
  try clear hcz5_2
  try clear hfz5_0
  try clear hfz5_1
  try clear hfz5_2
  obtain ⟨kq, x7_2, rfl, HA, HJ2, BK436, HB⟩ := hcut
  cases kq with
  | zero => exact absurd HA.out (by simp [impl_Clue_fits.j0])
  | succ kj2 =>
   have H := HA.out
   clear HA
   simp only [impl_Clue_fits.j0] at H
   by_cases c7 : x7_2 = true
   ·subst c7
    rw [if_pos rfl] at H
    replace H := Option.bind_eq_some_iff.mp H
    obtain ⟨t437, A80, H⟩ := H
    replace H : (some (t437 == (a0_0 == 0))) = some r := H
    have A8 := Aside0.mk A80
    clear A80
    obtain rfl := Option.some.inj H
    try go_wp2
    replace BK436 := Aside0.mk (blk_drew BK436.out)
    replace HB := Aside0.mk (below_drew1 HB.out)
    refine start_ (n := 11) (S := fun w' => w'.cell? ⟨gb436, 0, none⟩ = some (.int .i64 a0_0) ∧ w'.cell? ⟨gb436, 1, none⟩ = some (.int .i64 a0_1) ∧ w'.cell? ⟨gb436, 2, none⟩ = some (.int .i64 a0_2)) (ds := []) (bz 11 0) (by kernel_rfl) rfl rfl ⟨(blk_cell BK436.out 0).trans rfl, (blk_cell BK436.out 1).trans rfl, (blk_cell BK436.out 2).trans rfl⟩ (fun hHeld => ?_); refine with_tabW impl_Clue_fits.tab4 impl_Clue_fits.bits4 (fun HT_ HW_ => ?_)
    generalize wc.drew = w9 at BK436 HB hHeld ⊢
    refine run_ [(0, 0, 1, some 10), (0, 1, 3, some 11), (0, 3, 11, some 13), (0, 6, 75, some 16), (1, 2, 79, some 12), (1, 4, 95, some 14), (1, 7, 223, some 17), (0, 8, 479, some 18)] ?_
    repeat (first | (apply tag0; refine run_p (v := ?_) (a' := ?_) rfl rfl (any_of HT_.out (by kernel_rfl)) (fun _ _ _ h => h) (by rfl) ?_ ?_ ?_; rotate_left 2; (intro w'; go_simp; with_reducible rfl); (first | (simp only [Act.put, List.setIfInBounds_toArray, List.set_cons_zero, List.set_cons_succ, i64_w, i32_w]; rfl) | rfl)) | (apply tag1; refine run_t (v := ?_) (a' := ?_) rfl rfl (take_ofW HT_.out HW_.out (by kernel_rfl)) (fun _ _ _ h => h) (by rfl) ?_ hHeld ?_ ?_; rotate_left 2; (rintro w' ⟨s0, s1, s2⟩; go_simp; with_reducible rfl); (first | (simp only [Act.put, List.setIfInBounds_toArray, List.set_cons_zero, List.set_cons_succ, i64_w, i32_w]; rfl) | rfl)))
    refine run_nil ?_
    refine one_ (i := 5) (N := some 15) (bz 11 511) rfl rfl (one_of HT_.out (by kernel_rfl)) (by decide) (fun K hK => ?_)
    refine goes_ Tryd.func64 (by kernel_rfl) rfl #[.slice A1 l1.length c1, .int .i64 a0_1, .int .i64 a0_2] (by rfl) rfl rfl mapT ?_
    with_reducible refine (impl_table_has.calls _ _ l1 a0_1 a0_2 t437 _ ?side1 ?side2 A8.out).mono ?_
    (case side1 => exact cS (Kd.C_below HR1.out HB.out))
    (case side2 => exact HC1.out)
    rintro e w' ⟨rfl, ⟨nd, rfl⟩⟩
    refine ⟨_, rfl, ?_⟩
    refine hK.out _ _ ⟨(blk_cell BK436.out 0).trans rfl, (blk_cell BK436.out 1).trans rfl, (blk_cell BK436.out 2).trans rfl⟩ (fun hHeld => ?_)
    clear hK K
    refine norm_ (a' := ?_) ?_ ?_
    rotate_left
    ·show Act.put _ (some 15) _ = _
     simp only [Act.put, List.setIfInBounds_toArray, List.set_cons_zero, List.set_cons_succ, i64_w, i32_w]
     rfl
    refine run_ [(0, 9, 1023, some 19), (0, 10, 2047, some 4)] ?_
    repeat ((apply tag0; refine run_p (v := ?_) (a' := ?_) rfl rfl (any_of HT_.out (by kernel_rfl)) (fun _ _ _ h => h) (by rfl) ?_ ?_ ?_; rotate_left 2; (intro w'; go_simp; with_reducible rfl); (first | (simp only [Act.put, List.setIfInBounds_toArray, List.set_cons_zero, List.set_cons_succ, i64_w, i32_w]; rfl) | rfl)))
    refine run_nil ?_
    refine done_ (done_of HT_.out (by kernel_rfl)) ?_
    try go_wp2
    go_ret
    exact ⟨by first | rfl | (simp [errW_none, errW_some] <;> rfl) | (simp [*, errW_none, errW_some] <;> rfl), hB⟩
   ·replace c7 := Bool.eq_false_iff.mpr c7
    subst c7
    rw [if_neg (show ¬ (false = true) by decide)] at H
    by_cases c10 : a0_0 = 2
    ·rw [if_pos c10] at H
     have c10b0 : (a0_0 == 2) = true := beq_iff_eq.mpr c10
     have c10b1 : (a0_0 != 2) = false := bne_eq_false_iff_eq.mpr c10
     clear c10
     replace H := Option.bind_eq_some_iff.mp H
     obtain ⟨t438, A110, H⟩ := H
     replace H : (some (t438 == a0_2)) = some r := H
     have A11 := Aside0.mk A110
     clear A110
     obtain rfl := Option.some.inj H
     try go_wp2
     replace BK436 := Aside0.mk (blk_drew BK436.out)
     replace HB := Aside0.mk (below_drew1 HB.out)
     refine start_ (n := 8) (S := fun w' => w'.cell? ⟨gb436, 0, none⟩ = some (.int .i64 a0_0) ∧ w'.cell? ⟨gb436, 1, none⟩ = some (.int .i64 a0_1) ∧ w'.cell? ⟨gb436, 2, none⟩ = some (.int .i64 a0_2)) (ds := []) (bz 8 0) (by kernel_rfl) rfl rfl ⟨(blk_cell BK436.out 0).trans rfl, (blk_cell BK436.out 1).trans rfl, (blk_cell BK436.out 2).trans rfl⟩ (fun hHeld => ?_); refine with_tabW impl_Clue_fits.tab6 impl_Clue_fits.bits6 (fun HT_ HW_ => ?_)
     generalize wc.drew = w12 at BK436 HB hHeld ⊢
     refine run_ [(0, 0, 1, some 22), (0, 2, 5, some 24), (0, 4, 21, some 26), (1, 1, 23, some 23), (1, 5, 55, some 27)] ?_
     repeat (first | (apply tag0; refine run_p (v := ?_) (a' := ?_) rfl rfl (any_of HT_.out (by kernel_rfl)) (fun _ _ _ h => h) (by rfl) ?_ ?_ ?_; rotate_left 2; (intro w'; go_simp; with_reducible rfl); (first | (simp only [Act.put, List.setIfInBounds_toArray, List.set_cons_zero, List.set_cons_succ, i64_w, i32_w]; rfl) | rfl)) | (apply tag1; refine run_t (v := ?_) (a' := ?_) rfl rfl (take_ofW HT_.out HW_.out (by kernel_rfl)) (fun _ _ _ h => h) (by rfl) ?_ hHeld ?_ ?_; rotate_left 2; (rintro w' ⟨s0, s1, s2⟩; go_simp; with_reducible rfl); (first | (simp only [Act.put, List.setIfInBounds_toArray, List.set_cons_zero, List.set_cons_succ, i64_w, i32_w]; rfl) | rfl)))
     refine run_nil ?_
     refine one_ (i := 3) (N := some 25) (bz 8 63) rfl rfl (one_of HT_.out (by kernel_rfl)) (by decide) (fun K hK => ?_)
     refine goes_ Tryd.func65 (by kernel_rfl) rfl #[.int .i64 2, .int .i64 a0_1, .slice A1 l1.length c1] (by rfl) rfl rfl mapT ?_
     with_reducible refine (impl_toldOf.calls kj2 2 a0_1 _ _ l1 t438 _ ?side1 ?side2 A11.out).mono ?_
     (case side1 => exact cS (Kd.C_below HR1.out HB.out))
     (case side2 => exact HC1.out)
     rintro e w13 ⟨rfl, hb⟩
     refine ⟨_, rfl, ?_⟩
     replace BK436 := bS BK436 hb
     replace HB := hS HB hb
     (try clear hb)
     (try clear hb2)
     (try clear hk)
     (try clear hi)
     refine hK.out _ _ ⟨(blk_cell BK436.out 0).trans rfl, (blk_cell BK436.out 1).trans rfl, (blk_cell BK436.out 2).trans rfl⟩ (fun hHeld => ?_)
     clear hK K
     refine norm_ (a' := ?_) ?_ ?_
     rotate_left
     ·show Act.put _ (some 25) _ = _
      simp only [Act.put, List.setIfInBounds_toArray, List.set_cons_zero, List.set_cons_succ, i64_w, i32_w]
      rfl
     refine run_ [(0, 6, 127, some 28), (0, 7, 255, some 4)] ?_
     repeat ((apply tag0; refine run_p (v := ?_) (a' := ?_) rfl rfl (any_of HT_.out (by kernel_rfl)) (fun _ _ _ h => h) (by rfl) ?_ ?_ ?_; rotate_left 2; (intro w'; go_simp; with_reducible rfl); (first | (simp only [Act.put, List.setIfInBounds_toArray, List.set_cons_zero, List.set_cons_succ, i64_w, i32_w]; rfl) | rfl)))
     refine run_nil ?_
     refine done_ (done_of HT_.out (by kernel_rfl)) ?_
     try go_wp2
     go_ret
     exact ⟨by first | rfl | (simp [errW_none, errW_some] <;> rfl) | (simp [*, errW_none, errW_some] <;> rfl), hB⟩
    ·rw [if_neg c10] at H
     have c10b0 : (a0_0 == 2) = false := beq_eq_false_iff_ne.mpr c10
     have c10b1 : (a0_0 != 2) = true := bne_iff_ne.mpr c10
     replace H := Option.bind_eq_some_iff.mp H
     obtain ⟨t439, A140, H⟩ := H
     replace H : (some (t439 == a0_1)) = some r := H
     have A14 := Aside0.mk A140
     clear A140
     obtain rfl := Option.some.inj H
     try go_wp2
     replace BK436 := Aside0.mk (blk_drew BK436.out)
     replace HB := Aside0.mk (below_drew1 HB.out)
     refine start_ (n := 8) (S := fun w' => w'.cell? ⟨gb436, 0, none⟩ = some (.int .i64 a0_0) ∧ w'.cell? ⟨gb436, 1, none⟩ = some (.int .i64 a0_1) ∧ w'.cell? ⟨gb436, 2, none⟩ = some (.int .i64 a0_2)) (ds := []) (bz 8 0) (by kernel_rfl) rfl rfl ⟨(blk_cell BK436.out 0).trans rfl, (blk_cell BK436.out 1).trans rfl, (blk_cell BK436.out 2).trans rfl⟩ (fun hHeld => ?_); refine with_tabW impl_Clue_fits.tab7 impl_Clue_fits.bits7 (fun HT_ HW_ => ?_)
     generalize wc.drew = w15 at BK436 HB hHeld ⊢
     refine run_ [(0, 0, 1, some 29), (0, 2, 5, some 31), (0, 4, 21, some 33), (1, 1, 23, some 30), (1, 5, 55, some 34)] ?_
     repeat (first | (apply tag0; refine run_p (v := ?_) (a' := ?_) rfl rfl (any_of HT_.out (by kernel_rfl)) (fun _ _ _ h => h) (by rfl) ?_ ?_ ?_; rotate_left 2; (intro w'; go_simp; with_reducible rfl); (first | (simp only [Act.put, List.setIfInBounds_toArray, List.set_cons_zero, List.set_cons_succ, i64_w, i32_w]; rfl) | rfl)) | (apply tag1; refine run_t (v := ?_) (a' := ?_) rfl rfl (take_ofW HT_.out HW_.out (by kernel_rfl)) (fun _ _ _ h => h) (by rfl) ?_ hHeld ?_ ?_; rotate_left 2; (rintro w' ⟨s0, s1, s2⟩; go_simp; with_reducible rfl); (first | (simp only [Act.put, List.setIfInBounds_toArray, List.set_cons_zero, List.set_cons_succ, i64_w, i32_w]; rfl) | rfl)))
     refine run_nil ?_
     refine one_ (i := 3) (N := some 32) (bz 8 63) rfl rfl (one_of HT_.out (by kernel_rfl)) (by decide) (fun K hK => ?_)
     refine goes_ Tryd.func65 (by kernel_rfl) rfl #[.int .i64 a0_0, .int .i64 0, .slice A1 l1.length c1] (by rfl) rfl rfl mapT ?_
     with_reducible refine (impl_toldOf.calls kj2 a0_0 0 _ _ l1 t439 _ ?side1 ?side2 A14.out).mono ?_
     (case side1 => exact cS (Kd.C_below HR1.out HB.out))
     (case side2 => exact HC1.out)
     rintro e w16 ⟨rfl, hb⟩
     refine ⟨_, rfl, ?_⟩
     replace BK436 := bS BK436 hb
     replace HB := hS HB hb
     (try clear hb)
     (try clear hb2)
     (try clear hk)
     (try clear hi)
     refine hK.out _ _ ⟨(blk_cell BK436.out 0).trans rfl, (blk_cell BK436.out 1).trans rfl, (blk_cell BK436.out 2).trans rfl⟩ (fun hHeld => ?_)
     clear hK K
     refine norm_ (a' := ?_) ?_ ?_
     rotate_left
     ·show Act.put _ (some 32) _ = _
      simp only [Act.put, List.setIfInBounds_toArray, List.set_cons_zero, List.set_cons_succ, i64_w, i32_w]
      rfl
     refine run_ [(0, 6, 127, some 35), (0, 7, 255, some 4)] ?_
     repeat ((apply tag0; refine run_p (v := ?_) (a' := ?_) rfl rfl (any_of HT_.out (by kernel_rfl)) (fun _ _ _ h => h) (by rfl) ?_ ?_ ?_; rotate_left 2; (intro w'; go_simp; with_reducible rfl); (first | (simp only [Act.put, List.setIfInBounds_toArray, List.set_cons_zero, List.set_cons_succ, i64_w, i32_w]; rfl) | rfl)))
     refine run_nil ?_
     refine done_ (done_of HT_.out (by kernel_rfl)) ?_
     try go_wp2
     go_ret
     exact ⟨by first | rfl | (simp [errW_none, errW_some] <;> rfl) | (simp [*, errW_none, errW_some] <;> rfl), hB⟩

/-! ### impl_solutions_1_1: function 138 (a text of this session's own) -/
/-- All clues of a list are fit by a table. -/
def fitsAll (k : Nat) (t : List Int) : List S70 → Option Bool
  | [] => some true
  | c :: cs => (impl_Clue_fits.f k c.f0 c.f1 c.f2 t).bind fun b => (fitsAll k t cs).bind fun r => some (b && r)
theorem fitsAll.mono (t : List Int) : ∀ (cs : List S70) (k : Nat), LeO (fitsAll k t cs) (fitsAll (k + 1) t cs)
  | [], _ => LeO.refl _
  | _ :: cs, k => LeO.bind (impl_Clue_fits.mono _ _ _ _ k) (fun _ => LeO.bind (fitsAll.mono t cs k) (fun _ => LeO.refl _))
def fitP (k : Nat) (t : List Int) (c : S70) : Bool := (impl_Clue_fits.f k c.f0 c.f1 c.f2 t).getD false
theorem fitsAll.spec (k : Nat) (t : List Int) : ∀ (cs : List S70) (b : Bool), fitsAll k t cs = some b → (∀ c ∈ cs, impl_Clue_fits.f k c.f0 c.f1 c.f2 t = some (fitP k t c)) ∧ (cs.any fun c => !fitP k t c) = !b
  | [], b, h => by
    obtain rfl := Option.some.inj h
    simp
  | c :: cs, b, h => by
    unfold fitsAll at h
    replace h := Option.bind_eq_some_iff.mp h
    obtain ⟨x, hx, h⟩ := h
    replace h := Option.bind_eq_some_iff.mp h
    obtain ⟨y, hy, h⟩ := h
    obtain rfl := Option.some.inj h
    obtain ⟨h1, h2⟩ := fitsAll.spec k t cs y hy
    have hc : fitP k t c = x := by unfold fitP; rw [hx]; rfl
    refine ⟨fun z hz => ?_, ?_⟩
    · rcases List.mem_cons.1 hz with rfl | hz
      · rw [hx, hc]
      · exact h1 z hz
    · rw [List.any_cons, h2, hc]
      cases x <;> cases y <;> rfl
set_option maxHeartbeats 4000000 in
set_option maxRecDepth 100000 in
theorem impl_solutions_1_1.calls (k : Nat) (t : List Int) (At : Option Addr) (ct gt : Nat) (x : S70) (r : Bool) (w W : World) (hb : Below w.heap.size w W) (hw : w.heap[gt]? = some (.cells #[.slice At t.length ct] 81 (0, 0)))
    (hr : Kd.C (Kd.int .u16) w At t.length t) (hc : t.length ≤ ct) (h : impl_Clue_fits.f k x.f0 x.f1 x.f2 t = some r) (hG : GTab 0 w) :
    Calls Tryd.prog 138 #[.agg #[.int .i64 x.f0, .int .i64 x.f1, .int .i64 x.f2], .pointer (some ⟨gt, 0, none⟩)] W fun e w' => e = .returned (.bool (!r)) ∧ Below w.heap.size w w' := by
  have hu := Tryd.underlying70
  have hlt0 := blk_lt hw
  have hcell : W.cell? ⟨gt, 0, none⟩ = some (.slice At t.length ct) := (blk_cell (blk_below hw hb) 0).trans rfl
  have hlt : gt < W.heap.size := Nat.lt_of_lt_of_le hlt0 hb.size
  have HB := Aside0.mk hb
  have HG := Aside0.mk (GTab.up hG hb)
  have HR := Aside0.mk (Kd.C_below hr hb)
  have HH := Aside0.mk h
  have HCT := Aside0.mk hc
  clear hb hw hr hc h hG hlt0
  go_enter Tryd.func138, Tryd.ntmps138
  go_wp2_with (go_at_call 139; refine (impl_Clue_fits.calls k x.f0 x.f1 x.f2 At ct t r _ ?side1 HCT.out HH.out (GTab.up HG.out (below_alloc (Below.refl _ _) _))).mono ?_; (case side1 => repeat (first | exact HR.out | (with_reducible refine Kd.C_alloc ?_ _) | (with_reducible refine Kd.C_drewN ?_ _) | (with_reducible refine Kd.C_drew ?_))); rintro e w' ⟨rfl, hb⟩; have HB2 := Aside0.mk hb; clear hb)
  go_ret
  exact ⟨rfl, (HB.out.alloc (below_size HB.out) _).trans (HB2.out.mono (by have := below_size HB.out; simp; omega))⟩

/-! ### impl_Pair: function 140 (a text of this session's own) -/


def impl_Pair.f (l0 : List (S105)) : Option (List (S105)) := if l0.length < 8796093022208 then some l0 else none
set_option maxHeartbeats 8000000 in
set_option maxRecDepth 100000 in
theorem impl_Pair.calls (A0 : Option Addr) (c0 : Nat) (l0 : List (S105)) (r : List (S105)) (w : World) (hr0 : Kd.C k105 w A0 l0.length l0) (hc0 : l0.length ≤ c0) (h : impl_Pair.f l0 = some r) :
    Calls Tryd.prog 140 #[.slice A0 l0.length c0] w fun e w' => ∃ v0_ : Value, e = .returned (v0_) ∧ Kd.R k105 105 w' w.heap.size (fun _ => True) v0_ r ∧ Below w.heap.size w w' := by
  unfold impl_Pair.f at h
  by_cases c2 : l0.length < 8796093022208
  · rw [if_pos c2] at h
    obtain rfl := Option.some.inj h
    have heq := fun (w : World) (n : Nat) => Go.Lib.run_eql_slice_nil (P := Tryd.prog) w 31 105 A0 n c0 0 0 Tryd.underlying31
    cases A0 with
    | none =>
      obtain rfl : l0 = [] := by
        rcases l0 with _ | ⟨x, l⟩
        · rfl
        · obtain ⟨_, h, _⟩ := hr0.2.2 (by simp); cases h
      clear hr0 h c2
      go_enter Tryd.func140, Tryd.ntmps140
      go_wp2
      go_ret
      exact ⟨_, rfl, Kd.R_nil _ _ _ _ _, Below.refl _ _⟩
    | some ad =>
      have HR0 := Aside0.mk hr0
      have LM := Aside0.mk c2
      have HB := Aside0.mk (Below.refl w.heap.size w)
      have NL := Aside0.mk (List.nil_append l0)
      clear hr0 hc0 h c2
      go_enter Tryd.func140, Tryd.ntmps140
      go_wp2_with (first | ((with_reducible refine gate_dst (N := 5) rfl ?_); refine Kd.R_lit k105 _ 105 ?hg (N := 5) ?hd (xs := ([] : List (S105))) (inner := []) (ok := fun _ => True) (okp := fun _ => True) ?hr ?hp (fun _ hk => hk) trivial (Below.refl _ _) (Nat.le_refl _) (by simp) ?_; (case hd => rfl); (case hg => rfl); (case hr => first | (go_simp; done) | (go_simp; rfl)); (case hp => exact (Reps.none _ _)); intro v132 w3 ho4 hb hg_ hnew_; clear hg_ hnew_; have n0_ := Aside0.mk (Kd.R_lower ho4 (below_size (by repeat (first | (with_reducible first | exact HB.out | apply below_alloc | apply pw_below_drewN | apply below_drew1) | exact HB.out)))); have n1_ := Aside0.mk (below_step (by repeat (first | (with_reducible first | exact HB.out | apply below_alloc | apply pw_below_drewN | apply below_drew1) | exact HB.out)) hb); clear HB; have HO133 := n0_; have HB := n1_; clear n0_ n1_; clear hb ho4) | ((with_reducible refine gate_builtin (b := .append) (xs := #[.tmp 5, .tmp 6]) rfl ?_); at_builtin; refine Kd.R_append_rows k105 (Rr := k105.K w3) (w0 := w) w.heap.size rfl (.tmp 5) (.tmp 6) 31 105 (.agg #[(.int .i64 0), (.int .i64 0)]) 16 rfl Tryd.underlying31 info105 rfl (by decide) (by omega) v132 [] l0 _ _ _ (fun _ => True) (fun _ => False) rfl rfl ?aO ?aR ?aK (fun _ h => h.elim) ?aF ?aB ?aS ?aL ?_; (case aR => repeat (first | exact (Kd.C_below HR0.out HB.out) | (with_reducible refine Kd.C_alloc ?_ _) | (with_reducible refine Kd.C_drewN ?_ _) | (with_reducible refine Kd.C_drew ?_))); (case aK => intro x cs h; obtain rfl := k105_open h; exact k105_mkM _ _ _ x); (case aB => exact (by repeat (first | (with_reducible first | exact HB.out | apply below_alloc | apply pw_below_drewN | apply below_drew1) | exact HB.out))); (case aF => exact (fun _ _ => trivial)); (case aO => exact (by (with_reducible repeat (first | apply Kd.R_alloc | apply Kd.R_drewN | apply Kd.R_drew)); exact HO133.out)); (case aS => exact (below_size (by repeat (first | (with_reducible first | exact HB.out | apply below_alloc | apply pw_below_drewN | apply below_drew1) | exact HB.out)))); (case aL => have := LM.out; simp only [List.length_nil]; omega); intro v135 w5 ho hb hg hat; rw [NL.out] at ho; have n0_ := Aside0.mk (hb); have n1_ := Aside0.mk (ho); clear HB; clear HO133; have HB := n0_; have HO136 := n1_; clear n0_ n1_; clear ho hb hg hat))
      go_ret
      exact ⟨_, rfl, by (with_reducible repeat (first | apply Kd.R_alloc | apply Kd.R_drewN | apply Kd.R_drew)); exact HO136.out, by repeat (first | (with_reducible first | exact HB.out | apply below_alloc | apply pw_below_drewN | apply below_drew1) | exact HB.out)⟩
  · rw [if_neg c2] at h; cases h

/-! ### impl_solutions_1: function 137 (a text of this session's own) -/

def impl_solutions_1.T7 : Bool × List (List Nat × List Nat) := (true, [([], []), ([], []), ([1], [1]), ([], []), ([3], [3]), ([], []), ([4, 5], [4, 5]), ([6], [6]), ([7], [7]), ([2, 8, 2], [2, 8]), ([], []), ([10], [10]), ([0, 9, 11, 9], [0, 9, 11])])
def impl_solutions_1.B7 : List Nat := [0, 0, 2, 0, 8, 0, 56, 120, 248, 510, 0, 1024, 4095]
theorem impl_solutions_1.tab7 : rtab .any (opsOf Tryd.f137 7) = impl_solutions_1.T7 := by kernel_rfl
theorem impl_solutions_1.bits7 : waitsOk impl_solutions_1.T7.2 impl_solutions_1.B7 = true := by kernel_rfl
mutual
def impl_solutions_1.l0 : Nat → Int → List S70 → List S105 → List S105 → Int → List S33 → Option (List S33)
 | 0, _, _, _, _, _, _ => none
 | k + 1, n, cs, F, l, a, xs => if a < (F.length : Int) then (if 0 ≤ a then ((impl_Pair.f l).bind fun q => if q.length < 8796093022208 then ((impl_solutions_1.f k n cs F (q ++ [rd_T105 F a]) (wrap64 (a + 1)) xs).bind fun ys => impl_solutions_1.l0 k n cs F l (wrap64 (a + 1)) ys) else none) else none) else some xs
def impl_solutions_1.f : Nat → Int → List S70 → List S105 → List S105 → Int → List S33 → Option (List S33)
 | 0, _, _, _, _, _, _ => none
 | k + 1, n, cs, F, l, a, xs => (impl_Party_table.f k n l).bind fun t => (fitsAll k t cs).bind fun b => if b = true then (if xs.length < 4398046511104 then impl_solutions_1.l0 k n cs F l a (xs ++ [⟨n, l⟩]) else none) else impl_solutions_1.l0 k n cs F l a xs
end
theorem impl_solutions_1.mono_l : ∀ k, (∀ y0 y1 y2 y3 y4 y5, LeO (impl_solutions_1.l0 k y0 y1 y2 y3 y4 y5) (impl_solutions_1.l0 (k + 1) y0 y1 y2 y3 y4 y5)) ∧ (∀ y0 y1 y2 y3 y4 y5, LeO (impl_solutions_1.f k y0 y1 y2 y3 y4 y5) (impl_solutions_1.f (k + 1) y0 y1 y2 y3 y4 y5))
 | 0 => ⟨fun _ _ _ _ _ _ r h => by simp [impl_solutions_1.l0] at h, fun _ _ _ _ _ _ r h => by simp [impl_solutions_1.f] at h⟩
 | k + 1 => by
  obtain ⟨ih0, ih1⟩ := impl_solutions_1.mono_l k
  refine ⟨?_, ?_⟩
  · intro y0 y1 y2 y3 y4 y5
    unfold impl_solutions_1.l0
    repeat' first
      | (with_reducible exact ih0 _ _ _ _ _ _)
      | (with_reducible exact ih1 _ _ _ _ _ _)
      | (with_reducible exact LeO.refl _)
      | (with_reducible exact LeO.none _)
      | (with_reducible refine LeO.ite ?_ ?_)
      | (with_reducible refine LeO.bind ?_ (fun _ => ?_))
  · intro y0 y1 y2 y3 y4 y5
    unfold impl_solutions_1.f
    repeat' first
      | (with_reducible exact ih0 _ _ _ _ _ _)
      | (with_reducible exact impl_Party_table.mono _ _ _)
      | (with_reducible exact fitsAll.mono _ _ _)
      | (with_reducible exact LeO.refl _)
      | (with_reducible exact LeO.none _)
      | (with_reducible refine LeO.ite ?_ ?_)
      | (with_reducible refine LeO.bind ?_ (fun _ => ?_))
/-- What a call leaves: the list in its place, and all else that lay there. -/
structure impl_solutions_1.St (w : World) (base b : Nat) (v : Value) (w' : World) (v' : Value) (ys : List S33) : Prop where
  box : w'.heap[b]? = some (.cells #[v'] 44 (0, 0))
  row : Kd.S k33 33 w' base (fun k => k ≠ b ∧ base ≤ k) v' ys
  below : Below base w w'
  keep : ∀ k, (k ≠ b ∧ some k ≠ v.ownBlock) → k < w.heap.size → w'.heap[k]? = w.heap[k]?
  at_ : v'.ownBlock = v.ownBlock ∨ ∃ g, v'.ownBlock = some g ∧ w.heap.size ≤ g
section
variable {w w' w'' : World} {base b : Nat} {v v' v'' : Value} {ys zs : List S33}
theorem impl_solutions_1.St.apart (s : impl_solutions_1.St w base b v w' v' ys) {k : Nat} (h : k < w.heap.size) (hk : some k ≠ v.ownBlock) : some k ≠ v'.ownBlock := by
  rcases s.at_ with e | ⟨g, e, hg⟩
  · rw [e]; exact hk
  · rw [e]
    intro hh
    injection hh with hh
    omega
theorem impl_solutions_1.St.foot {α : Type} {d : Kd α} {A : Option Addr} {n : Nat} {xs : List α} (s : impl_solutions_1.St w base b v w' v' ys) (h : Kd.F d w (fun k => k ≠ b ∧ some k ≠ v.ownBlock) A n xs) : Kd.F d w' (fun k => k ≠ b ∧ some k ≠ v'.ownBlock) A n xs :=
  Kd.F_mono (Kd.F_step (Kd.F_bound h) (fun k hk hlt => s.keep k hk.1 hlt)) (fun _ hk => ⟨hk.1.1, s.apart hk.2 hk.1.2⟩)
theorem impl_solutions_1.St.later (s : impl_solutions_1.St w base b v w' v' ys) (hbase : base ≤ w'.heap.size) (hb : Below w'.heap.size w' w'') : impl_solutions_1.St w base b v w'' v' ys := by
  have hlt : b < w'.heap.size := (Array.getElem?_eq_some_iff.1 s.box).1
  exact ⟨(hb.block b hlt).trans s.box, Kd.S_below s.row hb, below_then s.below hbase hb, fun k hk hl => (hb.block k (Nat.lt_of_lt_of_le hl s.below.size)).trans (s.keep k hk hl), s.at_⟩
theorem impl_solutions_1.St.trans (s : impl_solutions_1.St w base b v w' v' ys) (u : impl_solutions_1.St w' base b v' w'' v'' zs) : impl_solutions_1.St w base b v w'' v'' zs := by
  refine ⟨u.box, u.row, s.below.trans u.below, fun k hk hl => ?_, ?_⟩
  · rw [u.keep k ⟨hk.1, s.apart hl hk.2⟩ (Nat.lt_of_lt_of_le hl s.below.size), s.keep k hk hl]
  · rcases u.at_ with e | ⟨g, e, hg⟩
    · rw [e]; exact s.at_
    · exact .inr ⟨g, e, Nat.le_trans s.below.size hg⟩
theorem impl_solutions_1.St.blk (s : impl_solutions_1.St w base b v w' v' ys) {k : Nat} {o : Obj} (h : w.heap[k]? = some o) (hk : k < base) (hbase : base ≤ w.heap.size) : w'.heap[k]? = some o := (s.below.block k hk).trans h
end
/-- The boxes of what the call goes on with: the number, the clues, all pairs, and itself. -/
structure impl_solutions_1.Bx (w : World) (base b : Nat) (v : Value) (n n2 : Int) (cs : List S70) (Ac : Option Addr) (cc : Nat) (F : List S105) (Af : Option Addr) (cf bn bc bf ba : Nat) : Prop where
  n_ : w.heap[bn]? = some (.cells #[.int .i64 n] 3 (0, 0))
  c_ : w.heap[bc]? = some (.cells #[.slice Ac cs.length cc] 26 (0, 0))
  f_ : w.heap[bf]? = some (.cells #[.int .i64 n2, .slice Af F.length cf] 33 (0, 0))
  a_ : w.heap[ba]? = some (.cells #[.func (.func 137) #[] #[.pointer (some ⟨bn, 0, none⟩), .pointer (some ⟨bc, 0, none⟩), .pointer (some ⟨b, 0, none⟩), .pointer (some ⟨bf, 0, none⟩), .pointer (some ⟨ba, 0, none⟩)]] 150 (0, 0))
  cs_ : Kd.F k70 w (fun k => k ≠ b ∧ some k ≠ v.ownBlock) Ac cs.length cs
  cc_ : cs.length ≤ cc
  fs_ : Kd.F k105 w (fun k => k ≠ b ∧ some k ≠ v.ownBlock) Af F.length F
  fc_ : F.length ≤ cf
  g_ : GTab 0 w
  lt : bn < base ∧ bc < base ∧ bf < base ∧ 0 < base ∧ ba ≠ b ∧ base ≤ b
section
variable {w w' w'' : World} {base b : Nat} {v v' v'' : Value} {xs ys zs : List S33} {n n2 : Int} {cs : List S70} {Ac Af : Option Addr} {cc cf bn bc bf ba : Nat} {F : List S105}
theorem impl_solutions_1.Bx.later (x : impl_solutions_1.Bx w base b v n n2 cs Ac cc F Af cf bn bc bf ba) (hb : Below w.heap.size w w') : impl_solutions_1.Bx w' base b v n n2 cs Ac cc F Af cf bn bc bf ba :=
  ⟨blk_below x.n_ hb, blk_below x.c_ hb, blk_below x.f_ hb, blk_below x.a_ hb, Kd.F_below x.cs_ hb, x.cc_, Kd.F_below x.fs_ hb, x.fc_, GTab.up x.g_ hb, x.lt⟩
theorem impl_solutions_1.Bx.step (x : impl_solutions_1.Bx w base b v n n2 cs Ac cc F Af cf bn bc bf ba) (hr : Kd.S k33 33 w base (fun k => k ≠ b ∧ base ≤ k) v xs) (s : impl_solutions_1.St w base b v w' v' ys) (hbase : base ≤ w.heap.size) : impl_solutions_1.Bx w' base b v' n n2 cs Ac cc F Af cf bn bc bf ba :=
  ⟨s.blk x.n_ x.lt.1 hbase, s.blk x.c_ x.lt.2.1 hbase, s.blk x.f_ x.lt.2.2.1 hbase, (s.keep ba ⟨x.lt.2.2.2.2.1, Kd.S_ne hr x.a_ (by decide)⟩ (blk_lt x.a_)).trans x.a_, s.foot x.cs_, x.cc_, s.foot x.fs_, x.fc_, fun j hj => (s.below.cell (p := ⟨0, j, none⟩) x.lt.2.2.2.1).trans (x.g_ j hj), x.lt⟩
end
set_option maxHeartbeats 16000000 in
set_option maxRecDepth 100000 in
theorem impl_solutions_1.calls : ∀ (k : Nat) (n n2 : Int) (cs : List S70) (Ac : Option Addr) (cc : Nat) (F : List S105) (Af : Option Addr) (cf bn bc bf ba : Nat) (A1 : Option Addr) (c1 : Nat) (l1 : List S105) (a : Int) (b : Nat) (v : Value) (xs r : List S33) (w : World) (base : Nat)
    (_hx : impl_solutions_1.Bx w base b v n n2 cs Ac cc F Af cf bn bc bf ba) (_h1 : Kd.R k105 105 w base (fun k => k ≠ b ∧ base ≤ k) (.slice A1 l1.length c1) l1)
    (_hd : Kd.S k33 33 w base (fun k => (k ≠ b ∧ base ≤ k) ∧ ¬ some k = (Value.slice A1 l1.length c1).ownBlock) v xs) (_hS : impl_solutions_1.St w base b v w v xs) (_hbase : base ≤ w.heap.size) (_h : impl_solutions_1.f k n cs F l1 a xs = some r),
    Calls Tryd.prog 137 #[.slice A1 l1.length c1, .int .i64 a, .pointer (some ⟨bn, 0, none⟩), .pointer (some ⟨bc, 0, none⟩), .pointer (some ⟨b, 0, none⟩), .pointer (some ⟨bf, 0, none⟩), .pointer (some ⟨ba, 0, none⟩)] w fun e w' => e = .returned (.tuple #[]) ∧ ∃ v', impl_solutions_1.St w base b v w' v' r := by
  intro k
  induction k using Nat.strongRecOn with
  | ind k ih =>
    intro n n2 cs Ac cc F Af cf bn bc bf ba A1 c1 l1 a b v xs r w base hx h1 hd hS hbase h
    cases k with
    | zero => simp [impl_solutions_1.f] at h
    | succ k =>
      simp only [impl_solutions_1.f] at h
      replace h := Option.bind_eq_some_iff.mp h
      obtain ⟨t, ht, h⟩ := h
      replace h := Option.bind_eq_some_iff.mp h
      obtain ⟨bb, hbb, h⟩ := h
      obtain ⟨Av, cv, rfl⟩ := Kd.S_slice hS.row
      obtain ⟨hfit, hany⟩ := fitsAll.spec k t cs bb hbb
      have hu34 := Tryd.underlying33
      have HX := Aside0.mk hx
      have HS := Aside0.mk hS
      have HD := Aside0.mk hd
      have H1 := Aside0.mk h1
      have HC1 := Aside0.mk (Kd.R_reads' h1).2.1
      have H1A := Aside0.mk (Kd.R_apart' h1 (Kd.S_typed hS.row) (by decide))
      have H1F := Aside0.mk (Kd.F_mono (Kd.R_F (Kd.R_apart' h1 (Kd.S_typed hS.row) (by decide))) (fun k_ hk => (⟨hk.1.1, hk.2⟩ : k_ ≠ b ∧ some k_ ≠ (Value.slice Av xs.length cv).ownBlock)))
      have HT := Aside0.mk ht
      have HFIT := Aside0.mk hfit
      have HANY := Aside0.mk hany
      have HB := Aside0.mk (Below.refl w.heap.size w)
      have LB := Aside0.mk (show b < w.heap.size from blk_lt hS.box)
      have hsn : w.cell? ⟨bn, 0, none⟩ = some (.int .i64 n) := (blk_cell hx.n_ 0).trans rfl
      have eg := enters_of Tryd.func138 (by kernel_rfl) rfl
      have HEG := Aside0.mk eg
      have LOOP : ∀ (ys : List S33), Aside0 (impl_solutions_1.l0 k n cs F l1 a ys = some r) → True := fun _ _ => trivial
      clear LOOP hx h1 hd hS ht hbb hfit hany eg
      cases bb with
      | true =>
        rw [if_pos rfl] at h
        by_cases hl : xs.length < 4398046511104
        · rw [if_pos hl] at h
          have HL := Aside0.mk h
          have LX := Aside0.mk hl
          clear h hl
          go_enter Tryd.func137, Tryd.ntmps137
          go_wp2_with (first
            | ((with_reducible refine gate_dst (N := 9) rfl ?_); refine box_event ?hg (N := 9) ?hd (cs := #[.int .i64 0, .slice none 0 0]) (t := 33) ?hr ?_; (case hd => rfl); (case hg => rfl); (case hr => first | (go_simp; done) | (go_simp; rfl)); intro gp hg w2 hbox hb; have n0_ := hS HB hb; have n1_ := Aside0.mk hbox; have n2_ := gS HB hg; clear HB; have HB := n0_; have BKp := n1_; have GEp := n2_; clear n0_ n1_ n2_ hb hbox hg; have hcz1_0 : w2.cell? ⟨gp, 0, none⟩ = some (.int .i64 0) := (blk_cell BKp.out 0).trans rfl; have hcz1_1 : w2.cell? ⟨gp, 1, none⟩ = some (.slice none 0 0) := (blk_cell BKp.out 1).trans rfl; have hfz1_0 := blk_frozen BKp.out 0; have hfz1_1 := blk_frozen BKp.out 1)
            | (go_at_call 61; refine (impl_Party_table.calls k n A1 c1 l1 t _ ?s1 HC1.out HT.out).mono ?_; (case s1 => exact Kd.F_now (Kd.F_far (Kd.F_far (Kd.F_mono (Kd.F_below (Kd.F_bound H1F.out) HB.out) (fun k_ hk => (show k_ ≠ gp from by have := GEp.out; have := hk.2; omega))) (fun _ hk => hk) _) (fun _ hk => hk) _)); rintro e w4 ⟨vt, rfl, ho, hb⟩; have n0_ := hS HB hb; have n1_ := Aside0.mk (blk_below (blk_set (blk_set BKp.out 0 (.int .i64 n)) 1 (.slice A1 l1.length c1)) hb); have n2_ := Aside0.mk ho; clear HB BKp; have HB := n0_; have BKp := n1_; have HOt := n2_; clear n0_ n1_ n2_ ho hb hcz1_0 hcz1_1 hfz1_0 hfz1_1; obtain ⟨At, ct, rfl⟩ := Kd.R_slice HOt.out)
            | ((with_reducible refine gate_dst (N := 10) rfl ?_); refine box_event ?hg (N := 10) ?hd (cs := #[.slice none 0 0]) (t := 81) ?hr ?_; (case hd => rfl); (case hg => rfl); (case hr => first | (go_simp; done) | (go_simp; rfl)); intro gt hg w5 hbox hb; have n0_ := hS HB hb; have n1_ := bS BKp hb; have n2_ := Aside0.mk hbox; have n3_ := gS HB hg; have n4_ := Aside0.mk (Kd.R_below (Kd.R_mono (Kd.R_bound HOt.out) (fun k_ hk => (show k_ ≠ gt from by have := hk.2.2.1; omega))) hb); have n5_ := nL BKp hg; clear HB BKp HOt; have HB := n0_; have BKp := n1_; have BKt := n2_; have GEt := n3_; have HOt := n4_; have NPT := n5_; clear n0_ n1_ n2_ n3_ n4_ n5_ hb hbox hg; have hcz2 : w5.cell? ⟨gt, 0, none⟩ = some (.slice none 0 0) := (blk_cell BKt.out 0).trans rfl; have hfz2 := blk_frozen BKt.out 0; have hsc : w5.cell? ⟨bc, 0, none⟩ = some (.slice Ac cs.length cc) := (blk_cell (HX.out.later HB.out).c_ 0).trans rfl; have hne1 : bc ≠ gt := (by have := HX.out.lt.2.1; have := GEt.out; omega); have hne2 : gt ≠ bc := Ne.symm hne1)
            | (go_at_call 114; refine (impl_Clue_114.calls Ac cc cs (fun x => !fitP k t x) 138 #[.pointer (some ⟨gt, 0, none⟩)] (w5.setCell ⟨gt, 0, none⟩ (.slice At t.length ct)) HEG.out (Kd.F_now (Kd.F_far (Kd.F_mono (Kd.F_below (Kd.F_bound HX.out.cs_) HB.out) (fun k_ hk => (show k_ ≠ gt from by have := GEt.out; have := hk.2; omega))) (fun _ hk => hk) _)) (fun W x hx hb' => impl_solutions_1_1.calls k t At ct gt x (fitP k t x) (w5.setCell ⟨gt, 0, none⟩ (.slice At t.length ct)) W hb' (blk_set BKt.out 0 _) (Kd.R_reads' (Kd.R_far HOt.out (fun _ hk => hk) _)).2.2 (Kd.R_reads' HOt.out).2.1 (HFIT.out x hx) (GTab.up HX.out.g_ (below_set HB.out GEt.out)))).mono ?_; rintro e w6 ⟨rfl, hb⟩; rw [HANY.out]; have n0_ := hS HB hb; have n1_ := Aside0.mk (blk_below (blk_far BKp.out (p := ⟨gt, 0, none⟩) NPT.out (.slice At t.length ct)) hb); clear HB BKp; have HB := n0_; have BKp := n1_; clear n0_ n1_ hb hcz2 hfz2 hsc; have S6 := Aside0.mk (HS.out.later hbase HB.out); have hso : w6.cell? ⟨b, 0, none⟩ = some (.slice Av xs.length cv) := (blk_cell S6.out.box 0).trans rfl; have hp0 : w6.cell? ⟨gp, 0, none⟩ = some (.int .i64 n) := (blk_cell BKp.out 0).trans rfl; have hp1 : w6.cell? ⟨gp, 1, none⟩ = some (.slice A1 l1.length c1) := (blk_cell BKp.out 1).trans rfl)
            | ((with_reducible refine gate_builtin (b := .append) (xs := #[.tmp 21, .tmp 23]) rfl ?_); at_builtin; refine Kd.S_append k33 (w0 := w) base rfl (.tmp 21) (.tmp 23) 44 33 (.agg #[(.int .i64 0), (.slice none 0 0)]) 32 rfl Tryd.underlying44 info33 rfl (by decide) (by omega) (.slice Av xs.length cv) xs (⟨n, l1⟩ : S33) [.int .i64 n, .slice A1 l1.length c1] (fun k_ => k_ ≠ b ∧ base ≤ k_) (fun k_ => some k_ = (.slice A1 l1.length c1 : Value).ownBlock) rfl rfl ?aP ?aK ?aF ?aO ?aB ?aS ?aL ?_; (case aP => exact k33_mkM _ _ _ (⟨n, l1⟩ : S33) (Kd.R_tight rfl (Kd.R_below H1.out HB.out))); (case aK => exact fun k_ hk => (by obtain ⟨h0_, _⟩ := H1A.out; exact h0_ k_ hk.symm)); (case aF => exact fun k_ hk => ⟨by have := LB.out; have := below_size HB.out; omega, by have := below_size HB.out; omega⟩); (case aO => exact Kd.S_below HD.out HB.out); (case aB => exact S6.out.below); (case aS => exact Nat.le_trans hbase (below_size HB.out)); (case aL => have := LX.out; omega); intro v3 w7 ho hb hg hat; have BX7 : w7.heap[b]? = some (.cells #[.slice Av xs.length cv] 44 (0, 0)) := (hg.block b (Nat.lt_of_lt_of_le LB.out (below_size HB.out)) (Kd.S_away S6.out.row (fun _ hk => hk.1))).trans S6.out.box; obtain ⟨A3, c3, e3⟩ := Kd.S_slice ho; obtain ⟨n3, hn3⟩ : ∃ n_, n_ = (xs ++ [(⟨n, l1⟩ : S33)]).length := ⟨_, rfl⟩; rw [← hn3] at e3; subst e3; clear hn3; have S8 := Aside0.mk (show impl_solutions_1.St w base b (.slice Av xs.length cv) (w7.setCell ⟨b, 0, none⟩ (.slice A3 n3 c3)) (.slice A3 n3 c3) (xs ++ [⟨n, l1⟩]) from ⟨blk_set BX7 0 _, Kd.S_far ho (fun _ hk => hk.1) _, hb.setCell HX.out.lt.2.2.2.2.2 _, fun k hk hl => (Below.heap_setCell w7 ⟨b, 0, none⟩ _ k hk.1).trans ((hg.block k (Nat.lt_of_lt_of_le hl (below_size HB.out)) hk.2).trans (S6.out.keep k hk hl)), hat.imp id (fun ⟨g, e, hg⟩ => ⟨g, e, Nat.le_trans (below_size HB.out) hg⟩)⟩); have hs7 : w7.cell? ⟨b, 0, none⟩ = some (.slice Av xs.length cv) := (blk_cell BX7 0).trans rfl; have hf7 := blk_frozen BX7 0; clear ho hb hg hat BX7))
          go_loopg [11] k (fun kq v11 w' => ∃ (x : Int) (ys : List S33) (v' : Value), v11 = .int .i64 x ∧ Aside0 (impl_solutions_1.l0 kq n cs F l1 x ys = some r) ∧ Aside0 (kq ≤ k) ∧ Aside0 (impl_solutions_1.St w base b (.slice Av xs.length cv) w' v' ys))
          case atStart => exact ⟨a, _, _, rfl, HL, ⟨Nat.le_refl _⟩, S8⟩
          case round =>
            obtain ⟨x, ys, v', rfl, HA, HK1, HS4⟩ := hrel
            cases gk with
            | zero => exact absurd HA.out (by simp [impl_solutions_1.l0])
            | succ k1 =>
              have H := HA.out
              clear HA S8
              simp only [impl_solutions_1.l0] at H
              have hbr : base ≤ wr.heap.size := Nat.le_trans hbase HS4.out.below.size
              have hbl : b < wr.heap.size := blk_lt HS4.out.box
              have XR := Aside0.mk (HX.out.step HS.out.row HS4.out hbase)
              have hsf : wr.cell? ⟨bf, 1, none⟩ = some (.slice Af F.length cf) := (blk_cell XR.out.f_ 1).trans rfl
              by_cases c1_ : x < (F.length : Int)
              · rw [if_pos c1_] at H
                have c1b : decide (x < (F.length : Int)) = true := decide_eq_true c1_
                by_cases c2_ : 0 ≤ x
                · rw [if_pos c2_] at H
                  replace H := Option.bind_eq_some_iff.mp H
                  obtain ⟨q, hq, H⟩ := H
                  by_cases c3_ : q.length < 8796093022208
                  · rw [if_pos c3_] at H
                    replace H := Option.bind_eq_some_iff.mp H
                    obtain ⟨ys2, hy, H⟩ := H
                    obtain ⟨y2, hy2⟩ : ∃ y_ : List S105, y_ = q ++ [rd_T105 F x] := ⟨_, rfl⟩
                    rw [← hy2] at hy
                    obtain ⟨ad, eAf, hx0, hx1⟩ := at_T105 (Kd.F_now XR.out.fs_) x c2_ c1_
                    subst eAf
                    have NY := Aside0.mk hy2
                    have HQ := Aside0.mk hq
                    have HN := Aside0.mk H
                    have L2 := Aside0.mk c3_
                    have HREC := Aside0.mk (fun (A9 : Option Addr) (c9 : Nat) (w9 : World) (hb : Below wr.heap.size wr w9) (ho : Kd.R k105 105 w9 wr.heap.size (fun k_ => wr.heap.size ≤ k_) (.slice A9 y2.length c9) y2) =>
                      ih k1 (by have := HK1.out; omega) n n2 cs Ac cc F (some ad) cf bn bc bf ba A9 c9 y2 (wrap64 (x + 1)) b v' ys ys2 w9 base (XR.out.later hb) (Kd.R_lower (Kd.R_mono ho (fun k_ hk => (⟨by omega, by omega⟩ : k_ ≠ b ∧ base ≤ k_))) hbr) (Kd.S_below (Kd.S_mono (Kd.S_bound HS4.out.row) (fun k_ hk => ⟨hk.1, fun he => by have := Kd.R_base ho _ he.symm; have := hk.2.2.1; omega⟩)) hb) ⟨(HS4.out.later hbr hb).box, (HS4.out.later hbr hb).row, Below.refl _ _, fun _ _ _ => rfl, .inl rfl⟩ (Nat.le_trans hbr hb.size) hy)
                    have C1F := Aside0.mk (HS4.out.foot H1F.out)
                    have SW := Aside0.mk (fun (W : World) (hb : Below wr.heap.size wr W) => (⟨pw_cell_below hb ((blk_cell XR.out.a_ 0).trans rfl), pw_cell_below hb hsf, pw_cell_below hb hx0, pw_cell_below hb hx1⟩ : (fun w' : World => w'.cell? ⟨ba, 0, none⟩ = some (.func (.func 137) #[] #[.pointer (some ⟨bn, 0, none⟩), .pointer (some ⟨bc, 0, none⟩), .pointer (some ⟨b, 0, none⟩), .pointer (some ⟨bf, 0, none⟩), .pointer (some ⟨ba, 0, none⟩)]) ∧ w'.cell? ⟨bf, 1, none⟩ = some (.slice (some ad) F.length cf) ∧ w'.cell? (ad.add (x.toNat * 2)) = some (.int .i64 (rd_T105 F x).f0) ∧ w'.cell? ⟨(ad.add (x.toNat * 2)).block, (ad.add (x.toNat * 2)).off + 1, none⟩ = some (.int .i64 (rd_T105 F x).f1)) W))
                    clear hq hy H hy2
                    go_wp2
                    refine start_ (n := 13) (S := fun w' => w'.cell? ⟨ba, 0, none⟩ = some (.func (.func 137) #[] #[.pointer (some ⟨bn, 0, none⟩), .pointer (some ⟨bc, 0, none⟩), .pointer (some ⟨b, 0, none⟩), .pointer (some ⟨bf, 0, none⟩), .pointer (some ⟨ba, 0, none⟩)]) ∧ w'.cell? ⟨bf, 1, none⟩ = some (.slice (some ad) F.length cf) ∧ w'.cell? (ad.add (x.toNat * 2)) = some (.int .i64 (rd_T105 F x).f0) ∧ w'.cell? ⟨(ad.add (x.toNat * 2)).block, (ad.add (x.toNat * 2)).off + 1, none⟩ = some (.int .i64 (rd_T105 F x).f1)) (ds := [12]) (bz 13 0) (by kernel_rfl) rfl rfl (SW.out _ (below_drew (Below.refl _ _))) (fun hHeld => ?_)
                    refine with_tabW impl_solutions_1.tab7 impl_solutions_1.bits7 (fun HT_ HW_ => ?_)
                    have HBd := Aside0.mk (below_drew (Below.refl wr.heap.size wr))
                    clear hx0 hx1 hsf
                    generalize wr.drew = w1 at HBd hHeld ⊢
                    refine run_ [(1, 0, 1, some 33), (0, 1, 3, some 34), (0, 3, 11, some 36), (1, 4, 27, some 37), (0, 5, 59, some 38), (0, 6, 123, some 39), (1, 7, 251, some 40), (0, 10, 1275, some 43), (0, 11, 3323, some 44)] ?_
                    repeat (first | (apply tag0; refine run_p (v := ?_) (a' := ?_) rfl rfl (any_of HT_.out (by kernel_rfl)) (fun _ _ _ h => h) (by rfl) ?_ ?_ ?_; rotate_left 2; (intro w'; go_simp; with_reducible rfl); (first | (simp only [Act.put, List.setIfInBounds_toArray, List.set_cons_zero, List.set_cons_succ, i64_w, i32_w]; rfl) | rfl)) | (apply tag1; refine run_t (v := ?_) (a' := ?_) rfl rfl (take_ofW HT_.out HW_.out (by kernel_rfl)) (fun _ _ _ h => h) (by rfl) ?_ hHeld ?_ ?_; rotate_left 2; (rintro w' ⟨s0, s1, s2, s3⟩; go_simp; with_reducible rfl); (first | (simp only [Act.put, List.setIfInBounds_toArray, List.set_cons_zero, List.set_cons_succ, i64_w, i32_w]; rfl) | rfl)))
                    refine run_nil ?_
                    refine join_ (σ := Value × Value) 2 (bz 13 3583) (fun s_ => [(35, s_.1), (41, s_.2)]) (fun s_ w' => (w'.cell? ⟨ba, 0, none⟩ = some (.func (.func 137) #[] #[.pointer (some ⟨bn, 0, none⟩), .pointer (some ⟨bc, 0, none⟩), .pointer (some ⟨b, 0, none⟩), .pointer (some ⟨bf, 0, none⟩), .pointer (some ⟨ba, 0, none⟩)]) ∧ w'.cell? ⟨bf, 1, none⟩ = some (.slice (some ad) F.length cf) ∧ w'.cell? (ad.add (x.toNat * 2)) = some (.int .i64 (rd_T105 F x).f0) ∧ w'.cell? ⟨(ad.add (x.toNat * 2)).block, (ad.add (x.toNat * 2)).off + 1, none⟩ = some (.int .i64 (rd_T105 F x).f1)) ∧ (Kd.R k105 105 w' wr.heap.size (fun k_ => wr.heap.size ≤ k_ ∧ some k_ ≠ (s_.2 : Value).ownBlock) s_.1 q) ∧ (Kd.R k105 105 w' wr.heap.size (fun k_ => some k_ ≠ (s_.1 : Value).ownBlock) s_.2 [(rd_T105 F x)]) ∧ (Below wr.heap.size wr w')) ?_ ?_
                    rotate_left
                    · intro hCont
                      refine two_ (i := 2) (j := 8) (Ni := some 35) (Nj := some 41) (bz 13 3327) (bz 13 3579) rfl rfl rfl rfl (two_of HT_.out (by kernel_rfl)) (by decide) (by decide) (fun K hK => ?_) (fun K hK => ?_)
                      · refine goes_ Tryd.func140 (by kernel_rfl) rfl #[.slice A1 l1.length c1] (by rfl) rfl rfl mapT ?_
                        refine (impl_Pair.calls A1 c1 l1 q _ (Kd.F_now (Kd.F_below C1F.out HBd.out)) HC1.out HQ.out).mono ?_
                        rintro e w2' ⟨v1, rfl, ho, hb⟩
                        refine ⟨_, rfl, ?_⟩
                        have HB2 := Aside0.mk (below_step HBd.out hb)
                        have HO2 := Aside0.mk (Kd.R_lower ho (below_size HBd.out))
                        clear ho hb
                        refine hK.out _ _ (SW.out _ HB2.out) (fun hHeld2 => ?_)
                        clear hK K
                        refine one_ (i := 8) (N := some 41) (bz 13 3583) rfl rfl (one_of HT_.out (by kernel_rfl)) (by decide) (fun K hK => ?_)
                        refine Kd.R_lit_step k105 (w0 := wr) wr.heap.size 105 (by rfl) (N := 41) rfl (xs := [(rd_T105 F x)]) (inner := [.int .i64 (rd_T105 F x).f0, .int .i64 (rd_T105 F x).f1]) (ok := fun k_ => some k_ ≠ v1.ownBlock) (okp := fun _ => False) ?hr ?hp (fun _ h => h.elim) ?hf HB2.out (below_size HB2.out) (by simp) ?_
                        case hr => first | (go_simp; done) | (go_simp; rfl)
                        case hp => exact Reps.c2 (k105_mkM _ _ _ (rd_T105 F x)) (Reps.none _ _)
                        case hf => exact fun he => by have := Kd.R_lt HO2.out _ he.symm; omega
                        intro v2 w3 ho2 hb2 hg2 hnew2
                        refine hK.out _ _ (SW.out _ hb2) (fun hHeld3 => ?_)
                        refine norm_ ?_ (hCont (v1, v2) w3 ⟨SW.out _ hb2, Kd.R_mono (Kd.R_grown (Kd.R_bound HO2.out) hg2 (fun k_ _ => by simp)) (fun k_ hk => ⟨hk.2.1, fun he => by obtain ⟨g, e, hg⟩ := hnew2; rw [e] at he; injection he with he; have := hk.2.2.1; omega⟩), ho2, hb2⟩)
                        first | rfl | (simp only [putAll, Act.put, List.setIfInBounds_toArray, List.set_cons_zero, List.set_cons_succ, i64_w, i32_w]; rfl)
                      · refine Kd.R_lit_step k105 (w0 := wr) wr.heap.size 105 (by rfl) (N := 41) rfl (xs := [(rd_T105 F x)]) (inner := [.int .i64 (rd_T105 F x).f0, .int .i64 (rd_T105 F x).f1]) (ok := fun _ => True) (okp := fun _ => False) ?hr ?hp (fun _ h => h.elim) trivial HBd.out (below_size HBd.out) (by simp) ?_
                        case hr => first | (go_simp; done) | (go_simp; rfl)
                        case hp => exact Reps.c2 (k105_mkM _ _ _ (rd_T105 F x)) (Reps.none _ _)
                        intro v2 w2' ho2 hb2 hg2 hnew2
                        have HB2 := Aside0.mk hb2
                        have HO2 := Aside0.mk ho2
                        clear hb2 ho2 hg2
                        refine hK.out _ _ (SW.out _ HB2.out) (fun hHeld2 => ?_)
                        clear hK K
                        refine one_ (i := 2) (N := some 35) (bz 13 3583) rfl rfl (one_of HT_.out (by kernel_rfl)) (by decide) (fun K hK => ?_)
                        refine goes_ Tryd.func140 (by kernel_rfl) rfl #[.slice A1 l1.length c1] (by rfl) rfl rfl mapT ?_
                        refine (impl_Pair.calls A1 c1 l1 q _ (Kd.F_now (Kd.F_below C1F.out HB2.out)) HC1.out HQ.out).mono ?_
                        rintro e w3 ⟨v1, rfl, ho, hb⟩
                        refine ⟨_, rfl, ?_⟩
                        refine hK.out _ _ (SW.out _ (below_step HB2.out hb)) (fun hHeld3 => ?_)
                        refine norm_ ?_ (hCont (v1, v2) w3 ⟨SW.out _ (below_step HB2.out hb), Kd.R_mono (Kd.R_lower (Kd.R_bound ho) (below_size HB2.out)) (fun k_ hk => ⟨Nat.le_trans (below_size HB2.out) hk.2.1, fun he => by have := Kd.R_lt HO2.out _ he.symm; have := hk.2.1; omega⟩), Kd.R_mono (Kd.R_below (Kd.R_bound HO2.out) hb) (fun k_ hk he => by have := Kd.R_base ho _ he.symm; have := hk.2.2.1; omega), below_step HB2.out hb⟩)
                        first | rfl | (simp only [putAll, Act.put, List.setIfInBounds_toArray, List.set_cons_zero, List.set_cons_succ, i64_w, i32_w]; rfl)
                    · rintro ⟨v1, v2⟩ w3 ⟨hHeld3, R1, R2, HB3⟩
                      simp only at R1 R2
                      refine norm_ (a' := ?_) ?_ ?_
                      rotate_left
                      · simp only [putAll, Act.put, List.setIfInBounds_toArray, List.set_cons_zero, List.set_cons_succ, i64_w, i32_w]
                        rfl
                      obtain ⟨A2, c2, rfl⟩ := Kd.R_slice R2
                      have HR1 := Aside0.mk R1
                      have HR2 := Aside0.mk R2
                      have HB4 := Aside0.mk HB3
                      clear R1 R2 HB3
                      refine one_ (i := 9) (N := some 42) (bz 13 4095) rfl rfl (one_of HT_.out (by kernel_rfl)) (by decide) (fun K hK => ?_)
                      refine Kd.R_append_rows_step k105 (w0 := wr) wr.heap.size (by rfl) (.tmp 35) (.tmp 41) 31 105 (.agg #[(.int .i64 0), (.int .i64 0)]) 16 rfl Tryd.underlying31 info105 rfl (by decide) (by omega) v1 q [(rd_T105 F x)] A2 1 c2 (fun k_ => wr.heap.size ≤ k_) (fun _ => False) rfl rfl (Kd.R_mono HR1.out (fun _ hk => hk.1)) (Kd.R_reads' HR2.out).2.2 (fun x_ cs_ h => by rw [k105_open h]; exact k105_mkM _ _ _ x_) (fun _ h => h.elim) (fun k_ hk => Nat.le_trans (below_size HB4.out) hk) HB4.out (below_size HB4.out) (by have := L2.out; omega) ?_
                      intro v4 w4 ho hb hg hat
                      rw [← NY.out] at ho
                      obtain ⟨A9, c9, rfl⟩ := Kd.R_slice ho
                      refine hK.out _ _ (SW.out _ hb) (fun hHeld4 => ?_)
                      clear hK K
                      refine norm_ (a' := ?_) ?_ ?_
                      rotate_left
                      · show Act.put _ (some 42) _ = _
                        simp only [Act.put, List.setIfInBounds_toArray, List.set_cons_zero, List.set_cons_succ, i64_w, i32_w]
                        rfl
                      have HB5 := Aside0.mk hb
                      have HO5 := Aside0.mk ho
                      clear hb ho hg hat
                      refine last_ (i := 12) (N := some 45) (bz 13 8191) rfl rfl (one_of HT_.out (by kernel_rfl)) (by decide) (fun K hK => ?_)
                      refine call_ 137 #[.slice A9 y2.length c9, .int .i64 (wrap64 (x + 1)), .pointer (some ⟨bn, 0, none⟩), .pointer (some ⟨bc, 0, none⟩), .pointer (some ⟨b, 0, none⟩), .pointer (some ⟨bf, 0, none⟩), .pointer (some ⟨ba, 0, none⟩)] (by rfl) rfl ?_ ?_
                      · have he := enters_ Tryd.func137 (by kernel_rfl) rfl #[.slice A9 y2.length c9, .int .i64 (wrap64 (x + 1)), .pointer (some ⟨bn, 0, none⟩), .pointer (some ⟨bc, 0, none⟩), .pointer (some ⟨b, 0, none⟩), .pointer (some ⟨bf, 0, none⟩), .pointer (some ⟨ba, 0, none⟩)] w4
                        unfold execOp
                        simp [resolve, Deferred.ofValue, invoke, Act.eval, he]
                      refine (HREC.out A9 c9 w4 HB5.out HO5.out).mono ?_
                      rintro e w7' ⟨rfl, v7, s7⟩
                      refine ⟨_, rfl, ?_⟩
                      have HS7 := Aside0.mk ((HS4.out.later hbr HB5.out).trans s7)
                      refine hK.out _ _ ?_
                      clear hK K s7
                      refine done_ (done_of HT_.out (by kernel_rfl)) ?_
                      go_wp2
                      go_roundg k1
                      case measure => have := HK1.out; omega
                      case rel => exact ⟨wrap64 (x + 1), ys2, v7, by first | rfl | (simp; done), HN, ⟨by have := HK1.out; omega⟩, HS7⟩
                  · rw [if_neg c3_] at H; cases H
                · rw [if_neg c2_] at H; cases H
              · rw [if_neg c1_] at H
                have c1b : decide (x < (F.length : Int)) = false := decide_eq_false c1_
                clear c1_
                obtain rfl := Option.some.inj H
                go_wp2
                first | go_end0 | ((try simp only [Exit.inBlock, Exit.then]); refine bodyPost_ret (results_none rfl _ _ _) rfl ?_)
                exact ⟨rfl, v', HS4.out⟩
        · rw [if_neg hl] at h; cases h
      | false =>
        rw [if_neg (by simp)] at h
        have HL := Aside0.mk h
        clear h
        go_enter Tryd.func137, Tryd.ntmps137
        go_wp2_with (first
          | ((with_reducible refine gate_dst (N := 9) rfl ?_); refine box_event ?hg (N := 9) ?hd (cs := #[.int .i64 0, .slice none 0 0]) (t := 33) ?hr ?_; (case hd => rfl); (case hg => rfl); (case hr => first | (go_simp; done) | (go_simp; rfl)); intro gp hg w2 hbox hb; have n0_ := hS HB hb; have n1_ := Aside0.mk hbox; have n2_ := gS HB hg; clear HB; have HB := n0_; have BKp := n1_; have GEp := n2_; clear n0_ n1_ n2_ hb hbox hg; have hcz1_0 : w2.cell? ⟨gp, 0, none⟩ = some (.int .i64 0) := (blk_cell BKp.out 0).trans rfl; have hcz1_1 : w2.cell? ⟨gp, 1, none⟩ = some (.slice none 0 0) := (blk_cell BKp.out 1).trans rfl; have hfz1_0 := blk_frozen BKp.out 0; have hfz1_1 := blk_frozen BKp.out 1)
          | (go_at_call 61; refine (impl_Party_table.calls k n A1 c1 l1 t _ ?s1 HC1.out HT.out).mono ?_; (case s1 => exact Kd.F_now (Kd.F_far (Kd.F_far (Kd.F_mono (Kd.F_below (Kd.F_bound H1F.out) HB.out) (fun k_ hk => (show k_ ≠ gp from by have := GEp.out; have := hk.2; omega))) (fun _ hk => hk) _) (fun _ hk => hk) _)); rintro e w4 ⟨vt, rfl, ho, hb⟩; have n0_ := hS HB hb; have n1_ := Aside0.mk (blk_below (blk_set (blk_set BKp.out 0 (.int .i64 n)) 1 (.slice A1 l1.length c1)) hb); have n2_ := Aside0.mk ho; clear HB BKp; have HB := n0_; have BKp := n1_; have HOt := n2_; clear n0_ n1_ n2_ ho hb hcz1_0 hcz1_1 hfz1_0 hfz1_1; obtain ⟨At, ct, rfl⟩ := Kd.R_slice HOt.out)
          | ((with_reducible refine gate_dst (N := 10) rfl ?_); refine box_event ?hg (N := 10) ?hd (cs := #[.slice none 0 0]) (t := 81) ?hr ?_; (case hd => rfl); (case hg => rfl); (case hr => first | (go_simp; done) | (go_simp; rfl)); intro gt hg w5 hbox hb; have n0_ := hS HB hb; have n1_ := bS BKp hb; have n2_ := Aside0.mk hbox; have n3_ := gS HB hg; have n4_ := Aside0.mk (Kd.R_below (Kd.R_mono (Kd.R_bound HOt.out) (fun k_ hk => (show k_ ≠ gt from by have := hk.2.2.1; omega))) hb); have n5_ := nL BKp hg; clear HB BKp HOt; have HB := n0_; have BKp := n1_; have BKt := n2_; have GEt := n3_; have HOt := n4_; have NPT := n5_; clear n0_ n1_ n2_ n3_ n4_ n5_ hb hbox hg; have hcz2 : w5.cell? ⟨gt, 0, none⟩ = some (.slice none 0 0) := (blk_cell BKt.out 0).trans rfl; have hfz2 := blk_frozen BKt.out 0; have hsc : w5.cell? ⟨bc, 0, none⟩ = some (.slice Ac cs.length cc) := (blk_cell (HX.out.later HB.out).c_ 0).trans rfl; have hne1 : bc ≠ gt := (by have := HX.out.lt.2.1; have := GEt.out; omega); have hne2 : gt ≠ bc := Ne.symm hne1)
          | (go_at_call 114; refine (impl_Clue_114.calls Ac cc cs (fun x => !fitP k t x) 138 #[.pointer (some ⟨gt, 0, none⟩)] (w5.setCell ⟨gt, 0, none⟩ (.slice At t.length ct)) HEG.out (Kd.F_now (Kd.F_far (Kd.F_mono (Kd.F_below (Kd.F_bound HX.out.cs_) HB.out) (fun k_ hk => (show k_ ≠ gt from by have := GEt.out; have := hk.2; omega))) (fun _ hk => hk) _)) (fun W x hx hb' => impl_solutions_1_1.calls k t At ct gt x (fitP k t x) (w5.setCell ⟨gt, 0, none⟩ (.slice At t.length ct)) W hb' (blk_set BKt.out 0 _) (Kd.R_reads' (Kd.R_far HOt.out (fun _ hk => hk) _)).2.2 (Kd.R_reads' HOt.out).2.1 (HFIT.out x hx) (GTab.up HX.out.g_ (below_set HB.out GEt.out)))).mono ?_; rintro e w6 ⟨rfl, hb⟩; rw [HANY.out]; have n0_ := hS HB hb; have n1_ := Aside0.mk (blk_below (blk_far BKp.out (p := ⟨gt, 0, none⟩) NPT.out (.slice At t.length ct)) hb); clear HB BKp; have HB := n0_; have BKp := n1_; clear n0_ n1_ hb hcz2 hfz2 hsc; have S6 := Aside0.mk (HS.out.later hbase HB.out); have hso : w6.cell? ⟨b, 0, none⟩ = some (.slice Av xs.length cv) := (blk_cell S6.out.box 0).trans rfl; have hp0 : w6.cell? ⟨gp, 0, none⟩ = some (.int .i64 n) := (blk_cell BKp.out 0).trans rfl; have hp1 : w6.cell? ⟨gp, 1, none⟩ = some (.slice A1 l1.length c1) := (blk_cell BKp.out 1).trans rfl))
        have S8 := S6
        go_loopg [11] k (fun kq v11 w' => ∃ (x : Int) (ys : List S33) (v' : Value), v11 = .int .i64 x ∧ Aside0 (impl_solutions_1.l0 kq n cs F l1 x ys = some r) ∧ Aside0 (kq ≤ k) ∧ Aside0 (impl_solutions_1.St w base b (.slice Av xs.length cv) w' v' ys))
        case atStart => exact ⟨a, _, _, rfl, HL, ⟨Nat.le_refl _⟩, S8⟩
        case round =>
          obtain ⟨x, ys, v', rfl, HA, HK1, HS4⟩ := hrel
          cases gk with
          | zero => exact absurd HA.out (by simp [impl_solutions_1.l0])
          | succ k1 =>
            have H := HA.out
            clear HA S8
            simp only [impl_solutions_1.l0] at H
            have hbr : base ≤ wr.heap.size := Nat.le_trans hbase HS4.out.below.size
            have hbl : b < wr.heap.size := blk_lt HS4.out.box
            have XR := Aside0.mk (HX.out.step HS.out.row HS4.out hbase)
            have hsf : wr.cell? ⟨bf, 1, none⟩ = some (.slice Af F.length cf) := (blk_cell XR.out.f_ 1).trans rfl
            by_cases c1_ : x < (F.length : Int)
            · rw [if_pos c1_] at H
              have c1b : decide (x < (F.length : Int)) = true := decide_eq_true c1_
              by_cases c2_ : 0 ≤ x
              · rw [if_pos c2_] at H
                replace H := Option.bind_eq_some_iff.mp H
                obtain ⟨q, hq, H⟩ := H
                by_cases c3_ : q.length < 8796093022208
                · rw [if_pos c3_] at H
                  replace H := Option.bind_eq_some_iff.mp H
                  obtain ⟨ys2, hy, H⟩ := H
                  obtain ⟨y2, hy2⟩ : ∃ y_ : List S105, y_ = q ++ [rd_T105 F x] := ⟨_, rfl⟩
                  rw [← hy2] at hy
                  obtain ⟨ad, eAf, hx0, hx1⟩ := at_T105 (Kd.F_now XR.out.fs_) x c2_ c1_
                  subst eAf
                  have NY := Aside0.mk hy2
                  have HQ := Aside0.mk hq
                  have HN := Aside0.mk H
                  have L2 := Aside0.mk c3_
                  have HREC := Aside0.mk (fun (A9 : Option Addr) (c9 : Nat) (w9 : World) (hb : Below wr.heap.size wr w9) (ho : Kd.R k105 105 w9 wr.heap.size (fun k_ => wr.heap.size ≤ k_) (.slice A9 y2.length c9) y2) =>
                    ih k1 (by have := HK1.out; omega) n n2 cs Ac cc F (some ad) cf bn bc bf ba A9 c9 y2 (wrap64 (x + 1)) b v' ys ys2 w9 base (XR.out.later hb) (Kd.R_lower (Kd.R_mono ho (fun k_ hk => (⟨by omega, by omega⟩ : k_ ≠ b ∧ base ≤ k_))) hbr) (Kd.S_below (Kd.S_mono (Kd.S_bound HS4.out.row) (fun k_ hk => ⟨hk.1, fun he => by have := Kd.R_base ho _ he.symm; have := hk.2.2.1; omega⟩)) hb) ⟨(HS4.out.later hbr hb).box, (HS4.out.later hbr hb).row, Below.refl _ _, fun _ _ _ => rfl, .inl rfl⟩ (Nat.le_trans hbr hb.size) hy)
                  have C1F := Aside0.mk (HS4.out.foot H1F.out)
                  have SW := Aside0.mk (fun (W : World) (hb : Below wr.heap.size wr W) => (⟨pw_cell_below hb ((blk_cell XR.out.a_ 0).trans rfl), pw_cell_below hb hsf, pw_cell_below hb hx0, pw_cell_below hb hx1⟩ : (fun w' : World => w'.cell? ⟨ba, 0, none⟩ = some (.func (.func 137) #[] #[.pointer (some ⟨bn, 0, none⟩), .pointer (some ⟨bc, 0, none⟩), .pointer (some ⟨b, 0, none⟩), .pointer (some ⟨bf, 0, none⟩), .pointer (some ⟨ba, 0, none⟩)]) ∧ w'.cell? ⟨bf, 1, none⟩ = some (.slice (some ad) F.length cf) ∧ w'.cell? (ad.add (x.toNat * 2)) = some (.int .i64 (rd_T105 F x).f0) ∧ w'.cell? ⟨(ad.add (x.toNat * 2)).block, (ad.add (x.toNat * 2)).off + 1, none⟩ = some (.int .i64 (rd_T105 F x).f1)) W))
                  clear hq hy H hy2
                  go_wp2
                  refine start_ (n := 13) (S := fun w' => w'.cell? ⟨ba, 0, none⟩ = some (.func (.func 137) #[] #[.pointer (some ⟨bn, 0, none⟩), .pointer (some ⟨bc, 0, none⟩), .pointer (some ⟨b, 0, none⟩), .pointer (some ⟨bf, 0, none⟩), .pointer (some ⟨ba, 0, none⟩)]) ∧ w'.cell? ⟨bf, 1, none⟩ = some (.slice (some ad) F.length cf) ∧ w'.cell? (ad.add (x.toNat * 2)) = some (.int .i64 (rd_T105 F x).f0) ∧ w'.cell? ⟨(ad.add (x.toNat * 2)).block, (ad.add (x.toNat * 2)).off + 1, none⟩ = some (.int .i64 (rd_T105 F x).f1)) (ds := [12]) (bz 13 0) (by kernel_rfl) rfl rfl (SW.out _ (below_drew (Below.refl _ _))) (fun hHeld => ?_)
                  refine with_tabW impl_solutions_1.tab7 impl_solutions_1.bits7 (fun HT_ HW_ => ?_)
                  have HBd := Aside0.mk (below_drew (Below.refl wr.heap.size wr))
                  clear hx0 hx1 hsf
                  generalize wr.drew = w1 at HBd hHeld ⊢
                  refine run_ [(1, 0, 1, some 33), (0, 1, 3, some 34), (0, 3, 11, some 36), (1, 4, 27, some 37), (0, 5, 59, some 38), (0, 6, 123, some 39), (1, 7, 251, some 40), (0, 10, 1275, some 43), (0, 11, 3323, some 44)] ?_
                  repeat (first | (apply tag0; refine run_p (v := ?_) (a' := ?_) rfl rfl (any_of HT_.out (by kernel_rfl)) (fun _ _ _ h => h) (by rfl) ?_ ?_ ?_; rotate_left 2; (intro w'; go_simp; with_reducible rfl); (first | (simp only [Act.put, List.setIfInBounds_toArray, List.set_cons_zero, List.set_cons_succ, i64_w, i32_w]; rfl) | rfl)) | (apply tag1; refine run_t (v := ?_) (a' := ?_) rfl rfl (take_ofW HT_.out HW_.out (by kernel_rfl)) (fun _ _ _ h => h) (by rfl) ?_ hHeld ?_ ?_; rotate_left 2; (rintro w' ⟨s0, s1, s2, s3⟩; go_simp; with_reducible rfl); (first | (simp only [Act.put, List.setIfInBounds_toArray, List.set_cons_zero, List.set_cons_succ, i64_w, i32_w]; rfl) | rfl)))
                  refine run_nil ?_
                  refine join_ (σ := Value × Value) 2 (bz 13 3583) (fun s_ => [(35, s_.1), (41, s_.2)]) (fun s_ w' => (w'.cell? ⟨ba, 0, none⟩ = some (.func (.func 137) #[] #[.pointer (some ⟨bn, 0, none⟩), .pointer (some ⟨bc, 0, none⟩), .pointer (some ⟨b, 0, none⟩), .pointer (some ⟨bf, 0, none⟩), .pointer (some ⟨ba, 0, none⟩)]) ∧ w'.cell? ⟨bf, 1, none⟩ = some (.slice (some ad) F.length cf) ∧ w'.cell? (ad.add (x.toNat * 2)) = some (.int .i64 (rd_T105 F x).f0) ∧ w'.cell? ⟨(ad.add (x.toNat * 2)).block, (ad.add (x.toNat * 2)).off + 1, none⟩ = some (.int .i64 (rd_T105 F x).f1)) ∧ (Kd.R k105 105 w' wr.heap.size (fun k_ => wr.heap.size ≤ k_ ∧ some k_ ≠ (s_.2 : Value).ownBlock) s_.1 q) ∧ (Kd.R k105 105 w' wr.heap.size (fun k_ => some k_ ≠ (s_.1 : Value).ownBlock) s_.2 [(rd_T105 F x)]) ∧ (Below wr.heap.size wr w')) ?_ ?_
                  rotate_left
                  · intro hCont
                    refine two_ (i := 2) (j := 8) (Ni := some 35) (Nj := some 41) (bz 13 3327) (bz 13 3579) rfl rfl rfl rfl (two_of HT_.out (by kernel_rfl)) (by decide) (by decide) (fun K hK => ?_) (fun K hK => ?_)
                    · refine goes_ Tryd.func140 (by kernel_rfl) rfl #[.slice A1 l1.length c1] (by rfl) rfl rfl mapT ?_
                      refine (impl_Pair.calls A1 c1 l1 q _ (Kd.F_now (Kd.F_below C1F.out HBd.out)) HC1.out HQ.out).mono ?_
                      rintro e w2' ⟨v1, rfl, ho, hb⟩
                      refine ⟨_, rfl, ?_⟩
                      have HB2 := Aside0.mk (below_step HBd.out hb)
                      have HO2 := Aside0.mk (Kd.R_lower ho (below_size HBd.out))
                      clear ho hb
                      refine hK.out _ _ (SW.out _ HB2.out) (fun hHeld2 => ?_)
                      clear hK K
                      refine one_ (i := 8) (N := some 41) (bz 13 3583) rfl rfl (one_of HT_.out (by kernel_rfl)) (by decide) (fun K hK => ?_)
                      refine Kd.R_lit_step k105 (w0 := wr) wr.heap.size 105 (by rfl) (N := 41) rfl (xs := [(rd_T105 F x)]) (inner := [.int .i64 (rd_T105 F x).f0, .int .i64 (rd_T105 F x).f1]) (ok := fun k_ => some k_ ≠ v1.ownBlock) (okp := fun _ => False) ?hr ?hp (fun _ h => h.elim) ?hf HB2.out (below_size HB2.out) (by simp) ?_
                      case hr => first | (go_simp; done) | (go_simp; rfl)
                      case hp => exact Reps.c2 (k105_mkM _ _ _ (rd_T105 F x)) (Reps.none _ _)
                      case hf => exact fun he => by have := Kd.R_lt HO2.out _ he.symm; omega
                      intro v2 w3 ho2 hb2 hg2 hnew2
                      refine hK.out _ _ (SW.out _ hb2) (fun hHeld3 => ?_)
                      refine norm_ ?_ (hCont (v1, v2) w3 ⟨SW.out _ hb2, Kd.R_mono (Kd.R_grown (Kd.R_bound HO2.out) hg2 (fun k_ _ => by simp)) (fun k_ hk => ⟨hk.2.1, fun he => by obtain ⟨g, e, hg⟩ := hnew2; rw [e] at he; injection he with he; have := hk.2.2.1; omega⟩), ho2, hb2⟩)
                      first | rfl | (simp only [putAll, Act.put, List.setIfInBounds_toArray, List.set_cons_zero, List.set_cons_succ, i64_w, i32_w]; rfl)
                    · refine Kd.R_lit_step k105 (w0 := wr) wr.heap.size 105 (by rfl) (N := 41) rfl (xs := [(rd_T105 F x)]) (inner := [.int .i64 (rd_T105 F x).f0, .int .i64 (rd_T105 F x).f1]) (ok := fun _ => True) (okp := fun _ => False) ?hr ?hp (fun _ h => h.elim) trivial HBd.out (below_size HBd.out) (by simp) ?_
                      case hr => first | (go_simp; done) | (go_simp; rfl)
                      case hp => exact Reps.c2 (k105_mkM _ _ _ (rd_T105 F x)) (Reps.none _ _)
                      intro v2 w2' ho2 hb2 hg2 hnew2
                      have HB2 := Aside0.mk hb2
                      have HO2 := Aside0.mk ho2
                      clear hb2 ho2 hg2
                      refine hK.out _ _ (SW.out _ HB2.out) (fun hHeld2 => ?_)
                      clear hK K
                      refine one_ (i := 2) (N := some 35) (bz 13 3583) rfl rfl (one_of HT_.out (by kernel_rfl)) (by decide) (fun K hK => ?_)
                      refine goes_ Tryd.func140 (by kernel_rfl) rfl #[.slice A1 l1.length c1] (by rfl) rfl rfl mapT ?_
                      refine (impl_Pair.calls A1 c1 l1 q _ (Kd.F_now (Kd.F_below C1F.out HB2.out)) HC1.out HQ.out).mono ?_
                      rintro e w3 ⟨v1, rfl, ho, hb⟩
                      refine ⟨_, rfl, ?_⟩
                      refine hK.out _ _ (SW.out _ (below_step HB2.out hb)) (fun hHeld3 => ?_)
                      refine norm_ ?_ (hCont (v1, v2) w3 ⟨SW.out _ (below_step HB2.out hb), Kd.R_mono (Kd.R_lower (Kd.R_bound ho) (below_size HB2.out)) (fun k_ hk => ⟨Nat.le_trans (below_size HB2.out) hk.2.1, fun he => by have := Kd.R_lt HO2.out _ he.symm; have := hk.2.1; omega⟩), Kd.R_mono (Kd.R_below (Kd.R_bound HO2.out) hb) (fun k_ hk he => by have := Kd.R_base ho _ he.symm; have := hk.2.2.1; omega), below_step HB2.out hb⟩)
                      first | rfl | (simp only [putAll, Act.put, List.setIfInBounds_toArray, List.set_cons_zero, List.set_cons_succ, i64_w, i32_w]; rfl)
                  · rintro ⟨v1, v2⟩ w3 ⟨hHeld3, R1, R2, HB3⟩
                    simp only at R1 R2
                    refine norm_ (a' := ?_) ?_ ?_
                    rotate_left
                    · simp only [putAll, Act.put, List.setIfInBounds_toArray, List.set_cons_zero, List.set_cons_succ, i64_w, i32_w]
                      rfl
                    obtain ⟨A2, c2, rfl⟩ := Kd.R_slice R2
                    have HR1 := Aside0.mk R1
                    have HR2 := Aside0.mk R2
                    have HB4 := Aside0.mk HB3
                    clear R1 R2 HB3
                    refine one_ (i := 9) (N := some 42) (bz 13 4095) rfl rfl (one_of HT_.out (by kernel_rfl)) (by decide) (fun K hK => ?_)
                    refine Kd.R_append_rows_step k105 (w0 := wr) wr.heap.size (by rfl) (.tmp 35) (.tmp 41) 31 105 (.agg #[(.int .i64 0), (.int .i64 0)]) 16 rfl Tryd.underlying31 info105 rfl (by decide) (by omega) v1 q [(rd_T105 F x)] A2 1 c2 (fun k_ => wr.heap.size ≤ k_) (fun _ => False) rfl rfl (Kd.R_mono HR1.out (fun _ hk => hk.1)) (Kd.R_reads' HR2.out).2.2 (fun x_ cs_ h => by rw [k105_open h]; exact k105_mkM _ _ _ x_) (fun _ h => h.elim) (fun k_ hk => Nat.le_trans (below_size HB4.out) hk) HB4.out (below_size HB4.out) (by have := L2.out; omega) ?_
                    intro v4 w4 ho hb hg hat
                    rw [← NY.out] at ho
                    obtain ⟨A9, c9, rfl⟩ := Kd.R_slice ho
                    refine hK.out _ _ (SW.out _ hb) (fun hHeld4 => ?_)
                    clear hK K
                    refine norm_ (a' := ?_) ?_ ?_
                    rotate_left
                    · show Act.put _ (some 42) _ = _
                      simp only [Act.put, List.setIfInBounds_toArray, List.set_cons_zero, List.set_cons_succ, i64_w, i32_w]
                      rfl
                    have HB5 := Aside0.mk hb
                    have HO5 := Aside0.mk ho
                    clear hb ho hg hat
                    refine last_ (i := 12) (N := some 45) (bz 13 8191) rfl rfl (one_of HT_.out (by kernel_rfl)) (by decide) (fun K hK => ?_)
                    refine call_ 137 #[.slice A9 y2.length c9, .int .i64 (wrap64 (x + 1)), .pointer (some ⟨bn, 0, none⟩), .pointer (some ⟨bc, 0, none⟩), .pointer (some ⟨b, 0, none⟩), .pointer (some ⟨bf, 0, none⟩), .pointer (some ⟨ba, 0, none⟩)] (by rfl) rfl ?_ ?_
                    · have he := enters_ Tryd.func137 (by kernel_rfl) rfl #[.slice A9 y2.length c9, .int .i64 (wrap64 (x + 1)), .pointer (some ⟨bn, 0, none⟩), .pointer (some ⟨bc, 0, none⟩), .pointer (some ⟨b, 0, none⟩), .pointer (some ⟨bf, 0, none⟩), .pointer (some ⟨ba, 0, none⟩)] w4
                      unfold execOp
                      simp [resolve, Deferred.ofValue, invoke, Act.eval, he]
                    refine (HREC.out A9 c9 w4 HB5.out HO5.out).mono ?_
                    rintro e w7' ⟨rfl, v7, s7⟩
                    refine ⟨_, rfl, ?_⟩
                    have HS7 := Aside0.mk ((HS4.out.later hbr HB5.out).trans s7)
                    refine hK.out _ _ ?_
                    clear hK K s7
                    refine done_ (done_of HT_.out (by kernel_rfl)) ?_
                    go_wp2
                    go_roundg k1
                    case measure => have := HK1.out; omega
                    case rel => exact ⟨wrap64 (x + 1), ys2, v7, by first | rfl | (simp; done), HN, ⟨by have := HK1.out; omega⟩, HS7⟩
                · rw [if_neg c3_] at H; cases H
              · rw [if_neg c2_] at H; cases H
            · rw [if_neg c1_] at H
              have c1b : decide (x < (F.length : Int)) = false := decide_eq_false c1_
              clear c1_
              obtain rfl := Option.some.inj H
              go_wp2
              first | go_end0 | ((try simp only [Exit.inBlock, Exit.then]); refine bodyPost_ret (results_none rfl _ _ _) rfl ?_)
              exact ⟨rfl, v', HS4.out⟩

/-! ### impl_solutions: function 117 (a text of this session's own) -/
def impl_solutions.f (k : Nat) (a0 : Int) (l1 : List S70) : Option (List S33) := (impl_FullParty.f k a0).bind fun p => impl_solutions_1.f k a0 l1 p.2.1 [] 0 []
theorem impl_solutions.mono : ∀ a0 a1 k, LeO (impl_solutions.f k a0 a1) (impl_solutions.f (k + 1) a0 a1) := fun a0 a1 k => by
  unfold impl_solutions.f
  intro r h
  replace h := Option.bind_eq_some_iff.mp h
  obtain ⟨p, hp, h⟩ := h
  rw [impl_FullParty.mono _ _ _ hp]
  exact (impl_solutions_1.mono_l k).2 _ _ _ _ _ _ _ h
set_option maxHeartbeats 8000000 in
set_option maxRecDepth 100000 in
theorem impl_solutions.calls (k : Nat) (a0 : Int) (A1 : Option Addr) (c1 : Nat) (l1 : List S70) (r : List S33) (w : World) (hr1 : Kd.C k70 w A1 l1.length l1) (hc1 : l1.length ≤ c1) (h : impl_solutions.f k a0 l1 = some r) (hG : GTab 0 w := by first | exact Aside0.out ‹Aside0 (GTab _ _)› | exact GTab.up (Aside0.out ‹Aside0 (GTab _ _)›) (by repeat (first | (with_reducible first | exact Below.refl _ _ | exact Aside0.out ‹Aside0 (Below _ _ _)› | apply below_alloc | apply pw_below_drewN | apply below_drew1 | refine below_set ?_ (Aside0.out (by assumption))) | exact Aside0.out ‹Aside0 (Below _ _ _)›))) :
    Calls Tryd.prog 117 #[.int .i64 a0, .slice A1 l1.length c1] w fun e w' => ∃ v0_ : Value, e = .returned (v0_) ∧ Kd.S k33 33 w' w.heap.size (fun _ => True) v0_ r ∧ Below w.heap.size w w' := by
  have hu := Tryd.underlying33
  unfold impl_solutions.f at h
  replace h := Option.bind_eq_some_iff.mp h
  obtain ⟨⟨p1, F, p3⟩, hp, h⟩ := h
  have HP := Aside0.mk hp
  have HH := Aside0.mk h
  have HR := Aside0.mk hr1
  have HC := Aside0.mk hc1
  have HG := Aside0.mk hG
  have hst := fun (a : Addr) (fn : Fn) (x y : Array Value) (m : Mode) (w : World) => run_store Tryd.prog w a (.func fn x y) m rfl
  clear hp h hr1 hc1 hG
  go_enter Tryd.func117, Tryd.ntmps117
  go_wp2_with (first
    | ((with_reducible refine gate_dst (N := 2) rfl ?_); refine box_event ?hg (N := 2) ?hd (cs := #[.int .i64 a0]) (t := 3) ?hr ?_; (case hd => rfl); (case hg => rfl); (case hr => first | (go_simp; done) | (go_simp; rfl)); intro gn hg w2 hbox hb; have G2 := Aside0.mk hg; have BK2 := Aside0.mk hbox; have B2 := Aside0.mk hb; clear hg hbox hb; have hn2 : w2.cell? ⟨gn, 0, none⟩ = some (.int .i64 a0) := (blk_cell BK2.out 0).trans rfl)
    | ((with_reducible refine gate_dst (N := 3) rfl ?_); refine box_event ?hg (N := 3) ?hd (cs := #[.slice A1 l1.length c1]) (t := 26) ?hr ?_; (case hd => rfl); (case hg => rfl); (case hr => first | (go_simp; done) | (go_simp; rfl)); intro gc hg w3 hbox hb; have G3 := Aside0.mk hg; have BK3 := Aside0.mk hbox; have B3 := Aside0.mk hb; have hn3 := pw_cell_below hb hn2; clear hg hbox hb hn2)
    | (go_at_call 136; refine (impl_FullParty.calls k a0 p1 F p3 _ HP.out).mono ?_; rintro e w4 ⟨v1, rfl, ho, hb⟩; have HO4 := Aside0.mk ho; have B4 := Aside0.mk hb; clear ho hb hn3; obtain ⟨Af, cf, rfl⟩ := Kd.R_slice HO4.out)
    | ((with_reducible refine gate_dst (N := 5) rfl ?_); refine box_event ?hg (N := 5) ?hd (cs := #[.int .i64 0, .slice none 0 0]) (t := 33) ?hr ?_; (case hd => rfl); (case hg => rfl); (case hr => first | (go_simp; done) | (go_simp; rfl)); intro gf hg w5 hbox hb; have G5 := Aside0.mk hg; have BK5 := Aside0.mk hbox; have B5 := Aside0.mk hb; have hf5_0 : w5.cell? ⟨gf, 0, none⟩ = some (.int .i64 0) := (blk_cell hbox 0).trans rfl; have hf5_1 : w5.cell? ⟨gf, 1, none⟩ = some (.slice none 0 0) := (blk_cell hbox 1).trans rfl; have hz5_0 := blk_frozen hbox 0; have hz5_1 := blk_frozen hbox 1; clear hg hbox hb)
    | ((with_reducible refine gate_dst (N := 14) rfl ?_); refine Kd.S_lit k33 _ 33 ?hg (N := 14) ?hd (xs := ([] : List S33)) (inner := []) (ok := fun _ => True) (okp := fun _ => True) ?hr ?hp (fun _ hk => hk) trivial (Below.refl _ _) (Nat.le_refl _) (by simp) ?_; (case hd => rfl); (case hg => rfl); (case hr => first | (go_simp; done) | (go_simp; rfl)); (case hp => exact (Reps.none _ _)); intro v0 w6 ho hb hg_ hnew_; have HO6 := Aside0.mk ho; have B6 := Aside0.mk hb; clear ho hb hg_ hnew_ hf5_0 hf5_1 hz5_0 hz5_1; obtain ⟨A0, c0, e0⟩ := Kd.S_slice HO6.out; rw [List.length_nil] at e0; subst e0)
    | ((with_reducible refine gate_dst (N := 7) rfl ?_); refine box_event ?hg (N := 7) ?hd (cs := #[.slice none 0 0]) (t := 44) ?hr ?_; (case hd => rfl); (case hg => rfl); (case hr => first | (go_simp; done) | (go_simp; rfl)); intro gb hg w7 hbox hb; have G7 := Aside0.mk hg; have BK7 := Aside0.mk hbox; have B7 := Aside0.mk hb; have hb7 : w7.cell? ⟨gb, 0, none⟩ = some (.slice none 0 0) := (blk_cell hbox 0).trans rfl; have hz7 := blk_frozen hbox 0; clear hg hbox hb)
    | ((with_reducible refine gate_dst (N := 8) rfl ?_); refine box_event ?hg (N := 8) ?hd (cs := #[.nilFunc]) (t := 150) ?hr ?_; (case hd => rfl); (case hg => rfl); (case hr => first | (go_simp; done) | (go_simp; rfl)); intro ga hg w8 hbox hb; have G8 := Aside0.mk hg; have BK8 := Aside0.mk hbox; have B8 := Aside0.mk hb; have ha8 : w8.cell? ⟨ga, 0, none⟩ = some .nilFunc := (blk_cell hbox 0).trans rfl; have hz8 := blk_frozen hbox 0; clear hg hbox hb hb7 hz7)
    | (go_at_call 137; have q5 : Below w4.heap.size w4 ((w5.setCell ⟨gf, 0, none⟩ (.int .i64 p1)).setCell ⟨gf, 1, none⟩ (.slice Af F.length cf)) := below_set (below_set B5.out (Nat.le_of_eq G5.out.symm)) (Nat.le_of_eq G5.out.symm); have q7 : Below w6.heap.size w6 (w7.setCell ⟨gb, 0, none⟩ (.slice A0 0 c0)) := below_set B7.out (Nat.le_of_eq G7.out.symm); have l78 : w6.heap.size ≤ ga := (by rw [G8.out]; exact q7.size); have q9 : Below w6.heap.size w6 (w8.setCell ⟨ga, 0, none⟩ (.func (.func 137) #[] #[.pointer (some ⟨gn, 0, none⟩), .pointer (some ⟨gc, 0, none⟩), .pointer (some ⟨gb, 0, none⟩), .pointer (some ⟨gf, 0, none⟩), .pointer (some ⟨ga, 0, none⟩)])) := below_set (below_step q7 B8.out) l78; have q69 : Below ((w5.setCell ⟨gf, 0, none⟩ (.int .i64 p1)).setCell ⟨gf, 1, none⟩ (.slice Af F.length cf)).heap.size ((w5.setCell ⟨gf, 0, none⟩ (.int .i64 p1)).setCell ⟨gf, 1, none⟩ (.slice Af F.length cf)) (w8.setCell ⟨ga, 0, none⟩ (.func (.func 137) #[] #[.pointer (some ⟨gn, 0, none⟩), .pointer (some ⟨gc, 0, none⟩), .pointer (some ⟨gb, 0, none⟩), .pointer (some ⟨gf, 0, none⟩), .pointer (some ⟨ga, 0, none⟩)])) := below_step B6.out q9; have q49 : Below w4.heap.size w4 (w8.setCell ⟨ga, 0, none⟩ (.func (.func 137) #[] #[.pointer (some ⟨gn, 0, none⟩), .pointer (some ⟨gc, 0, none⟩), .pointer (some ⟨gb, 0, none⟩), .pointer (some ⟨gf, 0, none⟩), .pointer (some ⟨ga, 0, none⟩)])) := below_step q5 q69; have q04 : Below w.heap.size w w4 := below_step (below_step B2.out B3.out) B4.out; have q09 : Below w.heap.size w (w8.setCell ⟨ga, 0, none⟩ (.func (.func 137) #[] #[.pointer (some ⟨gn, 0, none⟩), .pointer (some ⟨gc, 0, none⟩), .pointer (some ⟨gb, 0, none⟩), .pointer (some ⟨gf, 0, none⟩), .pointer (some ⟨ga, 0, none⟩)])) := below_step q04 q49; have bn4 : w4.heap[gn]? = _ := blk_below (blk_below BK2.out B3.out) B4.out; have bc4 : w4.heap[gc]? = _ := blk_below BK3.out B4.out; have lb : gf + 1 ≤ w6.heap.size := (by have := blk_lt BK5.out; have := B6.out.size; simp only [World.size_setCell] at this; omega); have l9 : gb ≠ ga := (by have := blk_lt BK7.out; have := G8.out; have := B8.out.size; simp only [World.size_setCell] at *; omega); have hbx9 : (w8.setCell ⟨ga, 0, none⟩ (.func (.func 137) #[] #[.pointer (some ⟨gn, 0, none⟩), .pointer (some ⟨gc, 0, none⟩), .pointer (some ⟨gb, 0, none⟩), .pointer (some ⟨gf, 0, none⟩), .pointer (some ⟨ga, 0, none⟩)])).heap[gb]? = some (.cells #[.slice A0 0 c0] 44 (0, 0)) := blk_far (blk_below (blk_set BK7.out 0 _) B8.out) l9 _; have ln : gn < w4.heap.size := blk_lt bn4; have lc : gc < w4.heap.size := blk_lt bc4; have e5 := G5.out; have e7 := G7.out; have s04 := q04.size; have lg : 0 < w.heap.size := World.block_lt_of_cell? w _ (HG.out 0 (by decide)); have hS9 : impl_solutions_1.St (w8.setCell ⟨ga, 0, none⟩ (.func (.func 137) #[] #[.pointer (some ⟨gn, 0, none⟩), .pointer (some ⟨gc, 0, none⟩), .pointer (some ⟨gb, 0, none⟩), .pointer (some ⟨gf, 0, none⟩), .pointer (some ⟨ga, 0, none⟩)])) (gf + 1) gb (.slice A0 0 c0) (w8.setCell ⟨ga, 0, none⟩ (.func (.func 137) #[] #[.pointer (some ⟨gn, 0, none⟩), .pointer (some ⟨gc, 0, none⟩), .pointer (some ⟨gb, 0, none⟩), .pointer (some ⟨gf, 0, none⟩), .pointer (some ⟨ga, 0, none⟩)])) (.slice A0 0 c0) [] := ⟨hbx9, Kd.S_below (Kd.S_mono (Kd.S_lower (Kd.S_bound HO6.out) (by have := blk_lt BK5.out; simp only [World.size_setCell]; omega)) (fun k_ hk => ⟨by have := hk.2.2.1; omega, by have := hk.2.1; have := blk_lt BK5.out; simp only [World.size_setCell] at *; omega⟩)) q9, Below.refl _ _, fun _ _ _ => rfl, .inl rfl⟩; have own : ∀ k_, k_ < gf + 1 → some k_ ≠ (Value.slice A0 0 c0).ownBlock := fun k_ hk he => (by have := Kd.S_base HO6.out _ he.symm; have := blk_lt BK5.out; simp only [World.size_setCell] at *; omega); have hX9 : impl_solutions_1.Bx (w8.setCell ⟨ga, 0, none⟩ (.func (.func 137) #[] #[.pointer (some ⟨gn, 0, none⟩), .pointer (some ⟨gc, 0, none⟩), .pointer (some ⟨gb, 0, none⟩), .pointer (some ⟨gf, 0, none⟩), .pointer (some ⟨ga, 0, none⟩)])) (gf + 1) gb (.slice A0 0 c0) a0 p1 l1 A1 c1 F Af cf gn gc gf ga := ⟨blk_below bn4 q49, blk_below bc4 q49, blk_below (blk_set (blk_set BK5.out 0 _) 1 _) q69, blk_set BK8.out 0 _, Kd.F_mono (Kd.F_below (Kd.C_F (Kd.heap_iso _ (Kd.heap_pair (Kd.heap_int _) (Kd.heap_pair (Kd.heap_int _) (Kd.heap_int _)))) HR.out) q09) (fun k_ hk => ⟨by omega, own k_ (by omega)⟩), HC.out, Kd.F_mono (Kd.F_below (Kd.R_F (Kd.R_bound HO4.out)) q49) (fun k_ hk => ⟨by have := hk.2.2.1; omega, own k_ (by have := hk.2.2.1; omega)⟩), (Kd.R_reads' HO4.out).2.1, GTab.up HG.out q09, ⟨by omega, by omega, by omega, by omega, Ne.symm l9, by omega⟩⟩; refine (impl_solutions_1.calls k a0 p1 l1 A1 c1 F Af cf gn gc gf ga none 0 [] 0 gb (.slice A0 0 c0) [] r _ (gf + 1) hX9 (Kd.R_nil _ _ _ _ _) (Kd.S_mono hS9.row (fun k_ hk => ⟨hk, by simp [Value.ownBlock]⟩)) hS9 (by have := q9.size; omega) HH.out).mono ?_; rintro e w10 ⟨rfl, v', s⟩; have S10 := Aside0.mk s; have Q09 := Aside0.mk (q09.trans (s.below.mono (by omega))); have LF := Aside0.mk (show w.heap.size ≤ gf + 1 by omega); have ho10 : w10.cell? ⟨gb, 0, none⟩ = some v' := (blk_cell s.box 0).trans rfl; clear s hX9 hS9 own lg ln lc e5 e7 s04 hbx9 l9 lb bc4 bn4 q09 q04 q49 q69 q9 l78 q7 q5))
  go_ret
  exact ⟨_, rfl, Kd.S_mono (Kd.S_lower S10.out.row LF.out) (fun _ _ => trivial), Q09.out⟩

/-! ### impl_Puzzle_all: function 74 -/
def impl_Puzzle_all.f (k : Nat) (a0_0 : Int) (l0_1 : List (S70)) : Option ((List (S33))) := (impl_solutions.f k a0_0 l0_1).bind fun t441 => (some t441)
theorem impl_Puzzle_all.mono : ∀ a0 a1 k, LeO (impl_Puzzle_all.f k a0 a1) (impl_Puzzle_all.f (k + 1) a0 a1) := by
 intro a0 a1 k
 unfold impl_Puzzle_all.f
 repeat' first
   | (with_reducible exact impl_solutions.mono _ _ _)
   | (with_reducible exact LeO.refl _)
   | (with_reducible exact LeO.none _)
   | (with_reducible refine LeO.ite ?_ ?_)
   | (with_reducible refine LeO.bind ?_ (fun _ => ?_))
   | exact impl_solutions.mono _ _ _
   | exact LeO.none _
   | refine LeO.ite ?_ ?_
   | refine LeO.bind ?_ (fun _ => ?_)
set_option maxHeartbeats 8000000 in
set_option maxRecDepth 100000 in
theorem impl_Puzzle_all.calls (k : Nat) (a0_0 : Int) (A0_1 : Option Addr) (c0_1 : Nat) (l0_1 : List (S70)) (r : List (S33)) (w : World) (hr0_1 : Kd.C k70 w A0_1 l0_1.length l0_1) (hc0_1 : l0_1.length ≤ c0_1) (h : impl_Puzzle_all.f k a0_0 l0_1 = some r) (hG : GTab 0 w := by first | exact Aside0.out ‹Aside0 (GTab _ _)› | exact GTab.up (Aside0.out ‹Aside0 (GTab _ _)›) (by repeat (first | (with_reducible first | exact Below.refl _ _ | exact Aside0.out ‹Aside0 (Below _ _ _)› | apply below_alloc | apply pw_below_drewN | apply below_drew1 | refine below_set ?_ (Aside0.out (by assumption))) | exact Aside0.out ‹Aside0 (Below _ _ _)›))) :
  Calls Tryd.prog 74 #[.agg #[.int .i64 a0_0, .slice A0_1 l0_1.length c0_1]] w fun e w' => ∃ v0_ : Value, e = .returned (v0_) ∧ Kd.S k33 33 w' w.heap.size (fun _ => True) v0_ r ∧ Below w.heap.size w w' := by
 have hu28 := Tryd.underlying28
 have HG := Aside0.mk (p := GTab _ _) hG
 clear hG
 have HR0_1 := Aside0.mk hr0_1
 have HC0_1 := Aside0.mk hc0_1
 clear hr0_1 hc0_1
 have HB := Aside0.mk (Below.refl w.heap.size w)
 have H : ((impl_solutions.f k a0_0 l0_1).bind fun t441 => (some t441)) = some r := h
 clear h
 replace H := Option.bind_eq_some_iff.mp H
 obtain ⟨t441, A20, H⟩ := H
 replace H : (some t441) = some r := H
 have A2 := Aside0.mk A20
 clear A20
 obtain rfl := Option.some.inj H
 go_enter Tryd.func74, Tryd.ntmps74
 go_wp2_with (first | ((with_reducible refine gate_dst (N := 1) rfl ?_); refine bxE 1 #[.int .i64 a0_0, .slice A0_1 l0_1.length c0_1] 28 rfl ?_; intro gb440 hg w3 hbox hb; have BK440 := Aside0.mk (hbox); have GW440 := gS HB hg; have GE440 := gS HB hg; replace HB := hS HB hb; clear hb hbox hg; have hcz4_0 := cz BK440 0; have hcz4_1 := cz BK440 1; have hfz4_0 := fz BK440 0; have hfz4_1 := fz BK440 1) | ((with_reducible refine gate_callee (f := 117) rfl ?_); refine goC (N := some 7) Tryd.func117 #[.int .i64 a0_0, .slice A0_1 l0_1.length c0_1] rfl ?_; (with_reducible refine (impl_solutions.calls k a0_0 _ _ l0_1 t441 _ ?side1 ?side2 A2.out).mono ?_); (case side1 => exact cS (Kd.C_below HR0_1.out HB.out)); (case side2 => exact HC0_1.out); rintro e w5 ⟨v442, rfl, ho0, hb⟩; refine ⟨_, rfl, ?_⟩; have HO443 := Aside0.mk (Kd.S_lower ho0 (below_size hB)); replace BK440 := bS BK440 hb; replace HB := hS HB hb; (try clear hb); (try clear hb2); (try clear hk); (try clear hi); (try clear ho0)))
 go_ret
 exact ⟨_, by first | rfl | (simp [errW_none, errW_some] <;> rfl) | (simp [*, errW_none, errW_some] <;> rfl), sU HO443, hB⟩

/-! ### impl_Solutions: function 24 -/
def impl_Solutions.f (k : Nat) (a0_0 : Int) (l0_1 : List (S70)) : Option ((List (S33)) × Bool) := (impl_IsPuzzle.f a0_0 l0_1).bind fun t445 => (if t445 = true then ((impl_Puzzle_all.f k a0_0 l0_1).bind fun t446 => (if (t446.length : Int) > 200 then (some (([] : List (S33)), false)) else (some (t446, true)))) else (some (([] : List (S33)), false)))
theorem impl_Solutions.mono : ∀ a0 a1 k, LeO (impl_Solutions.f k a0 a1) (impl_Solutions.f (k + 1) a0 a1) := by
 intro a0 a1 k
 unfold impl_Solutions.f
 repeat' first
   | (with_reducible exact impl_Puzzle_all.mono _ _ _)
   | (with_reducible exact LeO.refl _)
   | (with_reducible exact LeO.none _)
   | (with_reducible refine LeO.ite ?_ ?_)
   | (with_reducible refine LeO.bind ?_ (fun _ => ?_))
   | exact impl_Puzzle_all.mono _ _ _
   | exact LeO.none _
   | refine LeO.ite ?_ ?_
   | refine LeO.bind ?_ (fun _ => ?_)
set_option maxHeartbeats 8000000 in
set_option maxRecDepth 100000 in
theorem impl_Solutions.calls (k : Nat) (a0_0 : Int) (A0_1 : Option Addr) (c0_1 : Nat) (l0_1 : List (S70)) (r1 : List (S33)) (r2 : Bool) (w : World) (hr0_1 : Kd.C k70 w A0_1 l0_1.length l0_1) (hc0_1 : l0_1.length ≤ c0_1) (h : impl_Solutions.f k a0_0 l0_1 = some (r1, r2)) (hG : GTab 0 w := by first | exact Aside0.out ‹Aside0 (GTab _ _)› | exact GTab.up (Aside0.out ‹Aside0 (GTab _ _)›) (by repeat (first | (with_reducible first | exact Below.refl _ _ | exact Aside0.out ‹Aside0 (Below _ _ _)› | apply below_alloc | apply pw_below_drewN | apply below_drew1 | refine below_set ?_ (Aside0.out (by assumption))) | exact Aside0.out ‹Aside0 (Below _ _ _)›))) :
  Calls Tryd.prog 24 #[.agg #[.int .i64 a0_0, .slice A0_1 l0_1.length c0_1]] w fun e w' => ∃ v0_ : Value, e = .returned (.tuple #[v0_, .bool r2]) ∧ Kd.S k33 33 w' w.heap.size (fun _ => True) v0_ r1 ∧ Below w.heap.size w w' := by
 have hu28 := Tryd.underlying28
 have HG := Aside0.mk (p := GTab _ _) hG
 clear hG
 have HR0_1 := Aside0.mk hr0_1
 have HC0_1 := Aside0.mk hc0_1
 clear hr0_1 hc0_1
 have HB := Aside0.mk (Below.refl w.heap.size w)
 have H : ((impl_IsPuzzle.f a0_0 l0_1).bind fun t445 => (if t445 = true then ((impl_Puzzle_all.f k a0_0 l0_1).bind fun t446 => (if (t446.length : Int) > 200 then (some (([] : List (S33)), false)) else (some (t446, true)))) else (some (([] : List (S33)), false)))) = some (r1, r2) := h
 clear h
 replace H := Option.bind_eq_some_iff.mp H
 obtain ⟨t445, A20, H⟩ := H
 try dsimp only at H
 have A2 := Aside0.mk A20
 clear A20
 by_cases c3 : t445 = true
 ·subst c3
  rw [if_pos rfl] at H
  replace H := Option.bind_eq_some_iff.mp H
  obtain ⟨t446, A40, H⟩ := H
  try dsimp only at H
  have A4 := Aside0.mk A40
  clear A40
  by_cases c5 : (t446.length : Int) > 200
  ·rw [if_pos c5] at H
   have c5b0 : decide (200 < (t446.length : Int)) = true := decide_eq_true c5
   have c5b1 : decide (200 < t446.length) = true := decide_eq_true (by omega)
   clear c5
   simp only [Option.some.injEq, Prod.mk.injEq] at H
   obtain ⟨rfl, rfl⟩ := H
   go_enter Tryd.func24, Tryd.ntmps24
   go_wp2_with (first | ((with_reducible refine gate_dst (N := 1) rfl ?_); refine bxE 1 #[.int .i64 a0_0, .slice A0_1 l0_1.length c0_1] 28 rfl ?_; intro gb444 hg w6 hbox hb; have BK444 := Aside0.mk (hbox); have GW444 := gS HB hg; have GE444 := gS HB hg; replace HB := hS HB hb; clear hb hbox hg; have hcz7_0 := cz BK444 0; have hcz7_1 := cz BK444 1; have hfz7_0 := fz BK444 0; have hfz7_1 := fz BK444 1) | ((with_reducible refine gate_callee (f := 73) rfl ?_); refine goC (N := some 6) Tryd.func73 #[.agg #[.int .i64 a0_0, .slice A0_1 l0_1.length c0_1]] rfl ?_; (with_reducible refine (impl_IsPuzzle.calls a0_0 _ _ l0_1 true _ ?side1 ?side2 A2.out).mono ?_); (case side1 => exact cS (Kd.C_below HR0_1.out HB.out)); (case side2 => exact HC0_1.out); rintro e w8 ⟨rfl, hb⟩; refine ⟨_, rfl, ?_⟩; replace BK444 := bS BK444 hb; replace HB := hS HB hb; (try clear hb); (try clear hb2); (try clear hk); (try clear hi); have hcz9_0 := cz BK444 0; have hcz9_1 := cz BK444 1; have hfz9_0 := fz BK444 0; have hfz9_1 := fz BK444 1) | ((with_reducible refine gate_callee (f := 74) rfl ?_); refine goC (N := some 9) Tryd.func74 #[.agg #[.int .i64 a0_0, .slice A0_1 l0_1.length c0_1]] rfl ?_; (with_reducible refine (impl_Puzzle_all.calls k a0_0 _ _ l0_1 t446 _ ?side1 ?side2 A4.out).mono ?_); (case side1 => exact cS (Kd.C_below HR0_1.out HB.out)); (case side2 => exact HC0_1.out); rintro e w10 ⟨v447, rfl, ho0, hb⟩; refine ⟨_, rfl, ?_⟩; have HO448 := Aside0.mk (Kd.S_lower ho0 (below_size hB)); replace BK444 := bS BK444 hb; replace HB := hS HB hb; (try clear hb); (try clear hb2); (try clear hk); (try clear hi); (try clear ho0); obtain ⟨Ao11, co11, eo11⟩ := Kd.S_slice HO448.out; subst eo11))
   go_ret2
   exact ⟨_, by first | rfl | (simp [errW_none, errW_some] <;> rfl) | (simp [*, errW_none, errW_some] <;> rfl), by first | exact Kd.S_nil _ _ _ _ _ | exact Kd.N_nil _ _ _ _ _ | exact Kd.V_nil _ _ _ _ _ | exact Kd.Q_nil _ _ _ _ _ | exact Kd.R_nil _ _ _ _ _, hB⟩
  ·rw [if_neg c5] at H
   have c5b0 : decide (200 < (t446.length : Int)) = false := decide_eq_false c5
   have c5b1 : decide (200 < t446.length) = false := decide_eq_false (by omega)
   clear c5
   simp only [Option.some.injEq, Prod.mk.injEq] at H
   obtain ⟨rfl, rfl⟩ := H
   go_enter Tryd.func24, Tryd.ntmps24
   go_wp2_with (first | ((with_reducible refine gate_dst (N := 1) rfl ?_); refine bxE 1 #[.int .i64 a0_0, .slice A0_1 l0_1.length c0_1] 28 rfl ?_; intro gb444 hg w12 hbox hb; have BK444 := Aside0.mk (hbox); have GW444 := gS HB hg; have GE444 := gS HB hg; replace HB := hS HB hb; clear hb hbox hg; have hcz13_0 := cz BK444 0; have hcz13_1 := cz BK444 1; have hfz13_0 := fz BK444 0; have hfz13_1 := fz BK444 1) | ((with_reducible refine gate_callee (f := 73) rfl ?_); refine goC (N := some 6) Tryd.func73 #[.agg #[.int .i64 a0_0, .slice A0_1 l0_1.length c0_1]] rfl ?_; (with_reducible refine (impl_IsPuzzle.calls a0_0 _ _ l0_1 true _ ?side1 ?side2 A2.out).mono ?_); (case side1 => exact cS (Kd.C_below HR0_1.out HB.out)); (case side2 => exact HC0_1.out); rintro e w14 ⟨rfl, hb⟩; refine ⟨_, rfl, ?_⟩; replace BK444 := bS BK444 hb; replace HB := hS HB hb; (try clear hb); (try clear hb2); (try clear hk); (try clear hi); have hcz15_0 := cz BK444 0; have hcz15_1 := cz BK444 1; have hfz15_0 := fz BK444 0; have hfz15_1 := fz BK444 1) | ((with_reducible refine gate_callee (f := 74) rfl ?_); refine goC (N := some 9) Tryd.func74 #[.agg #[.int .i64 a0_0, .slice A0_1 l0_1.length c0_1]] rfl ?_; (with_reducible refine (impl_Puzzle_all.calls k a0_0 _ _ l0_1 t446 _ ?side1 ?side2 A4.out).mono ?_); (case side1 => exact cS (Kd.C_below HR0_1.out HB.out)); (case side2 => exact HC0_1.out); rintro e w16 ⟨v447, rfl, ho0, hb⟩; refine ⟨_, rfl, ?_⟩; have HO448 := Aside0.mk (Kd.S_lower ho0 (below_size hB)); replace BK444 := bS BK444 hb; replace HB := hS HB hb; (try clear hb); (try clear hb2); (try clear hk); (try clear hi); (try clear ho0); obtain ⟨Ao17, co17, eo17⟩ := Kd.S_slice HO448.out; subst eo17))
   go_ret2
   exact ⟨_, by first | rfl | (simp [errW_none, errW_some] <;> rfl) | (simp [*, errW_none, errW_some] <;> rfl), sU HO448, hB⟩
 ·replace c3 := Bool.eq_false_iff.mpr c3
  subst c3
  rw [if_neg (show ¬ (false = true) by decide)] at H
  simp only [Option.some.injEq, Prod.mk.injEq] at H
  obtain ⟨rfl, rfl⟩ := H
  go_enter Tryd.func24, Tryd.ntmps24
  go_wp2_with (first | ((with_reducible refine gate_dst (N := 1) rfl ?_); refine bxE 1 #[.int .i64 a0_0, .slice A0_1 l0_1.length c0_1] 28 rfl ?_; intro gb444 hg w18 hbox hb; have BK444 := Aside0.mk (hbox); have GW444 := gS HB hg; have GE444 := gS HB hg; replace HB := hS HB hb; clear hb hbox hg; have hcz19_0 := cz BK444 0; have hcz19_1 := cz BK444 1; have hfz19_0 := fz BK444 0; have hfz19_1 := fz BK444 1) | ((with_reducible refine gate_callee (f := 73) rfl ?_); refine goC (N := some 6) Tryd.func73 #[.agg #[.int .i64 a0_0, .slice A0_1 l0_1.length c0_1]] rfl ?_; (with_reducible refine (impl_IsPuzzle.calls a0_0 _ _ l0_1 false _ ?side1 ?side2 A2.out).mono ?_); (case side1 => exact cS (Kd.C_below HR0_1.out HB.out)); (case side2 => exact HC0_1.out); rintro e w20 ⟨rfl, hb⟩; refine ⟨_, rfl, ?_⟩; replace BK444 := bS BK444 hb; replace HB := hS HB hb; (try clear hb); (try clear hb2); (try clear hk); (try clear hi)))
  go_ret2
  exact ⟨_, by first | rfl | (simp [errW_none, errW_some] <;> rfl) | (simp [*, errW_none, errW_some] <;> rfl), by first | exact Kd.S_nil _ _ _ _ _ | exact Kd.N_nil _ _ _ _ _ | exact Kd.V_nil _ _ _ _ _ | exact Kd.Q_nil _ _ _ _ _ | exact Kd.R_nil _ _ _ _ _, hB⟩

end Go.Proofs.YtjpfbkkikcpmhaaDoor.PFnExactSolutions
