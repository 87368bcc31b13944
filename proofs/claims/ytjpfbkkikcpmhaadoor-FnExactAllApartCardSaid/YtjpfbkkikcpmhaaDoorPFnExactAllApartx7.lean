-- Of this session's own program wip/gen/gen.py (it drives the kit's print): contracts of the functions that the law reaches.
import Derived.Test.YtjpfbkkikcpmhaaDoorPFnExactAllApartx0
import Derived.Test.YtjpfbkkikcpmhaaDoorPFnExactAllApartx6
namespace Go.Proofs.YtjpfbkkikcpmhaaDoor.PFnExactAllApart
open Go.RowKit Go.Proofs.YtjpfbkkikcpmhaaDoorW.PrintWords Go.Proofs.YtjpfbkkikcpmhaaDoorW.PrintLast Go.Proofs.YtjpfbkkikcpmhaaDoorW.PrintMore Go.Proofs.YtjpfbkkikcpmhaaDoor.Base
attribute [local go_sem] max2_int min2_int max_two min_two max_three min_three max_four min_four   -- for this text's walks alone
set_option linter.unusedVariables false
set_option linter.unusedSimpArgs false

/-! ### impl_comparePairs: function 119 -/
def impl_comparePairs.f (k : Nat) (a0_0 : Int) (a0_1 : Int) (a1_0 : Int) (a1_1 : Int) : Option (Int) := (cmp_Compare_int.f a0_0 a1_0).bind fun t239 => ((cmp_Compare_int.f a0_1 a1_1).bind fun t240 => ((cmp_Or_int.f k (([t239, t240] : List Int))).bind fun t244 => (some t244)))
theorem impl_comparePairs.mono : ∀ a0 a1 a2 a3 k, LeO (impl_comparePairs.f k a0 a1 a2 a3) (impl_comparePairs.f (k + 1) a0 a1 a2 a3) := by
 intro a0 a1 a2 a3 k
 unfold impl_comparePairs.f
 repeat' first
   | (with_reducible exact cmp_Or_int.mono _ _)
   | (with_reducible exact LeO.refl _)
   | (with_reducible exact LeO.none _)
   | (with_reducible refine LeO.ite ?_ ?_)
   | (with_reducible refine LeO.bind ?_ (fun _ => ?_))
   | exact cmp_Or_int.mono _ _
   | exact LeO.none _
   | refine LeO.ite ?_ ?_
   | refine LeO.bind ?_ (fun _ => ?_)
def impl_comparePairs.T1 : Bool × List (List Nat × List Nat) := (true, [([], []), ([0], [0]), ([], []), ([2], [2]), ([1, 3], [1, 3]), ([], []), ([5], [5]), ([], []), ([7], [7]), ([6, 8, 4], [6, 8]), ([4, 9], [4, 9]), ([10, 9], [10]), ([11, 11, 0, 1, 2, 3, 4, 5, 6, 7, 8, 9, 10, 11], [11])])
def impl_comparePairs.B1 : List Nat := [0, 1, 0, 4, 15, 0, 32, 0, 128, 511, 1023, 2047, 4095]
theorem impl_comparePairs.tab1 : rtab .any (opsOf Tryd.f119 1) = impl_comparePairs.T1 := by kernel_rfl
theorem impl_comparePairs.bits1 : waitsOk impl_comparePairs.T1.2 impl_comparePairs.B1 = true := by kernel_rfl
set_option maxHeartbeats 8000000 in
set_option maxRecDepth 100000 in
theorem impl_comparePairs.calls (k : Nat) (a0_0 : Int) (a0_1 : Int) (a1_0 : Int) (a1_1 : Int) (r : Int) (w : World) (h : impl_comparePairs.f k a0_0 a0_1 a1_0 a1_1 = some r) :
  Calls Tryd.prog 119 #[.agg #[.int .i64 a0_0, .int .i64 a0_1], .agg #[.int .i64 a1_0, .int .i64 a1_1]] w fun e w' => e = .returned (.int .i64 r) ∧ Below w.heap.size w w' := by
 have hu105 := Tryd.underlying105
 have HB := Aside0.mk (Below.refl w.heap.size w)
 have H : ((cmp_Compare_int.f a0_0 a1_0).bind fun t239 => ((cmp_Compare_int.f a0_1 a1_1).bind fun t240 => ((cmp_Or_int.f k (([t239, t240] : List Int))).bind fun t244 => (some t244)))) = some r := h
 clear h
 replace H := Option.bind_eq_some_iff.mp H
 obtain ⟨t239, A30, H⟩ := H
 try dsimp only at H
 have A3 := Aside0.mk A30
 clear A30
 replace H := Option.bind_eq_some_iff.mp H
 obtain ⟨t240, A40, H⟩ := H
 try dsimp only at H
 have A4 := Aside0.mk A40
 clear A40
 obtain ⟨y241, hy241⟩ : ∃ y_ : List Int, y_ = (([t239, t240] : List Int)) := ⟨_, rfl⟩
 replace H : ((cmp_Or_int.f k y241).bind fun t244 => (some t244)) = some r := by first | (rw [hy241]; with_reducible exact H) | (have H2_ := (Option.bind_some _ _).symm.trans H; rw [hy241]; with_reducible exact H2_) | (have H2_ := (Option.bind_some _ _).symm.trans H; with_reducible exact H2_) | with_reducible exact H | (rw [hy241]; exact H) | exact H
 have Ny241 := Aside0.mk hy241
 clear hy241
 replace H := Option.bind_eq_some_iff.mp H
 obtain ⟨t244, A50, H⟩ := H
 replace H : (some t244) = some r := H
 have A5 := Aside0.mk A50
 clear A50
 obtain rfl := Option.some.inj H
 go_enter Tryd.func119, Tryd.ntmps119
 try go_wp2_with (first | ((with_reducible refine gate_dst (N := 2) rfl ?_); refine bxE 2 #[.int .i64 a0_0, .int .i64 a0_1] 105 rfl ?_; intro gb237 hg w6 hbox hb; have BK237 := Aside0.mk (hbox); have GW237 := gS HB hg; have GE237 := gS HB hg; replace HB := hS HB hb; clear hb hbox hg) | ((with_reducible refine gate_dst (N := 3) rfl ?_); refine bxE 3 #[.int .i64 a1_0, .int .i64 a1_1] 105 rfl ?_; intro gb238 hg w7 hbox hb; have BK238 := Aside0.mk (hbox); have GW238 := gS HB hg; have GE238 := gS HB hg; have NB237_238 := nL BK237 hg; have NB238_237 := nG BK237 hg; replace BK237 := bS BK237 hb; replace HB := hS HB hb; clear hb hbox hg))
 replace BK237 := Aside0.mk (blk_drew BK237.out)
 replace BK238 := Aside0.mk (blk_drew BK238.out)
 replace HB := Aside0.mk (below_drew1 HB.out)
 refine start_ (n := 13) (S := fun w' => w'.cell? ⟨gb237, 0, none⟩ = some (.int .i64 a0_0) ∧ w'.cell? ⟨gb237, 1, none⟩ = some (.int .i64 a0_1) ∧ w'.cell? ⟨gb238, 0, none⟩ = some (.int .i64 a1_0) ∧ w'.cell? ⟨gb238, 1, none⟩ = some (.int .i64 a1_1)) (ds := []) (bz 13 0) (by kernel_rfl) rfl rfl ⟨(blk_cell BK237.out 0).trans rfl, (blk_cell BK237.out 1).trans rfl, (blk_cell BK238.out 0).trans rfl, (blk_cell BK238.out 1).trans rfl⟩ (fun hHeld => ?_); refine with_tabW impl_comparePairs.tab1 impl_comparePairs.bits1 (fun HT_ HW_ => ?_)
 generalize w7.drew = w8 at BK237 BK238 HB hHeld ⊢
 refine run_ [(0, 0, 1, some 5), (0, 2, 5, some 7), (0, 5, 37, some 10), (0, 7, 165, some 12), (1, 1, 167, some 6), (1, 3, 175, some 8), (1, 6, 239, some 11), (1, 8, 495, some 13)] ?_
 repeat (first | (apply tag0; refine run_p (v := ?_) (a' := ?_) rfl rfl (any_of HT_.out (by kernel_rfl)) (fun _ _ _ h => h) (by rfl) ?_ ?_ ?_; rotate_left 2; (intro w'; go_simp; with_reducible rfl); (first | (simp only [Act.put, List.setIfInBounds_toArray, List.set_cons_zero, List.set_cons_succ, i64_w, i32_w]; rfl) | rfl)) | (apply tag1; refine run_t (v := ?_) (a' := ?_) rfl rfl (take_ofW HT_.out HW_.out (by kernel_rfl)) (fun _ _ _ h => h) (by rfl) ?_ hHeld ?_ ?_; rotate_left 2; (rintro w' ⟨s0, s1, s2, s3⟩; go_simp; with_reducible rfl); (first | (simp only [Act.put, List.setIfInBounds_toArray, List.set_cons_zero, List.set_cons_succ, i64_w, i32_w]; rfl) | rfl)))
 refine run_nil ?_
 refine one_ (i := 4) (N := some 9) (bz 13 511) rfl rfl (one_of HT_.out (by kernel_rfl)) (by decide) (fun K hK => ?_)
 refine goes_ Tryd.func142 (by kernel_rfl) rfl #[.int .i64 a0_0, .int .i64 a1_0] (by rfl) rfl rfl mapT ?_
 with_reducible refine (cmp_Compare_int.calls a0_0 a1_0 t239 _ A3.out).mono ?_
 rintro e w' ⟨rfl, ⟨nd, rfl⟩⟩
 refine ⟨_, rfl, ?_⟩
 refine hK.out _ _ ⟨(blk_cell BK237.out 0).trans rfl, (blk_cell BK237.out 1).trans rfl, (blk_cell BK238.out 0).trans rfl, (blk_cell BK238.out 1).trans rfl⟩ (fun hHeld => ?_)
 clear hK K
 refine norm_ (a' := ?_) ?_ ?_
 rotate_left
 ·show Act.put _ (some 9) _ = _
  simp only [Act.put, List.setIfInBounds_toArray, List.set_cons_zero, List.set_cons_succ, i64_w, i32_w]
  rfl
 refine one_ (i := 9) (N := some 14) (bz 13 1023) rfl rfl (one_of HT_.out (by kernel_rfl)) (by decide) (fun K hK => ?_)
 refine goes_ Tryd.func142 (by kernel_rfl) rfl #[.int .i64 a0_1, .int .i64 a1_1] (by rfl) rfl rfl mapT ?_
 with_reducible refine (cmp_Compare_int.calls a0_1 a1_1 t240 _ A4.out).mono ?_
 rintro e w' ⟨rfl, ⟨nd, rfl⟩⟩
 refine ⟨_, rfl, ?_⟩
 refine hK.out _ _ ⟨(blk_cell BK237.out 0).trans rfl, (blk_cell BK237.out 1).trans rfl, (blk_cell BK238.out 0).trans rfl, (blk_cell BK238.out 1).trans rfl⟩ (fun hHeld => ?_)
 clear hK K
 refine norm_ (a' := ?_) ?_ ?_
 rotate_left
 ·show Act.put _ (some 14) _ = _
  simp only [Act.put, List.setIfInBounds_toArray, List.set_cons_zero, List.set_cons_succ, i64_w, i32_w]
  rfl
 refine one_ (i := 10) (N := some 15) (bz 13 2047) rfl rfl (one_of HT_.out (by kernel_rfl)) (by decide) (fun K hK => ?_)
 refine Kd.R_lit_step (Kd.int .i64) _ 3 ?hg (N := 15) ?hd (xs := ([t239, t240] : List Int)) (inner := [.int .i64 t239, .int .i64 t240]) (ok := fun _ => True) (okp := fun _ => True) ?hr ?hp (fun _ hk => hk) trivial (Below.refl _ _) (Nat.le_refl _) (by simp) ?_; (case hd => rfl); (case hg => rfl); (case hr => first | (go_simp; done) | (go_simp; rfl)); (case hp => exact (Reps.one (show Kd.M (Kd.int .i64) _ _ _ t239 [.int .i64 t239] from rfl) (Reps.one (show Kd.M (Kd.int .i64) _ _ _ t240 [.int .i64 t240] from rfl) (Reps.none _ _))))
 intro v242 w9 ho10 hb hg_ hnew_
 clear hg_ hnew_
 (first | rw [← Ny241.out] at ho10 | (simp only [Int.reduceToNat] at ho10; rw [← Ny241.out] at ho10))
 have HO243 := Aside0.mk (Kd.R_lower ho10 (below_size hB))
 replace BK237 := bS BK237 hb
 replace BK238 := bS BK238 hb
 replace HB := hS HB hb
 clear hb ho10
 obtain ⟨Ao11, co11, eo11⟩ := Kd.R_slice HO243.out
 (first | subst eo11 | (injection eo11 with f1_ f2_ f3_; have f4_ := f1_.symm; have f5_ := f3_.symm; clear f1_ f2_ f3_; subst f4_; subst f5_))
 refine hK.out _ _ ⟨(blk_cell BK237.out 0).trans rfl, (blk_cell BK237.out 1).trans rfl, (blk_cell BK238.out 0).trans rfl, (blk_cell BK238.out 1).trans rfl⟩ (fun hHeld => ?_)
 clear hK K
 refine norm_ (a' := ?_) ?_ ?_
 rotate_left
 ·show Act.put _ (some 15) _ = _
  simp only [Act.put, List.setIfInBounds_toArray, List.set_cons_zero, List.set_cons_succ, i64_w, i32_w]
  rfl
 refine one_ (i := 11) (N := some 16) (bz 13 4095) rfl rfl (one_of HT_.out (by kernel_rfl)) (by decide) (fun K hK => ?_)
 refine goes_ Tryd.func141 (by kernel_rfl) rfl #[.slice Ao11 y241.length co11] (by rfl) rfl rfl mapT ?_
 with_reducible refine (cmp_Or_int.calls k _ _ y241 t244 _ ?side1 ?side2 A5.out).mono ?_
 (case side1 => exact cS (Kd.R_reads' HO243.out).2.2)
 (case side2 => exact (Kd.R_reads' HO243.out).2.1)
 rintro e w' ⟨rfl, ⟨nd, rfl⟩⟩
 refine ⟨_, rfl, ?_⟩
 refine hK.out _ _ ⟨(blk_cell BK237.out 0).trans rfl, (blk_cell BK237.out 1).trans rfl, (blk_cell BK238.out 0).trans rfl, (blk_cell BK238.out 1).trans rfl⟩ (fun hHeld => ?_)
 clear hK K
 refine norm_ (a' := ?_) ?_ ?_
 rotate_left
 ·show Act.put _ (some 16) _ = _
  simp only [Act.put, List.setIfInBounds_toArray, List.set_cons_zero, List.set_cons_succ, i64_w, i32_w]
  rfl
 refine run_ [(0, 12, 8191, some 4)] ?_
 repeat ((apply tag0; refine run_p (v := ?_) (a' := ?_) rfl rfl (any_of HT_.out (by kernel_rfl)) (fun _ _ _ h => h) (by rfl) ?_ ?_ ?_; rotate_left 2; (intro w'; go_simp; with_reducible rfl); (first | (simp only [Act.put, List.setIfInBounds_toArray, List.set_cons_zero, List.set_cons_succ, i64_w, i32_w]; rfl) | rfl)))
 refine run_nil ?_
 refine done_ (done_of HT_.out (by kernel_rfl)) ?_
 try go_wp2
 go_ret
 exact ⟨by first | rfl | (simp [errW_none, errW_some] <;> rfl) | (simp [*, errW_none, errW_some] <;> rfl), hB⟩

/-! ### impl_within: function 60 -/
def impl_within.f (a0 : Int) (a1 : Int) (a2 : Int) : Option (Bool) := if a1 ≤ a0 then (some (decide (a0 ≤ a2))) else (some false)
set_option maxHeartbeats 8000000 in
set_option maxRecDepth 100000 in
theorem impl_within.calls (a0 : Int) (a1 : Int) (a2 : Int) (r : Bool) (w : World) (h : impl_within.f a0 a1 a2 = some r) :
  Calls Tryd.prog 60 #[.int .i64 a0, .int .i64 a1, .int .i64 a2] w fun e w' => e = .returned (.bool r) ∧ Drawn0 w w' := by
 have H : (if a1 ≤ a0 then (some (decide (a0 ≤ a2))) else (some false)) = some r := h
 clear h
 by_cases c4 : a1 ≤ a0
 ·rw [if_pos c4] at H
  have c4b0 : decide (a1 ≤ a0) = true := decide_eq_true c4
  clear c4
  obtain rfl := Option.some.inj H
  go_enter Tryd.func60, Tryd.ntmps60
  go_wp2
  go_ret
  exact ⟨by first | rfl | (simp; done) | (simp [*]; done), by repeat (first | exact Drawn0.refl _ | apply Drawn0.step)⟩
 ·rw [if_neg c4] at H
  have c4b0 : decide (a1 ≤ a0) = false := decide_eq_false c4
  clear c4
  obtain rfl := Option.some.inj H
  go_enter Tryd.func60, Tryd.ntmps60
  go_wp2
  go_ret
  exact ⟨by first | rfl | (simp; done) | (simp [*]; done), by repeat (first | exact Drawn0.refl _ | apply Drawn0.step)⟩
theorem impl_within.ok (n lo hi : Int) : impl_within.f n lo hi = some (decide (lo ≤ n ∧ n ≤ hi)) := by
  unfold impl_within.f
  by_cases h : lo ≤ n <;> simp [h]

/-! ### impl_areCrowd: function 120 -/
def impl_areCrowd.f (a0 : Int) : Option (Bool) := (impl_within.f a0 0 12).bind fun t245 => (some t245)
set_option maxHeartbeats 8000000 in
set_option maxRecDepth 100000 in
theorem impl_areCrowd.calls (a0 : Int) (r : Bool) (w : World) (h : impl_areCrowd.f a0 = some r) :
  Calls Tryd.prog 120 #[.int .i64 a0] w fun e w' => e = .returned (.bool r) ∧ Drawn0 w w' := by
 have H : ((impl_within.f a0 0 12).bind fun t245 => (some t245)) = some r := h
 clear h
 replace H := Option.bind_eq_some_iff.mp H
 obtain ⟨t245, A20, H⟩ := H
 replace H : (some t245) = some r := H
 have A2 := Aside0.mk A20
 clear A20
 obtain rfl := Option.some.inj H
 go_enter Tryd.func120, Tryd.ntmps120
 go_wp2_with (first | ((with_reducible refine gate_callee (f := 60) rfl ?_); refine goC (N := some 4) Tryd.func60 #[.int .i64 a0, .int .i64 0, .int .i64 12] rfl ?_; (with_reducible refine (impl_within.calls a0 0 12 t245 _ A2.out).mono ?_); rintro e w' ⟨rfl, ⟨nd, rfl⟩⟩; refine ⟨_, rfl, ?_⟩))
 go_ret
 exact ⟨by first | rfl | (simp; done) | (simp [*]; done), by repeat (first | exact Drawn0.refl _ | apply Drawn0.step)⟩

/-! ### impl_IsParty: function 76 -/
def impl_IsParty.l0 : Nat → List (S105) → Int → Int → Int → List (S105) → Option (Bool)
 | 0, _, _, _, _, _ => none
 | k + 1, x6, x7, x8, x247000, x247001 => if x8 < x7 then (if 0 ≤ x8 then (if x8 < (x6.length : Int) then (if ((rd_T105 x6 x8).f0) < 0 then (some false) else (if ((rd_T105 x6 x8).f0) ≥ ((rd_T105 x6 x8).f1) then (some false) else (if ((rd_T105 x6 x8).f1) ≥ x247000 then (some false) else (if x8 > 0 then (if 0 ≤ (wrap64 (x8 - 1)) then (if (wrap64 (x8 - 1)) < (x247001.length : Int) then ((impl_comparePairs.f k ((rd_T105 x247001 (wrap64 (x8 - 1))).f0) ((rd_T105 x247001 (wrap64 (x8 - 1))).f1) ((rd_T105 x6 x8).f0) ((rd_T105 x6 x8).f1)).bind fun t250 => (if t250 ≥ 0 then (some false) else (impl_IsParty.l0 k x6 x7 (wrap64 (x8 + 1)) x247000 x247001))) else (none)) else (none)) else (impl_IsParty.l0 k x6 x7 (wrap64 (x8 + 1)) x247000 x247001))))) else (none)) else (none)) else ((impl_areCrowd.f x247000).bind fun t251 => (some t251))
def impl_IsParty.f (k : Nat) (a0_0 : Int) (l0_1 : List (S105)) : Option (Bool) := impl_IsParty.l0 k l0_1 (l0_1.length : Int) 0 a0_0 l0_1
theorem impl_IsParty.mono_l : ∀ k, (∀ y0 y1 y2 y3 y4, LeO (impl_IsParty.l0 k y0 y1 y2 y3 y4) (impl_IsParty.l0 (k + 1) y0 y1 y2 y3 y4))
 | 0 => fun _ _ _ _ _ r h => by simp [impl_IsParty.l0] at h
 | k + 1 => by
  have ih0 := impl_IsParty.mono_l k
  ·intro y0 y1 y2 y3 y4
   unfold impl_IsParty.l0
   repeat' first
   | (with_reducible exact ih0 _ _ _ _ _)
   | (with_reducible exact impl_comparePairs.mono _ _ _ _ _)
   | (with_reducible exact LeO.refl _)
   | (with_reducible exact LeO.none _)
   | (with_reducible refine LeO.ite ?_ ?_)
   | (with_reducible refine LeO.bind ?_ (fun _ => ?_))
   | exact ih0 _ _ _ _ _
   | exact impl_comparePairs.mono _ _ _ _ _
   | exact LeO.none _
   | refine LeO.ite ?_ ?_
   | refine LeO.bind ?_ (fun _ => ?_)
theorem impl_IsParty.mono : ∀ a0 a1 k, LeO (impl_IsParty.f k a0 a1) (impl_IsParty.f (k + 1) a0 a1) := by
 intro a0 a1 k
 have ih0 := impl_IsParty.mono_l k
 unfold impl_IsParty.f
 repeat' first
   | (with_reducible exact ih0 _ _ _ _ _)
   | (with_reducible exact impl_comparePairs.mono _ _ _ _ _)
   | (with_reducible exact LeO.refl _)
   | (with_reducible exact LeO.none _)
   | (with_reducible refine LeO.ite ?_ ?_)
   | (with_reducible refine LeO.bind ?_ (fun _ => ?_))
   | exact ih0 _ _ _ _ _
   | exact impl_comparePairs.mono _ _ _ _ _
   | exact LeO.none _
   | refine LeO.ite ?_ ?_
   | refine LeO.bind ?_ (fun _ => ?_)
def impl_IsParty.T4 : Bool × List (List Nat × List Nat) := (true, [([], []), ([0], [0]), ([1], [1]), ([2], [2]), ([3], [3]), ([4, 3], [3, 4]), ([3], [3]), ([6, 3], [3, 6]), ([5, 7, 3], [3, 5, 7]), ([3, 8], [3, 8]), ([9, 3], [9]), ([10], [10]), ([11, 10], [10, 11]), ([10], [10]), ([13, 10], [10, 13]), ([12, 14, 10], [10, 12, 14]), ([10, 15], [10, 15]), ([16, 10], [16]), ([17], [17]), ([18, 17], [17, 18]), ([19, 17, 17], [17, 19]), ([20], [20]), ([21, 20], [20, 21]), ([20], [20]), ([23, 20], [20, 23]), ([22, 24, 20], [20, 22, 24]), ([25, 20], [20, 25]), ([20], [20]), ([26, 27, 20, 20], [20, 26, 27]), ([28, 20], [20, 28]), ([20, 29, 17], [17, 20, 29]), ([17, 30], [17, 30])])
def impl_IsParty.B4 : List Nat := [0, 1, 3, 7, 15, 31, 15, 79, 255, 511, 1023, 2047, 4095, 2047, 10239, 32767, 65535, 131071, 262143, 524287, 1048575, 2097151, 4194303, 2097151, 10485759, 33554431, 67108863, 2097151, 268435455, 536870911, 1073741823, 2147483647]
theorem impl_IsParty.tab4 : rtab .any (opsOf Tryd.f76 4) = impl_IsParty.T4 := by kernel_rfl
theorem impl_IsParty.bits4 : waitsOk impl_IsParty.T4.2 impl_IsParty.B4 = true := by kernel_rfl
set_option maxHeartbeats 8000000 in
set_option maxRecDepth 100000 in
theorem impl_IsParty.calls (k : Nat) (a0_0 : Int) (A0_1 : Option Addr) (c0_1 : Nat) (l0_1 : List (S105)) (r : Bool) (w : World) (hr0_1 : Kd.C k105 w A0_1 l0_1.length l0_1) (hc0_1 : l0_1.length ≤ c0_1) (h : impl_IsParty.f k a0_0 l0_1 = some r) :
  Calls Tryd.prog 76 #[.agg #[.int .i64 a0_0, .slice A0_1 l0_1.length c0_1]] w fun e w' => e = .returned (.bool r) ∧ Below w.heap.size w w' := by
 have hu33 := Tryd.underlying33
 have hu105 := Tryd.underlying105
 have HR0_1 := Aside0.mk hr0_1
 have HC0_1 := Aside0.mk hc0_1
 clear hr0_1 hc0_1
 have HB := Aside0.mk (Below.refl w.heap.size w)
 have H : (impl_IsParty.l0 k l0_1 (l0_1.length : Int) 0 a0_0 l0_1) = some r := h
 clear h
 have H' := Aside0.mk H
 clear H
 go_enter Tryd.func76, Tryd.ntmps76
 go_wp2_with (first | ((with_reducible refine gate_dst (N := 1) rfl ?_); refine bxE 1 #[.int .i64 a0_0, .slice A0_1 l0_1.length c0_1] 33 rfl ?_; intro gb246 hg w2 hbox hb; have BK246 := Aside0.mk (hbox); have GW246 := gS HB hg; have GE246 := gS HB hg; replace HB := hS HB hb; clear hb hbox hg; have hcz3_0 := cz BK246 0; have hcz3_1 := cz BK246 1; have hfz3_0 := fz BK246 0; have hfz3_1 := fz BK246 1))
 go_loopg [8] k (fun kq v8 w' => ∃ (x8_1 : Int), v8 = .int .i64 x8_1 ∧ Aside0 (impl_IsParty.l0 kq l0_1 (l0_1.length : Int) x8_1 a0_0 l0_1 = some r) ∧ Aside0 (kq ≤ k) ∧ Aside0 (w'.heap[gb246]? = some (.cells #[.int .i64 a0_0, (.slice A0_1 l0_1.length c0_1)] 33 (0, 0))) ∧ Aside0 (Below w.heap.size w w'))
 case atStart => exact ⟨(0), (by first | rfl | (simp; done) | (simp [*]; done)), H', ⟨Nat.le_refl _⟩, ⟨bK⟩, ⟨hB⟩⟩
 case round =>
  clear H'
  try clear p2
  try clear hcz3_0
  try clear hcz3_1
  try clear hfz3_0
  try clear hfz3_1
  obtain ⟨x8_1, rfl, HA, HK1, BK246, HB⟩ := hrel
  cases gk with
  | zero => exact absurd HA.out (by simp [impl_IsParty.l0])
  | succ k1 =>
   have H := HA.out
   clear HA
   simp only [impl_IsParty.l0] at H
   by_cases c4 : x8_1 < (l0_1.length : Int)
   ·rw [if_pos c4] at H
    have c4b0 : decide (x8_1 < (l0_1.length : Int)) = true := decide_eq_true c4
    clear c4
    by_cases c5 : 0 ≤ x8_1
    ·rw [if_pos c5] at H
     have c5b0 : decide (0 ≤ x8_1) = true := decide_eq_true c5
     clear c5
     by_cases c6 : x8_1 < (l0_1.length : Int)
     ·rw [if_pos c6] at H
      have c6b0 : decide (x8_1 < (l0_1.length : Int)) = true := decide_eq_true c6
      clear c6
      by_cases c7 : ((rd_T105 l0_1 x8_1).f0) < 0
      ·rw [if_pos c7] at H
       have c7b0 : decide (((rd_T105 l0_1 x8_1).f0) < 0) = true := decide_eq_true c7
       clear c7
       obtain rfl := Option.some.inj H
       have p247 : 0 ≤ (x8_1 : Int) := of_decide_eq_true (by first | (with_reducible assumption) | assumption)
       have q247 : x8_1 < (l0_1.length : Int) := of_decide_eq_true (by first | (with_reducible assumption) | assumption)
       obtain ⟨ad247, e247, hx247_0, hx247_1⟩ := at_T105 HR0_1.out x8_1 p247 q247
       cases e247
       replace hx247_0 := (HB.out.cell (World.block_lt_of_cell? w _ hx247_0)).trans hx247_0
       replace hx247_1 := (HB.out.cell (World.block_lt_of_cell? w _ hx247_1)).trans hx247_1
       replace p247 := eq_true p247
       replace q247 := eq_true q247
       try go_wp2_with (first | ((with_reducible refine gate_dst (N := 4) rfl ?_); refine bxE 4 #[.int .i64 0, .int .i64 0] 105 rfl ?_; intro gb248 hg w8 hbox hb; have BK248 := Aside0.mk (hbox); have GW248 := gS HB hg; have GE248 := gS HB hg; have NB246_248 := nL BK246 hg; have NB248_246 := nG BK246 hg; replace BK246 := bS BK246 hb; replace HB := hS HB hb; clear hb hbox hg; have hnb9 := NB248_246.out; have hnc9 := NB246_248.out; have hcz10_0 := cz BK248 0; have hcz10_1 := cz BK248 1; have hfz10_0 := fz BK248 0; have hfz10_1 := fz BK248 1))
       have n0_ : Aside0 (((w8.setCell ⟨gb248, 0, none⟩ (.int .i64 ((rd_T105 l0_1 x8_1).f0))).setCell ⟨gb248, 1, none⟩ (.int .i64 ((rd_T105 l0_1 x8_1).f1))).heap[gb246]? = some (.cells #[.int .i64 a0_0, .slice (some ad247) l0_1.length c0_1] 33 (0, 0))) := ⟨by (with_reducible repeat (first | refine blk_drewN ?_ _ | refine blk_drew ?_ | refine blk_alloc ?_ _)); refine blk_far ?_ NB246_248.out _; (with_reducible repeat (first | refine blk_drewN ?_ _ | refine blk_drew ?_ | refine blk_alloc ?_ _)); refine blk_far ?_ NB246_248.out _; (with_reducible repeat (first | refine blk_drewN ?_ _ | refine blk_drew ?_ | refine blk_alloc ?_ _)); exact BK246.out⟩
       have n1_ : Aside0 (((w8.setCell ⟨gb248, 0, none⟩ (.int .i64 ((rd_T105 l0_1 x8_1).f0))).setCell ⟨gb248, 1, none⟩ (.int .i64 ((rd_T105 l0_1 x8_1).f1))).heap[gb248]? = some (.cells #[.int .i64 ((rd_T105 l0_1 x8_1).f0), .int .i64 ((rd_T105 l0_1 x8_1).f1)] 105 (0, 0))) := ⟨by (with_reducible repeat (first | refine blk_drewN ?_ _ | refine blk_drew ?_ | refine blk_alloc ?_ _)); refine blk_put (cs := #[.int .i64 ((rd_T105 l0_1 x8_1).f0), .int .i64 0]) ?_ 1 _ rfl; (with_reducible repeat (first | refine blk_drewN ?_ _ | refine blk_drew ?_ | refine blk_alloc ?_ _)); refine blk_put (cs := #[.int .i64 0, .int .i64 0]) ?_ 0 _ rfl; (with_reducible repeat (first | refine blk_drewN ?_ _ | refine blk_drew ?_ | refine blk_alloc ?_ _)); exact BK248.out⟩
       have n2_ : Aside0 (Below w.heap.size w ((w8.setCell ⟨gb248, 0, none⟩ (.int .i64 ((rd_T105 l0_1 x8_1).f0))).setCell ⟨gb248, 1, none⟩ (.int .i64 ((rd_T105 l0_1 x8_1).f1)))) := ⟨hB⟩
       (try clear BK246)
       (try clear BK248)
       (try clear HB)
       generalize ((w8.setCell ⟨gb248, 0, none⟩ (.int .i64 ((rd_T105 l0_1 x8_1).f0))).setCell ⟨gb248, 1, none⟩ (.int .i64 ((rd_T105 l0_1 x8_1).f1))) = w11 at n0_ n1_ n2_ ⊢
       have BK246 := n0_
       have BK248 := n1_
       have HB := n2_
       clear n0_ n1_ n2_
       replace BK246 := Aside0.mk (blk_drew BK246.out)
       replace BK248 := Aside0.mk (blk_drew BK248.out)
       replace HB := Aside0.mk (below_drew1 HB.out)
       refine start_ (n := 32) (S := fun w' => w'.cell? ⟨gb248, 0, none⟩ = some (.int .i64 ((rd_T105 l0_1 x8_1).f0)) ∧ w'.cell? ⟨gb248, 1, none⟩ = some (.int .i64 ((rd_T105 l0_1 x8_1).f1))) (ds := []) (bz 32 0) (by kernel_rfl) rfl rfl ⟨(blk_cell BK248.out 0).trans rfl, (blk_cell BK248.out 1).trans rfl⟩ (fun hHeld => ?_); refine with_tabW impl_IsParty.tab4 impl_IsParty.bits4 (fun HT_ HW_ => ?_)
       generalize w11.drew = w12 at BK246 BK248 HB hHeld ⊢
       refine run_ [(0, 0, 1, some 13), (1, 1, 3, some 14), (0, 2, 7, some 15), (0, 3, 15, some 16), (2, 4, 31, some 17), (2, 5, 63, some 18), (2, 6, 127, some 19), (2, 7, 255, some 20), (2, 8, 511, some 21), (0, 9, 1023, some 22), (0, 10, 2047, some 23), (2, 11, 4095, some 24), (2, 12, 8191, some 25), (2, 13, 16383, some 26), (2, 14, 32767, some 27), (2, 15, 65535, some 28), (0, 16, 131071, some 29), (0, 17, 262143, some 30), (2, 18, 524287, some 31), (2, 19, 1048575, some 32), (2, 20, 2097151, some 33), (2, 21, 4194303, some 34), (2, 22, 8388607, some 35), (2, 23, 16777215, some 36), (2, 24, 33554431, some 37), (2, 25, 67108863, some 38), (2, 26, 134217727, some 39), (2, 27, 268435455, some 40), (2, 28, 536870911, some 41), (2, 29, 1073741823, some 42), (2, 30, 2147483647, some 43), (0, 31, 4294967295, some 44)] ?_
       repeat (first | (apply tag0; refine run_p (v := ?_) (a' := ?_) rfl rfl (any_of HT_.out (by kernel_rfl)) (fun _ _ _ h => h) (by rfl) ?_ ?_ ?_; rotate_left 2; (intro w'; go_simp; with_reducible rfl); (first | (simp only [Act.put, List.setIfInBounds_toArray, List.set_cons_zero, List.set_cons_succ, i64_w, i32_w]; rfl) | rfl)) | (apply tag1; refine run_t (v := ?_) (a' := ?_) rfl rfl (take_ofW HT_.out HW_.out (by kernel_rfl)) (fun _ _ _ h => h) (by rfl) ?_ hHeld ?_ ?_; rotate_left 2; (rintro w' ⟨s0, s1⟩; go_simp; with_reducible rfl); (first | (simp only [Act.put, List.setIfInBounds_toArray, List.set_cons_zero, List.set_cons_succ, i64_w, i32_w]; rfl) | rfl)) | (apply tag2; refine run_o (a' := ?_) rfl rfl (any_of HT_.out (by kernel_rfl)) (fun _ _ _ h => h) (by rfl) ?_ ?_; rotate_left; (first | (simp only [Act.put, List.setIfInBounds_toArray, List.set_cons_zero, List.set_cons_succ, i64_w, i32_w]; rfl) | rfl)))
       refine run_nil ?_
       refine done_ (done_of HT_.out (by kernel_rfl)) ?_
       try go_wp2
       go_ret
       exact ⟨by first | rfl | (simp [errW_none, errW_some] <;> rfl) | (simp [*, errW_none, errW_some] <;> rfl), hB⟩
      ·rw [if_neg c7] at H
       have c7b0 : decide (((rd_T105 l0_1 x8_1).f0) < 0) = false := decide_eq_false c7
       clear c7
       by_cases c13 : ((rd_T105 l0_1 x8_1).f0) ≥ ((rd_T105 l0_1 x8_1).f1)
       ·rw [if_pos c13] at H
        have c13b0 : decide (((rd_T105 l0_1 x8_1).f1) ≤ ((rd_T105 l0_1 x8_1).f0)) = true := decide_eq_true c13
        clear c13
        obtain rfl := Option.some.inj H
        have p247 : 0 ≤ (x8_1 : Int) := of_decide_eq_true (by first | (with_reducible assumption) | assumption)
        have q247 : x8_1 < (l0_1.length : Int) := of_decide_eq_true (by first | (with_reducible assumption) | assumption)
        obtain ⟨ad247, e247, hx247_0, hx247_1⟩ := at_T105 HR0_1.out x8_1 p247 q247
        cases e247
        replace hx247_0 := (HB.out.cell (World.block_lt_of_cell? w _ hx247_0)).trans hx247_0
        replace hx247_1 := (HB.out.cell (World.block_lt_of_cell? w _ hx247_1)).trans hx247_1
        replace p247 := eq_true p247
        replace q247 := eq_true q247
        try go_wp2_with (first | ((with_reducible refine gate_dst (N := 4) rfl ?_); refine bxE 4 #[.int .i64 0, .int .i64 0] 105 rfl ?_; intro gb248 hg w14 hbox hb; have BK248 := Aside0.mk (hbox); have GW248 := gS HB hg; have GE248 := gS HB hg; have NB246_248 := nL BK246 hg; have NB248_246 := nG BK246 hg; replace BK246 := bS BK246 hb; replace HB := hS HB hb; clear hb hbox hg; have hnb15 := NB248_246.out; have hnc15 := NB246_248.out; have hcz16_0 := cz BK248 0; have hcz16_1 := cz BK248 1; have hfz16_0 := fz BK248 0; have hfz16_1 := fz BK248 1))
        have n0_ : Aside0 (((w14.setCell ⟨gb248, 0, none⟩ (.int .i64 ((rd_T105 l0_1 x8_1).f0))).setCell ⟨gb248, 1, none⟩ (.int .i64 ((rd_T105 l0_1 x8_1).f1))).heap[gb246]? = some (.cells #[.int .i64 a0_0, .slice (some ad247) l0_1.length c0_1] 33 (0, 0))) := ⟨by (with_reducible repeat (first | refine blk_drewN ?_ _ | refine blk_drew ?_ | refine blk_alloc ?_ _)); refine blk_far ?_ NB246_248.out _; (with_reducible repeat (first | refine blk_drewN ?_ _ | refine blk_drew ?_ | refine blk_alloc ?_ _)); refine blk_far ?_ NB246_248.out _; (with_reducible repeat (first | refine blk_drewN ?_ _ | refine blk_drew ?_ | refine blk_alloc ?_ _)); exact BK246.out⟩
        have n1_ : Aside0 (((w14.setCell ⟨gb248, 0, none⟩ (.int .i64 ((rd_T105 l0_1 x8_1).f0))).setCell ⟨gb248, 1, none⟩ (.int .i64 ((rd_T105 l0_1 x8_1).f1))).heap[gb248]? = some (.cells #[.int .i64 ((rd_T105 l0_1 x8_1).f0), .int .i64 ((rd_T105 l0_1 x8_1).f1)] 105 (0, 0))) := ⟨by (with_reducible repeat (first | refine blk_drewN ?_ _ | refine blk_drew ?_ | refine blk_alloc ?_ _)); refine blk_put (cs := #[.int .i64 ((rd_T105 l0_1 x8_1).f0), .int .i64 0]) ?_ 1 _ rfl; (with_reducible repeat (first | refine blk_drewN ?_ _ | refine blk_drew ?_ | refine blk_alloc ?_ _)); refine blk_put (cs := #[.int .i64 0, .int .i64 0]) ?_ 0 _ rfl; (with_reducible repeat (first | refine blk_drewN ?_ _ | refine blk_drew ?_ | refine blk_alloc ?_ _)); exact BK248.out⟩
        have n2_ : Aside0 (Below w.heap.size w ((w14.setCell ⟨gb248, 0, none⟩ (.int .i64 ((rd_T105 l0_1 x8_1).f0))).setCell ⟨gb248, 1, none⟩ (.int .i64 ((rd_T105 l0_1 x8_1).f1)))) := ⟨hB⟩
        (try clear BK246)
        (try clear BK248)
        (try clear HB)
        generalize ((w14.setCell ⟨gb248, 0, none⟩ (.int .i64 ((rd_T105 l0_1 x8_1).f0))).setCell ⟨gb248, 1, none⟩ (.int .i64 ((rd_T105 l0_1 x8_1).f1))) = w17 at n0_ n1_ n2_ ⊢
        have BK246 := n0_
        have BK248 := n1_
        have HB := n2_
        clear n0_ n1_ n2_
        replace BK246 := Aside0.mk (blk_drew BK246.out)
        replace BK248 := Aside0.mk (blk_drew BK248.out)
        replace HB := Aside0.mk (below_drew1 HB.out)
        refine start_ (n := 32) (S := fun w' => w'.cell? ⟨gb248, 0, none⟩ = some (.int .i64 ((rd_T105 l0_1 x8_1).f0)) ∧ w'.cell? ⟨gb248, 1, none⟩ = some (.int .i64 ((rd_T105 l0_1 x8_1).f1))) (ds := []) (bz 32 0) (by kernel_rfl) rfl rfl ⟨(blk_cell BK248.out 0).trans rfl, (blk_cell BK248.out 1).trans rfl⟩ (fun hHeld => ?_); refine with_tabW impl_IsParty.tab4 impl_IsParty.bits4 (fun HT_ HW_ => ?_)
        generalize w17.drew = w18 at BK246 BK248 HB hHeld ⊢
        refine run_ [(0, 0, 1, some 13), (1, 1, 3, some 14), (0, 2, 7, some 15), (0, 3, 15, some 16), (0, 4, 31, some 17), (0, 6, 95, some 19), (1, 5, 127, some 18), (1, 7, 255, some 20), (0, 8, 511, some 21), (0, 9, 1023, some 22), (0, 10, 2047, some 23), (2, 11, 4095, some 24), (2, 12, 8191, some 25), (2, 13, 16383, some 26), (2, 14, 32767, some 27), (2, 15, 65535, some 28), (0, 16, 131071, some 29), (0, 17, 262143, some 30), (2, 18, 524287, some 31), (2, 19, 1048575, some 32), (2, 20, 2097151, some 33), (2, 21, 4194303, some 34), (2, 22, 8388607, some 35), (2, 23, 16777215, some 36), (2, 24, 33554431, some 37), (2, 25, 67108863, some 38), (2, 26, 134217727, some 39), (2, 27, 268435455, some 40), (2, 28, 536870911, some 41), (2, 29, 1073741823, some 42), (2, 30, 2147483647, some 43), (0, 31, 4294967295, some 44)] ?_
        repeat (first | (apply tag0; refine run_p (v := ?_) (a' := ?_) rfl rfl (any_of HT_.out (by kernel_rfl)) (fun _ _ _ h => h) (by rfl) ?_ ?_ ?_; rotate_left 2; (intro w'; go_simp; with_reducible rfl); (first | (simp only [Act.put, List.setIfInBounds_toArray, List.set_cons_zero, List.set_cons_succ, i64_w, i32_w]; rfl) | rfl)) | (apply tag1; refine run_t (v := ?_) (a' := ?_) rfl rfl (take_ofW HT_.out HW_.out (by kernel_rfl)) (fun _ _ _ h => h) (by rfl) ?_ hHeld ?_ ?_; rotate_left 2; (rintro w' ⟨s0, s1⟩; go_simp; with_reducible rfl); (first | (simp only [Act.put, List.setIfInBounds_toArray, List.set_cons_zero, List.set_cons_succ, i64_w, i32_w]; rfl) | rfl)) | (apply tag2; refine run_o (a' := ?_) rfl rfl (any_of HT_.out (by kernel_rfl)) (fun _ _ _ h => h) (by rfl) ?_ ?_; rotate_left; (first | (simp only [Act.put, List.setIfInBounds_toArray, List.set_cons_zero, List.set_cons_succ, i64_w, i32_w]; rfl) | rfl)))
        refine run_nil ?_
        refine done_ (done_of HT_.out (by kernel_rfl)) ?_
        try go_wp2
        go_ret
        exact ⟨by first | rfl | (simp [errW_none, errW_some] <;> rfl) | (simp [*, errW_none, errW_some] <;> rfl), hB⟩
       ·rw [if_neg c13] at H
        have c13b0 : decide (((rd_T105 l0_1 x8_1).f1) ≤ ((rd_T105 l0_1 x8_1).f0)) = false := decide_eq_false c13
        clear c13
        by_cases c19 : ((rd_T105 l0_1 x8_1).f1) ≥ a0_0
        ·rw [if_pos c19] at H
         have c19b0 : decide (a0_0 ≤ ((rd_T105 l0_1 x8_1).f1)) = true := decide_eq_true c19
         clear c19
         obtain rfl := Option.some.inj H
         have p247 : 0 ≤ (x8_1 : Int) := of_decide_eq_true (by first | (with_reducible assumption) | assumption)
         have q247 : x8_1 < (l0_1.length : Int) := of_decide_eq_true (by first | (with_reducible assumption) | assumption)
         obtain ⟨ad247, e247, hx247_0, hx247_1⟩ := at_T105 HR0_1.out x8_1 p247 q247
         cases e247
         replace hx247_0 := (HB.out.cell (World.block_lt_of_cell? w _ hx247_0)).trans hx247_0
         replace hx247_1 := (HB.out.cell (World.block_lt_of_cell? w _ hx247_1)).trans hx247_1
         replace p247 := eq_true p247
         replace q247 := eq_true q247
         try go_wp2_with (first | ((with_reducible refine gate_dst (N := 4) rfl ?_); refine bxE 4 #[.int .i64 0, .int .i64 0] 105 rfl ?_; intro gb248 hg w20 hbox hb; have BK248 := Aside0.mk (hbox); have GW248 := gS HB hg; have GE248 := gS HB hg; have NB246_248 := nL BK246 hg; have NB248_246 := nG BK246 hg; replace BK246 := bS BK246 hb; replace HB := hS HB hb; clear hb hbox hg; have hnb21 := NB248_246.out; have hnc21 := NB246_248.out; have hcz22_0 := cz BK248 0; have hcz22_1 := cz BK248 1; have hfz22_0 := fz BK248 0; have hfz22_1 := fz BK248 1))
         have n0_ : Aside0 (((w20.setCell ⟨gb248, 0, none⟩ (.int .i64 ((rd_T105 l0_1 x8_1).f0))).setCell ⟨gb248, 1, none⟩ (.int .i64 ((rd_T105 l0_1 x8_1).f1))).heap[gb246]? = some (.cells #[.int .i64 a0_0, .slice (some ad247) l0_1.length c0_1] 33 (0, 0))) := ⟨by (with_reducible repeat (first | refine blk_drewN ?_ _ | refine blk_drew ?_ | refine blk_alloc ?_ _)); refine blk_far ?_ NB246_248.out _; (with_reducible repeat (first | refine blk_drewN ?_ _ | refine blk_drew ?_ | refine blk_alloc ?_ _)); refine blk_far ?_ NB246_248.out _; (with_reducible repeat (first | refine blk_drewN ?_ _ | refine blk_drew ?_ | refine blk_alloc ?_ _)); exact BK246.out⟩
         have n1_ : Aside0 (((w20.setCell ⟨gb248, 0, none⟩ (.int .i64 ((rd_T105 l0_1 x8_1).f0))).setCell ⟨gb248, 1, none⟩ (.int .i64 ((rd_T105 l0_1 x8_1).f1))).heap[gb248]? = some (.cells #[.int .i64 ((rd_T105 l0_1 x8_1).f0), .int .i64 ((rd_T105 l0_1 x8_1).f1)] 105 (0, 0))) := ⟨by (with_reducible repeat (first | refine blk_drewN ?_ _ | refine blk_drew ?_ | refine blk_alloc ?_ _)); refine blk_put (cs := #[.int .i64 ((rd_T105 l0_1 x8_1).f0), .int .i64 0]) ?_ 1 _ rfl; (with_reducible repeat (first | refine blk_drewN ?_ _ | refine blk_drew ?_ | refine blk_alloc ?_ _)); refine blk_put (cs := #[.int .i64 0, .int .i64 0]) ?_ 0 _ rfl; (with_reducible repeat (first | refine blk_drewN ?_ _ | refine blk_drew ?_ | refine blk_alloc ?_ _)); exact BK248.out⟩
         have n2_ : Aside0 (Below w.heap.size w ((w20.setCell ⟨gb248, 0, none⟩ (.int .i64 ((rd_T105 l0_1 x8_1).f0))).setCell ⟨gb248, 1, none⟩ (.int .i64 ((rd_T105 l0_1 x8_1).f1)))) := ⟨hB⟩
         (try clear BK246)
         (try clear BK248)
         (try clear HB)
         generalize ((w20.setCell ⟨gb248, 0, none⟩ (.int .i64 ((rd_T105 l0_1 x8_1).f0))).setCell ⟨gb248, 1, none⟩ (.int .i64 ((rd_T105 l0_1 x8_1).f1))) = w23 at n0_ n1_ n2_ ⊢
         have BK246 := n0_
         have BK248 := n1_
         have HB := n2_
         clear n0_ n1_ n2_
         replace BK246 := Aside0.mk (blk_drew BK246.out)
         replace BK248 := Aside0.mk (blk_drew BK248.out)
         replace HB := Aside0.mk (below_drew1 HB.out)
         refine start_ (n := 32) (S := fun w' => w'.cell? ⟨gb248, 0, none⟩ = some (.int .i64 ((rd_T105 l0_1 x8_1).f0)) ∧ w'.cell? ⟨gb248, 1, none⟩ = some (.int .i64 ((rd_T105 l0_1 x8_1).f1)) ∧ w'.cell? ⟨gb246, 0, none⟩ = some (.int .i64 a0_0) ∧ w'.cell? ⟨gb246, 1, none⟩ = some (.slice (some ad247) l0_1.length c0_1)) (ds := []) (bz 32 0) (by kernel_rfl) rfl rfl ⟨(blk_cell BK248.out 0).trans rfl, (blk_cell BK248.out 1).trans rfl, (blk_cell BK246.out 0).trans rfl, (blk_cell BK246.out 1).trans rfl⟩ (fun hHeld => ?_); refine with_tabW impl_IsParty.tab4 impl_IsParty.bits4 (fun HT_ HW_ => ?_)
         generalize w23.drew = w24 at BK246 BK248 HB hHeld ⊢
         refine run_ [(0, 0, 1, some 13), (1, 1, 3, some 14), (0, 2, 7, some 15), (0, 3, 15, some 16), (0, 4, 31, some 17), (0, 6, 95, some 19), (1, 5, 127, some 18), (1, 7, 255, some 20), (0, 8, 511, some 21), (0, 9, 1023, some 22), (0, 10, 2047, some 23), (0, 11, 4095, some 24), (0, 13, 12287, some 26), (1, 12, 16383, some 25), (1, 14, 32767, some 27), (0, 15, 65535, some 28), (0, 16, 131071, some 29), (0, 17, 262143, some 30), (2, 18, 524287, some 31), (2, 19, 1048575, some 32), (2, 20, 2097151, some 33), (2, 21, 4194303, some 34), (2, 22, 8388607, some 35), (2, 23, 16777215, some 36), (2, 24, 33554431, some 37), (2, 25, 67108863, some 38), (2, 26, 134217727, some 39), (2, 27, 268435455, some 40), (2, 28, 536870911, some 41), (2, 29, 1073741823, some 42), (2, 30, 2147483647, some 43), (0, 31, 4294967295, some 44)] ?_
         repeat (first | (apply tag0; refine run_p (v := ?_) (a' := ?_) rfl rfl (any_of HT_.out (by kernel_rfl)) (fun _ _ _ h => h) (by rfl) ?_ ?_ ?_; rotate_left 2; (intro w'; go_simp; with_reducible rfl); (first | (simp only [Act.put, List.setIfInBounds_toArray, List.set_cons_zero, List.set_cons_succ, i64_w, i32_w]; rfl) | rfl)) | (apply tag1; refine run_t (v := ?_) (a' := ?_) rfl rfl (take_ofW HT_.out HW_.out (by kernel_rfl)) (fun _ _ _ h => h) (by rfl) ?_ hHeld ?_ ?_; rotate_left 2; (rintro w' ⟨s0, s1, s2, s3⟩; go_simp; with_reducible rfl); (first | (simp only [Act.put, List.setIfInBounds_toArray, List.set_cons_zero, List.set_cons_succ, i64_w, i32_w]; rfl) | rfl)) | (apply tag2; refine run_o (a' := ?_) rfl rfl (any_of HT_.out (by kernel_rfl)) (fun _ _ _ h => h) (by rfl) ?_ ?_; rotate_left; (first | (simp only [Act.put, List.setIfInBounds_toArray, List.set_cons_zero, List.set_cons_succ, i64_w, i32_w]; rfl) | rfl)))
         refine run_nil ?_
         refine done_ (done_of HT_.out (by kernel_rfl)) ?_
         try go_wp2
         go_ret
         exact ⟨by first | rfl | (simp [errW_none, errW_some] <;> rfl) | (simp [*, errW_none, errW_some] <;> rfl), hB⟩
        ·rw [if_neg c19] at H
         have c19b0 : decide (a0_0 ≤ ((rd_T105 l0_1 x8_1).f1)) = false := decide_eq_false c19
         clear c19
         by_cases c25 : x8_1 > 0
         ·rw [if_pos c25] at H
          have c25b0 : decide (0 < x8_1) = true := decide_eq_true c25
          clear c25
          obtain ⟨ji26, hji26⟩ : ∃ j_ : Int, (wrap64 (x8_1 - 1)) = j_ := ⟨_, rfl⟩
          replace H : (if 0 ≤ (ji26) then (if (ji26) < (l0_1.length : Int) then ((impl_comparePairs.f k1 ((rd_T105 l0_1 (ji26)).f0) ((rd_T105 l0_1 (ji26)).f1) ((rd_T105 l0_1 x8_1).f0) ((rd_T105 l0_1 x8_1).f1)).bind fun t250 => (if t250 ≥ 0 then (some false) else (impl_IsParty.l0 k1 l0_1 (l0_1.length : Int) (wrap64 (x8_1 + 1)) a0_0 l0_1))) else (none)) else (none)) = some r := by first | (rw [hji26] at H; exact H) | (simp only [hji26] at H ⊢; exact H)
          have hji26w : (IntKind.i64.wrap (x8_1 - 1)) = ji26 := (i64_w _).trans hji26
          by_cases c27 : 0 ≤ (ji26)
          ·rw [if_pos c27] at H
           have c27b0 : decide (0 ≤ (ji26)) = true := decide_eq_true c27
           clear c27
           by_cases c28 : (ji26) < (l0_1.length : Int)
           ·rw [if_pos c28] at H
            have c28b0 : decide ((ji26) < (l0_1.length : Int)) = true := decide_eq_true c28
            clear c28
            replace H := Option.bind_eq_some_iff.mp H
            obtain ⟨t250, A290, H⟩ := H
            try dsimp only at H
            have A29 := Aside0.mk A290
            clear A290
            by_cases c30 : t250 ≥ 0
            ·rw [if_pos c30] at H
             have c30b0 : decide (0 ≤ t250) = true := decide_eq_true c30
             clear c30
             obtain rfl := Option.some.inj H
             have p247 : 0 ≤ (x8_1 : Int) := of_decide_eq_true (by first | (with_reducible assumption) | assumption)
             have q247 : x8_1 < (l0_1.length : Int) := of_decide_eq_true (by first | (with_reducible assumption) | assumption)
             obtain ⟨ad247, e247, hx247_0, hx247_1⟩ := at_T105 HR0_1.out x8_1 p247 q247
             cases e247
             replace hx247_0 := (HB.out.cell (World.block_lt_of_cell? w _ hx247_0)).trans hx247_0
             replace hx247_1 := (HB.out.cell (World.block_lt_of_cell? w _ hx247_1)).trans hx247_1
             replace p247 := eq_true p247
             replace q247 := eq_true q247
             try go_wp2_with (first | ((with_reducible refine gate_dst (N := 4) rfl ?_); refine bxE 4 #[.int .i64 0, .int .i64 0] 105 rfl ?_; intro gb248 hg w31 hbox hb; have BK248 := Aside0.mk (hbox); have GW248 := gS HB hg; have GE248 := gS HB hg; have NB246_248 := nL BK246 hg; have NB248_246 := nG BK246 hg; replace BK246 := bS BK246 hb; replace HB := hS HB hb; clear hb hbox hg; have hnb32 := NB248_246.out; have hnc32 := NB246_248.out; have hcz33_0 := cz BK248 0; have hcz33_1 := cz BK248 1; have hfz33_0 := fz BK248 0; have hfz33_1 := fz BK248 1))
             have n0_ : Aside0 (((w31.setCell ⟨gb248, 0, none⟩ (.int .i64 ((rd_T105 l0_1 x8_1).f0))).setCell ⟨gb248, 1, none⟩ (.int .i64 ((rd_T105 l0_1 x8_1).f1))).heap[gb246]? = some (.cells #[.int .i64 a0_0, .slice (some ad247) l0_1.length c0_1] 33 (0, 0))) := ⟨by (with_reducible repeat (first | refine blk_drewN ?_ _ | refine blk_drew ?_ | refine blk_alloc ?_ _)); refine blk_far ?_ NB246_248.out _; (with_reducible repeat (first | refine blk_drewN ?_ _ | refine blk_drew ?_ | refine blk_alloc ?_ _)); refine blk_far ?_ NB246_248.out _; (with_reducible repeat (first | refine blk_drewN ?_ _ | refine blk_drew ?_ | refine blk_alloc ?_ _)); exact BK246.out⟩
             have n1_ : Aside0 (((w31.setCell ⟨gb248, 0, none⟩ (.int .i64 ((rd_T105 l0_1 x8_1).f0))).setCell ⟨gb248, 1, none⟩ (.int .i64 ((rd_T105 l0_1 x8_1).f1))).heap[gb248]? = some (.cells #[.int .i64 ((rd_T105 l0_1 x8_1).f0), .int .i64 ((rd_T105 l0_1 x8_1).f1)] 105 (0, 0))) := ⟨by (with_reducible repeat (first | refine blk_drewN ?_ _ | refine blk_drew ?_ | refine blk_alloc ?_ _)); refine blk_put (cs := #[.int .i64 ((rd_T105 l0_1 x8_1).f0), .int .i64 0]) ?_ 1 _ rfl; (with_reducible repeat (first | refine blk_drewN ?_ _ | refine blk_drew ?_ | refine blk_alloc ?_ _)); refine blk_put (cs := #[.int .i64 0, .int .i64 0]) ?_ 0 _ rfl; (with_reducible repeat (first | refine blk_drewN ?_ _ | refine blk_drew ?_ | refine blk_alloc ?_ _)); exact BK248.out⟩
             have n2_ : Aside0 (Below w.heap.size w ((w31.setCell ⟨gb248, 0, none⟩ (.int .i64 ((rd_T105 l0_1 x8_1).f0))).setCell ⟨gb248, 1, none⟩ (.int .i64 ((rd_T105 l0_1 x8_1).f1)))) := ⟨hB⟩
             (try clear BK246)
             (try clear BK248)
             (try clear HB)
             generalize ((w31.setCell ⟨gb248, 0, none⟩ (.int .i64 ((rd_T105 l0_1 x8_1).f0))).setCell ⟨gb248, 1, none⟩ (.int .i64 ((rd_T105 l0_1 x8_1).f1))) = w34 at n0_ n1_ n2_ ⊢
             have BK246 := n0_
             have BK248 := n1_
             have HB := n2_
             clear n0_ n1_ n2_
             replace BK246 := Aside0.mk (blk_drew BK246.out)
             replace BK248 := Aside0.mk (blk_drew BK248.out)
             replace HB := Aside0.mk (below_drew1 HB.out)
             have p249 : 0 ≤ ((ji26) : Int) := of_decide_eq_true (by first | (with_reducible assumption) | assumption)
             have q249 : (ji26) < (l0_1.length : Int) := of_decide_eq_true (by first | (with_reducible assumption) | assumption)
             obtain ⟨ad249, e249, hx249_0, hx249_1⟩ := at_T105 HR0_1.out (ji26) p249 q249
             have hw249_1 := hx249_1
             have hw249_0 := hx249_0
             obtain rfl : ad247 = ad249 := (by injection e249)
             replace hx249_0 := (HB.out.cell (World.block_lt_of_cell? w _ hx249_0)).trans hx249_0
             replace hx249_1 := (HB.out.cell (World.block_lt_of_cell? w _ hx249_1)).trans hx249_1
             replace p249 := eq_true p249
             replace q249 := eq_true q249
             refine start_ (n := 32) (S := fun w' => w'.cell? ⟨gb248, 0, none⟩ = some (.int .i64 ((rd_T105 l0_1 x8_1).f0)) ∧ w'.cell? ⟨gb248, 1, none⟩ = some (.int .i64 ((rd_T105 l0_1 x8_1).f1)) ∧ w'.cell? ⟨gb246, 0, none⟩ = some (.int .i64 a0_0) ∧ w'.cell? ⟨gb246, 1, none⟩ = some (.slice (some ad247) l0_1.length c0_1) ∧ w'.cell? (ad247.add (((ji26)).toNat * 2)) = some (.int .i64 ((rd_T105 l0_1 (ji26)).f0)) ∧ w'.cell? ⟨(ad247.add (((ji26)).toNat * 2)).block, (ad247.add (((ji26)).toNat * 2)).off + 1, none⟩ = some (.int .i64 ((rd_T105 l0_1 (ji26)).f1))) (ds := []) (bz 32 0) (by kernel_rfl) rfl rfl ⟨(blk_cell BK248.out 0).trans rfl, (blk_cell BK248.out 1).trans rfl, (blk_cell BK246.out 0).trans rfl, (blk_cell BK246.out 1).trans rfl, ((HB.out.cell (World.block_lt_of_cell? w _ hw249_0)).trans hw249_0), ((HB.out.cell (World.block_lt_of_cell? w _ hw249_1)).trans hw249_1)⟩ (fun hHeld => ?_); refine with_tabW impl_IsParty.tab4 impl_IsParty.bits4 (fun HT_ HW_ => ?_)
             generalize w34.drew = w35 at BK246 BK248 HB hx249_0 hx249_1 hHeld ⊢
             refine run_ [(0, 0, 1, some 13), (1, 1, 3, some 14), (0, 2, 7, some 15), (0, 3, 15, some 16), (0, 4, 31, some 17), (0, 6, 95, some 19), (1, 5, 127, some 18), (1, 7, 255, some 20), (0, 8, 511, some 21), (0, 9, 1023, some 22), (0, 10, 2047, some 23), (0, 11, 4095, some 24), (0, 13, 12287, some 26), (1, 12, 16383, some 25), (1, 14, 32767, some 27), (0, 15, 65535, some 28), (0, 16, 131071, some 29), (0, 17, 262143, some 30), (0, 18, 524287, some 31), (0, 19, 1048575, some 32), (0, 20, 2097151, some 33), (0, 21, 4194303, some 34), (0, 23, 12582911, some 36), (0, 24, 29360127, some 37), (1, 22, 33554431, some 35), (0, 25, 67108863, some 38), (1, 26, 134217727, some 39), (1, 27, 268435455, some 40)] ?_
             repeat (first | (apply tag0; refine run_p (v := ?_) (a' := ?_) rfl rfl (any_of HT_.out (by kernel_rfl)) (fun _ _ _ h => h) (by rfl) ?_ ?_ ?_; rotate_left 2; (intro w'; go_simp; with_reducible rfl); (first | (simp only [Act.put, List.setIfInBounds_toArray, List.set_cons_zero, List.set_cons_succ, i64_w, i32_w]; rfl) | rfl)) | (apply tag1; refine run_t (v := ?_) (a' := ?_) rfl rfl (take_ofW HT_.out HW_.out (by kernel_rfl)) (fun _ _ _ h => h) (by rfl) ?_ hHeld ?_ ?_; rotate_left 2; (rintro w' ⟨s0, s1, s2, s3, s4, s5⟩; go_simp; with_reducible rfl); (first | (simp only [Act.put, List.setIfInBounds_toArray, List.set_cons_zero, List.set_cons_succ, i64_w, i32_w]; rfl) | rfl)))
             refine run_nil ?_
             refine one_ (i := 28) (N := some 41) (bz 32 536870911) rfl rfl (one_of HT_.out (by kernel_rfl)) (by decide) (fun K hK => ?_)
             refine goes_ Tryd.func119 (by kernel_rfl) rfl #[.agg #[.int .i64 ((rd_T105 l0_1 (ji26)).f0), .int .i64 ((rd_T105 l0_1 (ji26)).f1)], .agg #[.int .i64 ((rd_T105 l0_1 x8_1).f0), .int .i64 ((rd_T105 l0_1 x8_1).f1)]] (by rfl) rfl rfl (by (try simp only [List.map_toArray, List.map_cons, List.map_nil]); first | done | (simp only [hji26]; rfl) | rfl | (simp only [List.length_drop, List.length_take]; rfl)) ?_
             with_reducible refine (impl_comparePairs.calls k1 ((rd_T105 l0_1 (ji26)).f0) ((rd_T105 l0_1 (ji26)).f1) ((rd_T105 l0_1 x8_1).f0) ((rd_T105 l0_1 x8_1).f1) t250 _ A29.out).mono ?_
             rintro e w36 ⟨rfl, hb⟩
             refine ⟨_, rfl, ?_⟩
             replace BK246 := bS BK246 hb
             replace BK248 := bS BK248 hb
             replace HB := hS HB hb
             (try clear hb)
             (try clear hb2)
             (try clear hk)
             (try clear hi)
             refine hK.out _ _ ⟨(blk_cell BK248.out 0).trans rfl, (blk_cell BK248.out 1).trans rfl, (blk_cell BK246.out 0).trans rfl, (blk_cell BK246.out 1).trans rfl, ((HB.out.cell (World.block_lt_of_cell? w _ hw249_0)).trans hw249_0), ((HB.out.cell (World.block_lt_of_cell? w _ hw249_1)).trans hw249_1)⟩ (fun hHeld => ?_)
             clear hK K
             refine norm_ (a' := ?_) ?_ ?_
             rotate_left
             ·show Act.put _ (some 41) _ = _
              simp only [Act.put, List.setIfInBounds_toArray, List.set_cons_zero, List.set_cons_succ, i64_w, i32_w]
              rfl
             refine run_ [(0, 29, 1073741823, some 42), (0, 30, 2147483647, some 43), (0, 31, 4294967295, some 44)] ?_
             repeat ((apply tag0; refine run_p (v := ?_) (a' := ?_) rfl rfl (any_of HT_.out (by kernel_rfl)) (fun _ _ _ h => h) (by rfl) ?_ ?_ ?_; rotate_left 2; (intro w'; go_simp; with_reducible rfl); (first | (simp only [Act.put, List.setIfInBounds_toArray, List.set_cons_zero, List.set_cons_succ, i64_w, i32_w]; rfl) | rfl)))
             refine run_nil ?_
             refine done_ (done_of HT_.out (by kernel_rfl)) ?_
             try go_wp2
             go_ret
             exact ⟨by first | rfl | (simp [errW_none, errW_some] <;> rfl) | (simp only [← hji26]; first | rfl | (simp [errW_none, errW_some] <;> rfl)) | (simp [*, errW_none, errW_some] <;> rfl), hB⟩
            ·rw [if_neg c30] at H
             have c30b0 : decide (0 ≤ t250) = false := decide_eq_false c30
             clear c30
             have H' := Aside0.mk H
             clear H
             have p247 : 0 ≤ (x8_1 : Int) := of_decide_eq_true (by first | (with_reducible assumption) | assumption)
             have q247 : x8_1 < (l0_1.length : Int) := of_decide_eq_true (by first | (with_reducible assumption) | assumption)
             obtain ⟨ad247, e247, hx247_0, hx247_1⟩ := at_T105 HR0_1.out x8_1 p247 q247
             cases e247
             replace hx247_0 := (HB.out.cell (World.block_lt_of_cell? w _ hx247_0)).trans hx247_0
             replace hx247_1 := (HB.out.cell (World.block_lt_of_cell? w _ hx247_1)).trans hx247_1
             replace p247 := eq_true p247
             replace q247 := eq_true q247
             try go_wp2_with (first | ((with_reducible refine gate_dst (N := 4) rfl ?_); refine bxE 4 #[.int .i64 0, .int .i64 0] 105 rfl ?_; intro gb248 hg w37 hbox hb; have BK248 := Aside0.mk (hbox); have GW248 := gS HB hg; have GE248 := gS HB hg; have NB246_248 := nL BK246 hg; have NB248_246 := nG BK246 hg; replace BK246 := bS BK246 hb; replace HB := hS HB hb; clear hb hbox hg; have hnb38 := NB248_246.out; have hnc38 := NB246_248.out; have hcz39_0 := cz BK248 0; have hcz39_1 := cz BK248 1; have hfz39_0 := fz BK248 0; have hfz39_1 := fz BK248 1))
             have n0_ : Aside0 (((w37.setCell ⟨gb248, 0, none⟩ (.int .i64 ((rd_T105 l0_1 x8_1).f0))).setCell ⟨gb248, 1, none⟩ (.int .i64 ((rd_T105 l0_1 x8_1).f1))).heap[gb246]? = some (.cells #[.int .i64 a0_0, .slice (some ad247) l0_1.length c0_1] 33 (0, 0))) := ⟨by (with_reducible repeat (first | refine blk_drewN ?_ _ | refine blk_drew ?_ | refine blk_alloc ?_ _)); refine blk_far ?_ NB246_248.out _; (with_reducible repeat (first | refine blk_drewN ?_ _ | refine blk_drew ?_ | refine blk_alloc ?_ _)); refine blk_far ?_ NB246_248.out _; (with_reducible repeat (first | refine blk_drewN ?_ _ | refine blk_drew ?_ | refine blk_alloc ?_ _)); exact BK246.out⟩
             have n1_ : Aside0 (((w37.setCell ⟨gb248, 0, none⟩ (.int .i64 ((rd_T105 l0_1 x8_1).f0))).setCell ⟨gb248, 1, none⟩ (.int .i64 ((rd_T105 l0_1 x8_1).f1))).heap[gb248]? = some (.cells #[.int .i64 ((rd_T105 l0_1 x8_1).f0), .int .i64 ((rd_T105 l0_1 x8_1).f1)] 105 (0, 0))) := ⟨by (with_reducible repeat (first | refine blk_drewN ?_ _ | refine blk_drew ?_ | refine blk_alloc ?_ _)); refine blk_put (cs := #[.int .i64 ((rd_T105 l0_1 x8_1).f0), .int .i64 0]) ?_ 1 _ rfl; (with_reducible repeat (first | refine blk_drewN ?_ _ | refine blk_drew ?_ | refine blk_alloc ?_ _)); refine blk_put (cs := #[.int .i64 0, .int .i64 0]) ?_ 0 _ rfl; (with_reducible repeat (first | refine blk_drewN ?_ _ | refine blk_drew ?_ | refine blk_alloc ?_ _)); exact BK248.out⟩
             have n2_ : Aside0 (Below w.heap.size w ((w37.setCell ⟨gb248, 0, none⟩ (.int .i64 ((rd_T105 l0_1 x8_1).f0))).setCell ⟨gb248, 1, none⟩ (.int .i64 ((rd_T105 l0_1 x8_1).f1)))) := ⟨hB⟩
             (try clear BK246)
             (try clear BK248)
             (try clear HB)
             generalize ((w37.setCell ⟨gb248, 0, none⟩ (.int .i64 ((rd_T105 l0_1 x8_1).f0))).setCell ⟨gb248, 1, none⟩ (.int .i64 ((rd_T105 l0_1 x8_1).f1))) = w40 at n0_ n1_ n2_ ⊢
             have BK246 := n0_
             have BK248 := n1_
             have HB := n2_
             clear n0_ n1_ n2_
             replace BK246 := Aside0.mk (blk_drew BK246.out)
             replace BK248 := Aside0.mk (blk_drew BK248.out)
             replace HB := Aside0.mk (below_drew1 HB.out)
             have p249 : 0 ≤ ((ji26) : Int) := of_decide_eq_true (by first | (with_reducible assumption) | assumption)
             have q249 : (ji26) < (l0_1.length : Int) := of_decide_eq_true (by first | (with_reducible assumption) | assumption)
             obtain ⟨ad249, e249, hx249_0, hx249_1⟩ := at_T105 HR0_1.out (ji26) p249 q249
             have hw249_1 := hx249_1
             have hw249_0 := hx249_0
             obtain rfl : ad247 = ad249 := (by injection e249)
             replace hx249_0 := (HB.out.cell (World.block_lt_of_cell? w _ hx249_0)).trans hx249_0
             replace hx249_1 := (HB.out.cell (World.block_lt_of_cell? w _ hx249_1)).trans hx249_1
             replace p249 := eq_true p249
             replace q249 := eq_true q249
             refine start_ (n := 32) (S := fun w' => w'.cell? ⟨gb248, 0, none⟩ = some (.int .i64 ((rd_T105 l0_1 x8_1).f0)) ∧ w'.cell? ⟨gb248, 1, none⟩ = some (.int .i64 ((rd_T105 l0_1 x8_1).f1)) ∧ w'.cell? ⟨gb246, 0, none⟩ = some (.int .i64 a0_0) ∧ w'.cell? ⟨gb246, 1, none⟩ = some (.slice (some ad247) l0_1.length c0_1) ∧ w'.cell? (ad247.add (((ji26)).toNat * 2)) = some (.int .i64 ((rd_T105 l0_1 (ji26)).f0)) ∧ w'.cell? ⟨(ad247.add (((ji26)).toNat * 2)).block, (ad247.add (((ji26)).toNat * 2)).off + 1, none⟩ = some (.int .i64 ((rd_T105 l0_1 (ji26)).f1))) (ds := []) (bz 32 0) (by kernel_rfl) rfl rfl ⟨(blk_cell BK248.out 0).trans rfl, (blk_cell BK248.out 1).trans rfl, (blk_cell BK246.out 0).trans rfl, (blk_cell BK246.out 1).trans rfl, ((HB.out.cell (World.block_lt_of_cell? w _ hw249_0)).trans hw249_0), ((HB.out.cell (World.block_lt_of_cell? w _ hw249_1)).trans hw249_1)⟩ (fun hHeld => ?_); refine with_tabW impl_IsParty.tab4 impl_IsParty.bits4 (fun HT_ HW_ => ?_)
             generalize w40.drew = w41 at BK246 BK248 HB hx249_0 hx249_1 hHeld ⊢
             refine run_ [(0, 0, 1, some 13), (1, 1, 3, some 14), (0, 2, 7, some 15), (0, 3, 15, some 16), (0, 4, 31, some 17), (0, 6, 95, some 19), (1, 5, 127, some 18), (1, 7, 255, some 20), (0, 8, 511, some 21), (0, 9, 1023, some 22), (0, 10, 2047, some 23), (0, 11, 4095, some 24), (0, 13, 12287, some 26), (1, 12, 16383, some 25), (1, 14, 32767, some 27), (0, 15, 65535, some 28), (0, 16, 131071, some 29), (0, 17, 262143, some 30), (0, 18, 524287, some 31), (0, 19, 1048575, some 32), (0, 20, 2097151, some 33), (0, 21, 4194303, some 34), (0, 23, 12582911, some 36), (0, 24, 29360127, some 37), (1, 22, 33554431, some 35), (0, 25, 67108863, some 38), (1, 26, 134217727, some 39), (1, 27, 268435455, some 40)] ?_
             repeat (first | (apply tag0; refine run_p (v := ?_) (a' := ?_) rfl rfl (any_of HT_.out (by kernel_rfl)) (fun _ _ _ h => h) (by rfl) ?_ ?_ ?_; rotate_left 2; (intro w'; go_simp; with_reducible rfl); (first | (simp only [Act.put, List.setIfInBounds_toArray, List.set_cons_zero, List.set_cons_succ, i64_w, i32_w]; rfl) | rfl)) | (apply tag1; refine run_t (v := ?_) (a' := ?_) rfl rfl (take_ofW HT_.out HW_.out (by kernel_rfl)) (fun _ _ _ h => h) (by rfl) ?_ hHeld ?_ ?_; rotate_left 2; (rintro w' ⟨s0, s1, s2, s3, s4, s5⟩; go_simp; with_reducible rfl); (first | (simp only [Act.put, List.setIfInBounds_toArray, List.set_cons_zero, List.set_cons_succ, i64_w, i32_w]; rfl) | rfl)))
             refine run_nil ?_
             refine one_ (i := 28) (N := some 41) (bz 32 536870911) rfl rfl (one_of HT_.out (by kernel_rfl)) (by decide) (fun K hK => ?_)
             refine goes_ Tryd.func119 (by kernel_rfl) rfl #[.agg #[.int .i64 ((rd_T105 l0_1 (ji26)).f0), .int .i64 ((rd_T105 l0_1 (ji26)).f1)], .agg #[.int .i64 ((rd_T105 l0_1 x8_1).f0), .int .i64 ((rd_T105 l0_1 x8_1).f1)]] (by rfl) rfl rfl (by (try simp only [List.map_toArray, List.map_cons, List.map_nil]); first | done | (simp only [hji26]; rfl) | rfl | (simp only [List.length_drop, List.length_take]; rfl)) ?_
             with_reducible refine (impl_comparePairs.calls k1 ((rd_T105 l0_1 (ji26)).f0) ((rd_T105 l0_1 (ji26)).f1) ((rd_T105 l0_1 x8_1).f0) ((rd_T105 l0_1 x8_1).f1) t250 _ A29.out).mono ?_
             rintro e w42 ⟨rfl, hb⟩
             refine ⟨_, rfl, ?_⟩
             replace BK246 := bS BK246 hb
             replace BK248 := bS BK248 hb
             replace HB := hS HB hb
             (try clear hb)
             (try clear hb2)
             (try clear hk)
             (try clear hi)
             refine hK.out _ _ ⟨(blk_cell BK248.out 0).trans rfl, (blk_cell BK248.out 1).trans rfl, (blk_cell BK246.out 0).trans rfl, (blk_cell BK246.out 1).trans rfl, ((HB.out.cell (World.block_lt_of_cell? w _ hw249_0)).trans hw249_0), ((HB.out.cell (World.block_lt_of_cell? w _ hw249_1)).trans hw249_1)⟩ (fun hHeld => ?_)
             clear hK K
             refine norm_ (a' := ?_) ?_ ?_
             rotate_left
             ·show Act.put _ (some 41) _ = _
              simp only [Act.put, List.setIfInBounds_toArray, List.set_cons_zero, List.set_cons_succ, i64_w, i32_w]
              rfl
             refine run_ [(0, 29, 1073741823, some 42), (0, 30, 2147483647, some 43), (0, 31, 4294967295, some 44)] ?_
             repeat ((apply tag0; refine run_p (v := ?_) (a' := ?_) rfl rfl (any_of HT_.out (by kernel_rfl)) (fun _ _ _ h => h) (by rfl) ?_ ?_ ?_; rotate_left 2; (intro w'; go_simp; with_reducible rfl); (first | (simp only [Act.put, List.setIfInBounds_toArray, List.set_cons_zero, List.set_cons_succ, i64_w, i32_w]; rfl) | rfl)))
             refine run_nil ?_
             refine done_ (done_of HT_.out (by kernel_rfl)) ?_
             try go_wp2
             go_roundg k1
             case measure => have := HK1.out; omega
             case rel => exact ⟨(wrap64 (x8_1 + 1)), (by first | rfl | (simp; done) | (simp [*]; done)), H', ⟨by have := HK1.out; omega⟩, ⟨bK⟩, ⟨hB⟩⟩
           ·rw [if_neg c28] at H
            exact absurd H (by simp)
          ·rw [if_neg c27] at H
           exact absurd H (by simp)
         ·rw [if_neg c25] at H
          have c25b0 : decide (0 < x8_1) = false := decide_eq_false c25
          clear c25
          have H' := Aside0.mk H
          clear H
          have p247 : 0 ≤ (x8_1 : Int) := of_decide_eq_true (by first | (with_reducible assumption) | assumption)
          have q247 : x8_1 < (l0_1.length : Int) := of_decide_eq_true (by first | (with_reducible assumption) | assumption)
          obtain ⟨ad247, e247, hx247_0, hx247_1⟩ := at_T105 HR0_1.out x8_1 p247 q247
          cases e247
          replace hx247_0 := (HB.out.cell (World.block_lt_of_cell? w _ hx247_0)).trans hx247_0
          replace hx247_1 := (HB.out.cell (World.block_lt_of_cell? w _ hx247_1)).trans hx247_1
          replace p247 := eq_true p247
          replace q247 := eq_true q247
          try go_wp2_with (first | ((with_reducible refine gate_dst (N := 4) rfl ?_); refine bxE 4 #[.int .i64 0, .int .i64 0] 105 rfl ?_; intro gb248 hg w43 hbox hb; have BK248 := Aside0.mk (hbox); have GW248 := gS HB hg; have GE248 := gS HB hg; have NB246_248 := nL BK246 hg; have NB248_246 := nG BK246 hg; replace BK246 := bS BK246 hb; replace HB := hS HB hb; clear hb hbox hg; have hnb44 := NB248_246.out; have hnc44 := NB246_248.out; have hcz45_0 := cz BK248 0; have hcz45_1 := cz BK248 1; have hfz45_0 := fz BK248 0; have hfz45_1 := fz BK248 1))
          have n0_ : Aside0 (((w43.setCell ⟨gb248, 0, none⟩ (.int .i64 ((rd_T105 l0_1 x8_1).f0))).setCell ⟨gb248, 1, none⟩ (.int .i64 ((rd_T105 l0_1 x8_1).f1))).heap[gb246]? = some (.cells #[.int .i64 a0_0, .slice (some ad247) l0_1.length c0_1] 33 (0, 0))) := ⟨by (with_reducible repeat (first | refine blk_drewN ?_ _ | refine blk_drew ?_ | refine blk_alloc ?_ _)); refine blk_far ?_ NB246_248.out _; (with_reducible repeat (first | refine blk_drewN ?_ _ | refine blk_drew ?_ | refine blk_alloc ?_ _)); refine blk_far ?_ NB246_248.out _; (with_reducible repeat (first | refine blk_drewN ?_ _ | refine blk_drew ?_ | refine blk_alloc ?_ _)); exact BK246.out⟩
          have n1_ : Aside0 (((w43.setCell ⟨gb248, 0, none⟩ (.int .i64 ((rd_T105 l0_1 x8_1).f0))).setCell ⟨gb248, 1, none⟩ (.int .i64 ((rd_T105 l0_1 x8_1).f1))).heap[gb248]? = some (.cells #[.int .i64 ((rd_T105 l0_1 x8_1).f0), .int .i64 ((rd_T105 l0_1 x8_1).f1)] 105 (0, 0))) := ⟨by (with_reducible repeat (first | refine blk_drewN ?_ _ | refine blk_drew ?_ | refine blk_alloc ?_ _)); refine blk_put (cs := #[.int .i64 ((rd_T105 l0_1 x8_1).f0), .int .i64 0]) ?_ 1 _ rfl; (with_reducible repeat (first | refine blk_drewN ?_ _ | refine blk_drew ?_ | refine blk_alloc ?_ _)); refine blk_put (cs := #[.int .i64 0, .int .i64 0]) ?_ 0 _ rfl; (with_reducible repeat (first | refine blk_drewN ?_ _ | refine blk_drew ?_ | refine blk_alloc ?_ _)); exact BK248.out⟩
          have n2_ : Aside0 (Below w.heap.size w ((w43.setCell ⟨gb248, 0, none⟩ (.int .i64 ((rd_T105 l0_1 x8_1).f0))).setCell ⟨gb248, 1, none⟩ (.int .i64 ((rd_T105 l0_1 x8_1).f1)))) := ⟨hB⟩
          (try clear BK246)
          (try clear BK248)
          (try clear HB)
          generalize ((w43.setCell ⟨gb248, 0, none⟩ (.int .i64 ((rd_T105 l0_1 x8_1).f0))).setCell ⟨gb248, 1, none⟩ (.int .i64 ((rd_T105 l0_1 x8_1).f1))) = w46 at n0_ n1_ n2_ ⊢
          have BK246 := n0_
          have BK248 := n1_
          have HB := n2_
          clear n0_ n1_ n2_
          replace BK246 := Aside0.mk (blk_drew BK246.out)
          replace BK248 := Aside0.mk (blk_drew BK248.out)
          replace HB := Aside0.mk (below_drew1 HB.out)
          refine start_ (n := 32) (S := fun w' => w'.cell? ⟨gb248, 0, none⟩ = some (.int .i64 ((rd_T105 l0_1 x8_1).f0)) ∧ w'.cell? ⟨gb248, 1, none⟩ = some (.int .i64 ((rd_T105 l0_1 x8_1).f1)) ∧ w'.cell? ⟨gb246, 0, none⟩ = some (.int .i64 a0_0) ∧ w'.cell? ⟨gb246, 1, none⟩ = some (.slice (some ad247) l0_1.length c0_1)) (ds := []) (bz 32 0) (by kernel_rfl) rfl rfl ⟨(blk_cell BK248.out 0).trans rfl, (blk_cell BK248.out 1).trans rfl, (blk_cell BK246.out 0).trans rfl, (blk_cell BK246.out 1).trans rfl⟩ (fun hHeld => ?_); refine with_tabW impl_IsParty.tab4 impl_IsParty.bits4 (fun HT_ HW_ => ?_)
          generalize w46.drew = w47 at BK246 BK248 HB hHeld ⊢
          refine run_ [(0, 0, 1, some 13), (1, 1, 3, some 14), (0, 2, 7, some 15), (0, 3, 15, some 16), (0, 4, 31, some 17), (0, 6, 95, some 19), (1, 5, 127, some 18), (1, 7, 255, some 20), (0, 8, 511, some 21), (0, 9, 1023, some 22), (0, 10, 2047, some 23), (0, 11, 4095, some 24), (0, 13, 12287, some 26), (1, 12, 16383, some 25), (1, 14, 32767, some 27), (0, 15, 65535, some 28), (0, 16, 131071, some 29), (0, 17, 262143, some 30), (0, 18, 524287, some 31), (0, 19, 1048575, some 32), (0, 20, 2097151, some 33), (2, 21, 4194303, some 34), (2, 22, 8388607, some 35), (2, 23, 16777215, some 36), (2, 24, 33554431, some 37), (2, 25, 67108863, some 38), (2, 26, 134217727, some 39), (2, 27, 268435455, some 40), (2, 28, 536870911, some 41), (2, 29, 1073741823, some 42), (0, 30, 2147483647, some 43), (0, 31, 4294967295, some 44)] ?_
          repeat (first | (apply tag0; refine run_p (v := ?_) (a' := ?_) rfl rfl (any_of HT_.out (by kernel_rfl)) (fun _ _ _ h => h) (by rfl) ?_ ?_ ?_; rotate_left 2; (intro w'; go_simp; with_reducible rfl); (first | (simp only [Act.put, List.setIfInBounds_toArray, List.set_cons_zero, List.set_cons_succ, i64_w, i32_w]; rfl) | rfl)) | (apply tag1; refine run_t (v := ?_) (a' := ?_) rfl rfl (take_ofW HT_.out HW_.out (by kernel_rfl)) (fun _ _ _ h => h) (by rfl) ?_ hHeld ?_ ?_; rotate_left 2; (rintro w' ⟨s0, s1, s2, s3⟩; go_simp; with_reducible rfl); (first | (simp only [Act.put, List.setIfInBounds_toArray, List.set_cons_zero, List.set_cons_succ, i64_w, i32_w]; rfl) | rfl)) | (apply tag2; refine run_o (a' := ?_) rfl rfl (any_of HT_.out (by kernel_rfl)) (fun _ _ _ h => h) (by rfl) ?_ ?_; rotate_left; (first | (simp only [Act.put, List.setIfInBounds_toArray, List.set_cons_zero, List.set_cons_succ, i64_w, i32_w]; rfl) | rfl)))
          refine run_nil ?_
          refine done_ (done_of HT_.out (by kernel_rfl)) ?_
          try go_wp2
          go_roundg k1
          case measure => have := HK1.out; omega
          case rel => exact ⟨(wrap64 (x8_1 + 1)), (by first | rfl | (simp; done) | (simp [*]; done)), H', ⟨by have := HK1.out; omega⟩, ⟨bK⟩, ⟨hB⟩⟩
     ·rw [if_neg c6] at H
      exact absurd H (by simp)
    ·rw [if_neg c5] at H
     exact absurd H (by simp)
   ·rw [if_neg c4] at H
    have c4b0 : decide (x8_1 < (l0_1.length : Int)) = false := decide_eq_false c4
    clear c4
    replace H := Option.bind_eq_some_iff.mp H
    obtain ⟨t251, A480, H⟩ := H
    replace H : (some t251) = some r := H
    have A48 := Aside0.mk A480
    clear A480
    obtain rfl := Option.some.inj H
    have hcz49_0 := cz BK246 0
    have hcz49_1 := cz BK246 1
    have hfz49_0 := fz BK246 0
    have hfz49_1 := fz BK246 1
    go_wp2_with (first | ((with_reducible refine gate_callee (f := 120) rfl ?_); refine goC (N := some 48) Tryd.func120 #[.int .i64 a0_0] rfl ?_; (with_reducible refine (impl_areCrowd.calls a0_0 t251 _ A48.out).mono ?_); rintro e w' ⟨rfl, ⟨nd, rfl⟩⟩; refine ⟨_, rfl, ?_⟩))
    go_ret
    exact ⟨by first | rfl | (simp [errW_none, errW_some] <;> rfl) | (simp [*, errW_none, errW_some] <;> rfl), hB⟩

/-! ### impl_table_all: function 79 -/
def impl_table_all.f (l0 : List Int) : Option (Int) := some (IntKind.u16.wrap ((shl .u16 1 (l0.length : Int)) - 1))
set_option maxHeartbeats 8000000 in
set_option maxRecDepth 100000 in
theorem impl_table_all.calls (A0 : Option Addr) (c0 : Nat) (l0 : List Int) (r : Int) (w : World) (hr0 : Kd.C (Kd.int .u16) w A0 l0.length l0) (hc0 : l0.length ≤ c0) (h : impl_table_all.f l0 = some r) :
  Calls Tryd.prog 79 #[.slice A0 l0.length c0] w fun e w' => e = .returned (.int .u16 r) ∧ Drawn0 w w' := by
 have HR0 := Aside0.mk hr0
 have HC0 := Aside0.mk hc0
 clear hr0 hc0
 have H : (some (IntKind.u16.wrap ((shl .u16 1 (l0.length : Int)) - 1))) = some r := h
 clear h
 obtain ⟨ji2, hji2⟩ : ∃ j_ : Int, (shl .u16 1 (l0.length : Int)) = j_ := ⟨_, rfl⟩
 replace H : (some (IntKind.u16.wrap ((ji2) - 1))) = some r := by first | (rw [hji2] at H; exact H) | (simp only [hji2] at H ⊢; exact H)
 have hji2_ : (IntKind.u16.wrap (1 * 2 ^ min (l0.length : Int).toNat 16)) = ji2 := hji2
 have hji2z : (l0.length : Int) ≤ 16 → (IntKind.u16.wrap (1 * 2 ^ (l0.length : Int).toNat)) = ji2 := shl_small hji2
 have hji2p : (IntKind.u16.wrap (1 * 2 ^ min l0.length 16)) = ji2 := hji2_
 have hji2q : (l0.length : Int) ≤ 16 → (IntKind.u16.wrap (1 * 2 ^ l0.length)) = ji2 := hji2z
 have hji2r : (IntKind.u16.wrap (2 ^ min l0.length 16)) = ji2 := by have h_ := hji2p; rw [Int.one_mul] at h_; exact h_
 have hji2s : (l0.length : Int) ≤ 16 → (IntKind.u16.wrap (2 ^ l0.length)) = ji2 := fun hle_ => by have h_ := hji2q hle_; rw [Int.one_mul] at h_; exact h_
 have hji2u : (IntKind.u16.wrap (2 ^ min (l0.length : Int).toNat 16)) = ji2 := by have h_ := hji2_; rw [Int.one_mul] at h_; exact h_
 have hji2v : (l0.length : Int) ≤ 16 → (IntKind.u16.wrap (2 ^ (l0.length : Int).toNat)) = ji2 := fun hle_ => by have h_ := hji2z hle_; rw [Int.one_mul] at h_; exact h_
 obtain rfl := Option.some.inj H
 go_enter Tryd.func79, Tryd.ntmps79
 go_wp2
 go_ret
 exact ⟨by first | rfl | (simp; done) | (simp only [← hji2] <;> (first | rfl | simp)) | (simp [*]; done), by repeat (first | exact Drawn0.refl _ | apply Drawn0.step)⟩

/-! ### impl_table_full_1: function 126 (a text of this session's own) -/

/-- Whom all of a group are friends of. -/
def impl_table_full_1.lc : Nat → List Int → List Int → Int → Int → Option Int
 | 0, _, _, _, _ => none
 | k + 1, t, l, i, c => if i < (l.length : Int) then (if 0 ≤ i then (if 0 ≤ rd l i then (if rd l i < (t.length : Int) then impl_table_full_1.lc k t l (wrap64 (i + 1)) (Go.bits .and .u16 c (rd t (rd l i))) else none) else none) else none) else some c
def impl_table_full_1.f (k : Nat) (t l : List Int) (xs : List (List Int)) : Option (List (List Int)) := (impl_table_all.f t).bind fun s => (impl_table_full_1.lc k t l 0 s).bind fun c => if c = 0 then (if xs.length < 5864062014805 then some (xs ++ [l]) else none) else some xs
theorem impl_table_full_1.mono_l : ∀ k, (∀ y0 y1 y2 y3, LeO (impl_table_full_1.lc k y0 y1 y2 y3) (impl_table_full_1.lc (k + 1) y0 y1 y2 y3))
 | 0 => fun _ _ _ _ r h => by simp [impl_table_full_1.lc] at h
 | k + 1 => by
  have ih0 := impl_table_full_1.mono_l k
  intro y0 y1 y2 y3
  unfold impl_table_full_1.lc
  repeat' first
    | (with_reducible exact ih0 _ _ _ _)
    | (with_reducible exact LeO.refl _)
    | (with_reducible exact LeO.none _)
    | (with_reducible refine LeO.ite ?_ ?_)
theorem impl_table_full_1.mono (k : Nat) (t l : List Int) (xs : List (List Int)) : LeO (impl_table_full_1.f k t l xs) (impl_table_full_1.f (k + 1) t l xs) := by
  unfold impl_table_full_1.f
  exact LeO.bind (LeO.refl _) (fun _ => LeO.bind (impl_table_full_1.mono_l _ _ _ _ _) (fun _ => LeO.refl _))
/-- What a call leaves: the list in its place, and all else that lay there. -/
structure impl_table_full_1.St (w : World) (base b : Nat) (v : Value) (w' : World) (v' : Value) (ys : List (List Int)) : Prop where
  box : w'.heap[b]? = some (.cells #[v'] 58 (0, 0))
  row : Kd.S (Kd.slice 3 (Kd.int .i64)) 75 w' base (fun k => k ≠ b ∧ base ≤ k) v' ys
  below : Below base w w'
  keep : ∀ k, (k ≠ b ∧ some k ≠ v.ownBlock) → k < w.heap.size → w'.heap[k]? = w.heap[k]?
  at_ : v'.ownBlock = v.ownBlock ∨ ∃ g, v'.ownBlock = some g ∧ w.heap.size ≤ g
section
variable {w w' w'' : World} {base b : Nat} {v v' v'' : Value} {ys zs : List (List Int)}
theorem impl_table_full_1.St.apart (s : impl_table_full_1.St w base b v w' v' ys) {k : Nat} (h : k < w.heap.size) (hk : some k ≠ v.ownBlock) : some k ≠ v'.ownBlock := by
  rcases s.at_ with e | ⟨g, e, hg⟩
  · rw [e]; exact hk
  · rw [e]
    intro hh
    injection hh with hh
    omega
theorem impl_table_full_1.St.foot {α : Type} {d : Kd α} {A : Option Addr} {n : Nat} {xs : List α} (s : impl_table_full_1.St w base b v w' v' ys) (h : Kd.F d w (fun k => k ≠ b ∧ some k ≠ v.ownBlock) A n xs) : Kd.F d w' (fun k => k ≠ b ∧ some k ≠ v'.ownBlock) A n xs :=
  Kd.F_mono (Kd.F_step (Kd.F_bound h) (fun k hk hlt => s.keep k hk.1 hlt)) (fun _ hk => ⟨hk.1.1, s.apart hk.2 hk.1.2⟩)
theorem impl_table_full_1.St.later (s : impl_table_full_1.St w base b v w' v' ys) (hbase : base ≤ w'.heap.size) (hb : Below w'.heap.size w' w'') : impl_table_full_1.St w base b v w'' v' ys := by
  have hlt : b < w'.heap.size := (Array.getElem?_eq_some_iff.1 s.box).1
  exact ⟨(hb.block b hlt).trans s.box, Kd.S_below s.row hb, below_then s.below hbase hb, fun k hk hl => (hb.block k (Nat.lt_of_lt_of_le hl s.below.size)).trans (s.keep k hk hl), s.at_⟩
theorem impl_table_full_1.St.self (s : impl_table_full_1.St w base b v w' v' ys) : impl_table_full_1.St w' base b v' w' v' ys := ⟨s.box, s.row, Below.refl _ _, fun _ _ _ => rfl, .inl rfl⟩
theorem impl_table_full_1.St.trans (s : impl_table_full_1.St w base b v w' v' ys) (u : impl_table_full_1.St w' base b v' w'' v'' zs) : impl_table_full_1.St w base b v w'' v'' zs := by
  refine ⟨u.box, u.row, s.below.trans u.below, fun k hk hl => ?_, ?_⟩
  · rw [u.keep k ⟨hk.1, s.apart hl hk.2⟩ (Nat.lt_of_lt_of_le hl s.below.size), s.keep k hk hl]
  · rcases u.at_ with e | ⟨g, e, hg⟩
    · rw [e]; exact s.at_
    · exact .inr ⟨g, e, Nat.le_trans s.below.size hg⟩
theorem impl_table_full_1.St.blk (s : impl_table_full_1.St w base b v w' v' ys) {k : Nat} {o : Obj} (h : w.heap[k]? = some o) (hk : k < base) : w'.heap[k]? = some o := (s.below.block k hk).trans h
theorem impl_table_full_1.St.drewN (s : impl_table_full_1.St w base b v w' v' ys) (hbase : base ≤ w'.heap.size) (m : Nat) : impl_table_full_1.St w base b v (w'.drewN m) v' ys := s.later hbase (pw_below_drewN (Below.refl _ _) m)
end
set_option maxHeartbeats 8000000 in
set_option maxRecDepth 100000 in
theorem impl_table_full_1.calls (k : Nat) (t : List Int) (At : Option Addr) (ct bt b : Nat) (A1 : Option Addr) (c1 : Nat) (l1 : List Int) (v : Value) (xs r : List (List Int)) (w : World) (base : Nat)
    (hbt : w.heap[bt]? = some (.cells #[.slice At t.length ct] 81 (0, 0))) (hts : Kd.F (Kd.int .u16) w (fun k => k ≠ b ∧ some k ≠ v.ownBlock) At t.length t) (hct : t.length ≤ ct)
    (h1 : Kd.R (Kd.int .i64) 3 w base (fun k => k ≠ b ∧ base ≤ k) (.slice A1 l1.length c1) l1)
    (hd : Kd.S (Kd.slice 3 (Kd.int .i64)) 75 w base (fun k => (k ≠ b ∧ base ≤ k) ∧ ¬ some k = (Value.slice A1 l1.length c1).ownBlock) v xs) (hS : impl_table_full_1.St w base b v w v xs) (hbase : base ≤ w.heap.size) (hbb : base ≤ b) (h : impl_table_full_1.f k t l1 xs = some r) :
    Calls Tryd.prog 126 #[.slice A1 l1.length c1, .pointer (some ⟨bt, 0, none⟩), .pointer (some ⟨b, 0, none⟩)] w fun e w' => e = .returned (.tuple #[]) ∧ ∃ v', impl_table_full_1.St w base b v w' v' r := by
  obtain ⟨Av, cv, rfl⟩ := Kd.S_slice hS.row
  unfold impl_table_full_1.f at h
  replace h := Option.bind_eq_some_iff.mp h
  obtain ⟨s, hs, h⟩ := h
  replace h := Option.bind_eq_some_iff.mp h
  obtain ⟨c, hc, h⟩ := h
  have HBT := Aside0.mk hbt
  have HTS := Aside0.mk (Kd.F_now hts)
  have HS := Aside0.mk hS
  have HD := Aside0.mk hd
  have H1 := Aside0.mk h1
  have HSA := Aside0.mk hs
  have HC := Aside0.mk hc
  have HX := Aside0.mk h
  have LB := Aside0.mk (show b < w.heap.size from blk_lt hS.box)
  have H1A := Aside0.mk (Kd.R_apart' h1 (Kd.S_typed hS.row) (by decide))
  have hct0 : w.cell? ⟨bt, 0, none⟩ = some (.slice At t.length ct) := (blk_cell hbt 0).trans rfl
  clear hbt hts hS hd h1 hs hc h
  go_enter Tryd.func126, Tryd.ntmps126
  go_wp2_with (go_at_call 79; refine (impl_table_all.calls At ct t s _ (by first | exact HTS.out | exact Kd.C_drewN HTS.out _) hct HSA.out).mono ?_; rintro e w2 ⟨rfl, ⟨m0, rfl⟩⟩)
  go_loopg [4, 11] k (fun kq v4 v11 W => ∃ (y i : Int), v4 = .int .u16 y ∧ v11 = .int .i64 i ∧ Aside0 (impl_table_full_1.lc kq t l1 i y = some c) ∧ Aside0 (kq ≤ k) ∧ Drawn0 w W)
  case atStart => exact ⟨s, 0, rfl, rfl, HC, ⟨Nat.le_refl _⟩, by repeat (first | exact Drawn0.refl _ | apply Drawn0.step)⟩
  case round =>
    obtain ⟨y, i, rfl, rfl, HA, HK1, ⟨m1, rfl⟩⟩ := hrel
    clear HC
    cases gk with
    | zero => exact absurd HA.out (by simp [impl_table_full_1.lc])
    | succ k1 =>
      have H := HA.out
      clear HA
      simp only [impl_table_full_1.lc] at H
      by_cases c1_ : i < (l1.length : Int)
      · rw [if_pos c1_] at H
        by_cases c2_ : 0 ≤ i
        · rw [if_pos c2_] at H
          obtain ⟨a, ha⟩ : ∃ a_, a_ = rd l1 i := ⟨_, rfl⟩
          rw [← ha] at H
          by_cases c3_ : 0 ≤ a
          · rw [if_pos c3_] at H
            by_cases c4_ : a < (t.length : Int)
            · rw [if_pos c4_] at H
              have HN := Aside0.mk H
              obtain ⟨ad1, e1, hx1⟩ := Kd.at_int (Kd.R_reads' H1.out).2.2 i c2_ c1_
              rw [← ha] at hx1
              subst e1
              obtain ⟨ad2, e2, hx2⟩ := Kd.at_int HTS.out a c3_ c4_
              subst e2
              have c1b : decide (i < (l1.length : Int)) = true := decide_eq_true c1_
              replace c1_ := eq_true c1_
              replace c2_ := eq_true c2_
              replace c3_ := eq_true c3_
              replace c4_ := eq_true c4_
              clear H ha
              go_wp2
              go_roundg k1
              case measure => have := HK1.out; omega
              case rel => exact ⟨_, _, by first | rfl | (simp; done), by first | rfl | (simp; done), HN, ⟨by have := HK1.out; omega⟩, by repeat (first | exact Drawn0.refl _ | apply Drawn0.step)⟩
            · rw [if_neg c4_] at H; cases H
          · rw [if_neg c3_] at H; cases H
        · rw [if_neg c2_] at H; cases H
      · rw [if_neg c1_] at H
        have c1b : decide (i < (l1.length : Int)) = false := decide_eq_false c1_
        clear c1_
        obtain rfl := Option.some.inj H
        have h := HX.out
        clear H HX
        have S1 := Aside0.mk (HS.out.drewN hbase m1)
        by_cases cz : y = 0
        · rw [if_pos cz] at h
          by_cases cx : xs.length < 5864062014805
          · rw [if_pos cx] at h
            obtain rfl := Option.some.inj h
            have LX := Aside0.mk cx
            have czb : (y == 0) = true := beq_iff_eq.mpr cz
            clear cz cx h
            have hso : (w.drewN m1).cell? ⟨b, 0, none⟩ = some (.slice Av xs.length cv) := (blk_cell S1.out.box 0).trans rfl
            have hso' : w.cell? ⟨b, 0, none⟩ = some (.slice Av xs.length cv) := (blk_cell HS.out.box 0).trans rfl
            generalize hw1 : w.drewN m1 = w1 at S1 hso
            have HB1 := Aside0.mk (show Below w.heap.size w w1 from by rw [← hw1]; exact pw_below_drewN (Below.refl _ _) m1)
            clear hw1 hct0 hso'
            go_wp2_with ((with_reducible refine gate_builtin (b := .append) (xs := #[.tmp 24, .tmp 26]) rfl ?_); at_builtin; refine Kd.S_append (Kd.slice 3 (Kd.int .i64)) (w0 := w) base rfl (.tmp 24) (.tmp 26) 58 75 (.slice none 0 0) 24 rfl Tryd.underlying58 info75 rfl (by decide) (by omega) (.slice Av xs.length cv) xs l1 [.slice A1 l1.length c1] (fun k_ => k_ ≠ b ∧ base ≤ k_) (fun k_ => some k_ = (.slice A1 l1.length c1 : Value).ownBlock) rfl rfl ?aP ?aK ?aF ?aO ?aB ?aS ?aL ?_; (case aP => exact ⟨_, rfl, Kd.R_tight rfl (Kd.R_below H1.out HB1.out)⟩); (case aK => exact fun k_ hk => (by obtain ⟨h0_, _⟩ := H1A.out; exact h0_ k_ hk.symm)); (case aF => exact fun k_ hk => ⟨by have := LB.out; have := below_size HB1.out; omega, by have := below_size HB1.out; omega⟩); (case aO => exact Kd.S_below HD.out HB1.out); (case aB => exact S1.out.below); (case aS => exact Nat.le_trans hbase (below_size HB1.out)); (case aL => have := LX.out; omega); intro v3 w7 ho hb hg hat; have BX7 : w7.heap[b]? = some (.cells #[.slice Av xs.length cv] 58 (0, 0)) := (hg.block b (Nat.lt_of_lt_of_le LB.out (below_size HB1.out)) (Kd.S_away S1.out.row (fun _ hk => hk.1))).trans S1.out.box; obtain ⟨A3, c3, e3⟩ := Kd.S_slice ho; obtain ⟨n3, hn3⟩ : ∃ n_, n_ = (xs ++ [l1]).length := ⟨_, rfl⟩; rw [← hn3] at e3; subst e3; clear hn3; have S8 := Aside0.mk (show impl_table_full_1.St w base b (.slice Av xs.length cv) (w7.setCell ⟨b, 0, none⟩ (.slice A3 n3 c3)) (.slice A3 n3 c3) (xs ++ [l1]) from ⟨blk_set BX7 0 _, Kd.S_far ho (fun _ hk => hk.1) _, hb.setCell hbb _, fun k hk hl => (Below.heap_setCell w7 ⟨b, 0, none⟩ _ k hk.1).trans ((hg.block k (Nat.lt_of_lt_of_le hl (below_size HB1.out)) hk.2).trans (S1.out.keep k hk hl)), hat.imp id (fun ⟨g, e, hg⟩ => ⟨g, e, Nat.le_trans (below_size HB1.out) hg⟩)⟩); have hs7 : w7.cell? ⟨b, 0, none⟩ = some (.slice Av xs.length cv) := (blk_cell BX7 0).trans rfl; have hf7 := blk_frozen BX7 0; clear ho hb hg hat BX7 hso)
            first | go_end0 | ((try simp only [Exit.inBlock, Exit.then]); refine bodyPost_ret (results_none rfl _ _ _) rfl ?_)
            exact ⟨rfl, _, S8.out⟩
          · rw [if_neg cx] at h; cases h
        · rw [if_neg cz] at h
          obtain rfl := Option.some.inj h
          have czb : (y == 0) = false := beq_eq_false_iff_ne.mpr cz
          clear cz
          go_wp2
          first | go_end0 | ((try simp only [Exit.inBlock, Exit.then]); refine bodyPost_ret (results_none rfl _ _ _) rfl ?_)
          exact ⟨rfl, _, S1.out⟩

/-! ### bits_TrailingZeros16: function 121 (a text of this session's own) -/
def bits_TrailingZeros16.f (a0 : Int) : Option Int := if 0 ≤ a0 ∧ a0 < 65536 then some (ctz16 a0) else none
theorem bits_TrailingZeros16.calls (a0 : Int) (r : Int) (w : World) (h : bits_TrailingZeros16.f a0 = some r) (hG : GTab 0 w := by first | exact Aside0.out ‹Aside0 (GTab _ _)› | exact GTab.up (Aside0.out ‹Aside0 (GTab _ _)›) (by repeat (first | (with_reducible first | exact Below.refl _ _ | exact Aside0.out ‹Aside0 (Below _ _ _)› | apply below_alloc | apply pw_below_drewN | apply below_drew1 | refine below_set ?_ (Aside0.out (by assumption))) | exact Aside0.out ‹Aside0 (Below _ _ _)›))) :
    Calls Tryd.prog 121 #[.int .u16 a0] w fun e w' => e = .returned (.int .i64 r) ∧ Drawn0 w w' := by
  unfold bits_TrailingZeros16.f at h
  by_cases hx : 0 ≤ a0 ∧ a0 < 65536
  · rw [if_pos hx] at h
    obtain rfl := Option.some.inj h
    clear h
    obtain ⟨x, rfl⟩ := Int.eq_ofNat_of_zero_le hx.1
    by_cases h0 : x = 0
    · subst h0
      clear hG hx
      go_enter Tryd.func121, Tryd.ntmps121
      go_wp2
      go_ret
      exact ⟨rfl, ⟨0, rfl⟩⟩
    · obtain ⟨idx, key, hi, htab, hk⟩ := tz16_key x (by omega) h0
      have hk1 : ((Go.Lib.ctz 16 x : Nat) : Int) ≤ 15 := by omega
      have hk2 : (0 : Int) ≤ ((Go.Lib.ctz 16 x : Nat) : Int) := by omega
      clear hk
      have hcell := hG idx hi
      rw [htab] at hcell
      have hx0 : ((x : Int) == 0) = false := by simp; omega
      have h1 : (0 : Int) ≤ (idx : Int) := by omega
      have h2 : (idx : Int) < 32 := by omega
      have HC : Aside0 (ctz16 (x : Int) = ((Go.Lib.ctz 16 x : Nat) : Int)) := ⟨by simp [ctz16]⟩
      clear hG htab h0 hx
      go_enter Tryd.func121, Tryd.ntmps121
      go_wp2
      go_ret
      exact ⟨by rw [HC.out]; rfl, ⟨0, rfl⟩⟩
  · rw [if_neg hx] at h; cases h

/-! ### impl_listed: function 78 -/
def impl_listed.l0 : Nat → Int → List Int → Option (List Int)
 | 0, _, _ => none
 | k + 1, x0, x3 => if x0 > 0 then ((bits_TrailingZeros16.f x0).bind fun t255 => (if x3.length < 17592186044416 then (impl_listed.l0 k (Go.bits .and .u16 x0 (IntKind.u16.wrap (x0 - 1))) (x3 ++ [t255])) else (none))) else (some x3)
def impl_listed.f (k : Nat) (a0 : Int) : Option (List Int) := impl_listed.l0 k a0 (([] : List Int))
theorem impl_listed.mono_l : ∀ k, (∀ y0 y1, LeO (impl_listed.l0 k y0 y1) (impl_listed.l0 (k + 1) y0 y1))
 | 0 => fun _ _ r h => by simp [impl_listed.l0] at h
 | k + 1 => by
  have ih0 := impl_listed.mono_l k
  ·intro y0 y1
   unfold impl_listed.l0
   repeat' first
   | (with_reducible exact ih0 _ _)
   | (with_reducible exact LeO.refl _)
   | (with_reducible exact LeO.none _)
   | (with_reducible refine LeO.ite ?_ ?_)
   | (with_reducible refine LeO.bind ?_ (fun _ => ?_))
   | exact ih0 _ _
   | exact LeO.none _
   | refine LeO.ite ?_ ?_
   | refine LeO.bind ?_ (fun _ => ?_)
theorem impl_listed.mono : ∀ a0 k, LeO (impl_listed.f k a0) (impl_listed.f (k + 1) a0) := by
 intro a0 k
 have ih0 := impl_listed.mono_l k
 unfold impl_listed.f
 repeat' first
   | (with_reducible exact ih0 _ _)
   | (with_reducible exact LeO.refl _)
   | (with_reducible exact LeO.none _)
   | (with_reducible refine LeO.ite ?_ ?_)
   | (with_reducible refine LeO.bind ?_ (fun _ => ?_))
   | exact ih0 _ _
   | exact LeO.none _
   | refine LeO.ite ?_ ?_
   | refine LeO.bind ?_ (fun _ => ?_)
set_option maxHeartbeats 8000000 in
set_option maxRecDepth 100000 in
theorem impl_listed.calls (k : Nat) (a0 : Int) (r : List Int) (w : World) (h : impl_listed.f k a0 = some r) (hG : GTab 0 w := by first | exact Aside0.out ‹Aside0 (GTab _ _)› | exact GTab.up (Aside0.out ‹Aside0 (GTab _ _)›) (by repeat (first | (with_reducible first | exact Below.refl _ _ | exact Aside0.out ‹Aside0 (Below _ _ _)› | apply below_alloc | apply pw_below_drewN | apply below_drew1 | refine below_set ?_ (Aside0.out (by assumption))) | exact Aside0.out ‹Aside0 (Below _ _ _)›))) :
  Calls Tryd.prog 78 #[.int .u16 a0] w fun e w' => ∃ v0_ : Value, e = .returned (v0_) ∧ Kd.R (Kd.int .i64) 3 w' w.heap.size (fun _ => True) v0_ r ∧ Below w.heap.size w w' := by
 have HG := Aside0.mk (p := GTab _ _) hG
 clear hG
 have HB := Aside0.mk (Below.refl w.heap.size w)
 have H : (impl_listed.l0 k a0 (([] : List Int))) = some r := h
 clear h
 obtain ⟨y252, hy252⟩ : ∃ y_ : List Int, y_ = (([] : List Int)) := ⟨_, rfl⟩
 replace H : (impl_listed.l0 k a0 y252) = some r := by first | (rw [hy252]; with_reducible exact H) | (have H2_ := (Option.bind_some _ _).symm.trans H; rw [hy252]; with_reducible exact H2_) | (have H2_ := (Option.bind_some _ _).symm.trans H; with_reducible exact H2_) | with_reducible exact H | (rw [hy252]; exact H) | exact H
 have Ny252 := Aside0.mk hy252
 clear hy252
 have H' := Aside0.mk H
 clear H
 go_enter Tryd.func78, Tryd.ntmps78
 go_wp2_with (first | ((with_reducible refine gate_dst (N := 4) rfl ?_); refine Kd.R_lit (Kd.int .i64) _ 3 ?hg (N := 4) ?hd (xs := ([] : List Int)) (inner := []) (ok := fun _ => True) (okp := fun _ => True) ?hr ?hp (fun _ hk => hk) trivial (Below.refl _ _) (Nat.le_refl _) (by simp) ?_; (case hd => rfl); (case hg => rfl); (case hr => first | (go_simp; done) | (go_simp; rfl)); (case hp => exact (Reps.none _ _)); intro v253 w2 ho3 hb hg_ hnew_; clear hg_ hnew_; (first | rw [← Ny252.out] at ho3 | (simp only [Int.reduceToNat] at ho3; rw [← Ny252.out] at ho3)); have HO254 := Aside0.mk (Kd.R_lower ho3 (below_size hB)); replace HB := hS HB hb; clear hb ho3))
 go_loopg [0, 3] k (fun kq v0 v3 w' => ∃ (x0_1 : Int) (x3_1 : List Int), v0 = .int .u16 x0_1 ∧ Aside0 (impl_listed.l0 kq x0_1 x3_1 = some r) ∧ Aside0 (kq ≤ k) ∧ Aside0 (Kd.R (Kd.int .i64) 3 w' w.heap.size (fun _ => True) v3 x3_1) ∧ Aside0 (Below w.heap.size w w'))
 case atStart => exact ⟨(a0), (y252), (by first | rfl | (simp; done) | (simp [*]; done)), H', ⟨Nat.le_refl _⟩, ⟨rU HO254⟩, ⟨hB⟩⟩
 case round =>
  clear H'
  try clear p2
  obtain ⟨x0_1, x3_1, rfl, HA, HK1, HO_3, HB⟩ := hrel
  cases gk with
  | zero => exact absurd HA.out (by simp [impl_listed.l0])
  | succ k1 =>
   have H := HA.out
   clear HA
   simp only [impl_listed.l0] at H
   by_cases c4 : x0_1 > 0
   ·rw [if_pos c4] at H
    have c4b0 : decide (0 < x0_1) = true := decide_eq_true c4
    clear c4
    replace H := Option.bind_eq_some_iff.mp H
    obtain ⟨t255, A50, H⟩ := H
    try dsimp only at H
    have A5 := Aside0.mk A50
    clear A50
    by_cases c6 : x3_1.length < 17592186044416
    ·rw [if_pos c6] at H
     have LMc6 := Aside0.mk c6
     clear c6
     obtain ⟨y256, hy256⟩ : ∃ y_ : List Int, y_ = (x3_1 ++ [t255]) := ⟨_, rfl⟩
     replace H : (impl_listed.l0 k1 (Go.bits .and .u16 x0_1 (IntKind.u16.wrap (x0_1 - 1))) y256) = some r := by first | (rw [hy256]; with_reducible exact H) | (have H2_ := (Option.bind_some _ _).symm.trans H; rw [hy256]; with_reducible exact H2_) | (have H2_ := (Option.bind_some _ _).symm.trans H; with_reducible exact H2_) | with_reducible exact H | (rw [hy256]; exact H) | exact H
     have Ny256 := Aside0.mk hy256
     clear hy256
     have H' := Aside0.mk H
     clear H
     go_wp2_with (first | ((with_reducible refine gate_callee (f := 121) rfl ?_); refine goC (N := some 13) Tryd.func121 #[.int .u16 x0_1] rfl ?_; (with_reducible refine (bits_TrailingZeros16.calls x0_1 t255 _ A5.out).mono ?_); rintro e w' ⟨rfl, ⟨nd, rfl⟩⟩; refine ⟨_, rfl, ?_⟩) | ((with_reducible refine gate_builtin (b := .append) (xs := #[.tmp 11, .tmp 14]) rfl ?_); at_builtin; refine Kd.R_append (Kd.int .i64) (w0 := w) w.heap.size rfl (.tmp 11) (.tmp 14) 75 3 (.int .i64 0) 8 rfl Tryd.underlying75 info3 rfl (by decide) (by omega) u3 x3_1 t255 [.int .i64 t255] (fun _ => True) (fun _ => False) rfl rfl ?aP (fun _ hk => hk.elim) ?aF ?aO ?aB ?aS ?aL ?_; (case aP => exact rfl); (case aB => exact hB); (case aF => exact (fun _ _ => trivial)); (case aO => exact (rU HO_3)); (case aS => exact (below_size hB)); (case aL => have := LMc6.out; omega); intro v257 w7 ho hb hg hat; rw [← Ny256.out] at ho; have HO258 := Aside0.mk (ho); replace HB := Aside0.mk (hb); clear HO_3; clear ho hb hg hat))
     go_roundg k1
     case measure => have := HK1.out; omega
     case rel => exact ⟨(Go.bits .and .u16 x0_1 (IntKind.u16.wrap (x0_1 - 1))), (y256), (by first | rfl | (simp; done) | (simp [*]; done)), H', ⟨by have := HK1.out; omega⟩, ⟨rU HO258⟩, ⟨hB⟩⟩
    ·rw [if_neg c6] at H
     exact absurd H (by simp)
   ·rw [if_neg c4] at H
    have c4b0 : decide (0 < x0_1) = false := decide_eq_false c4
    clear c4
    obtain rfl := Option.some.inj H
    go_wp2
    go_ret
    exact ⟨_, by first | rfl | (simp [errW_none, errW_some] <;> rfl) | (simp [*, errW_none, errW_some] <;> rfl), rU HO_3, hB⟩

end Go.Proofs.YtjpfbkkikcpmhaaDoor.PFnExactAllApart
