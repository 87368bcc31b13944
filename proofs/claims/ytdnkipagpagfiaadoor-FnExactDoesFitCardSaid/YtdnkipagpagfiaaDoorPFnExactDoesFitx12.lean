-- Of this session's own program wip/gen/gen.py (it drives the kit's print): contracts of the functions that the law reaches.
import Derived.Test.YtdnkipagpagfiaaDoorPFnExactDoesFitx0
import Derived.Test.YtdnkipagpagfiaaDoorPFnExactDoesFitx1
import Derived.Test.YtdnkipagpagfiaaDoorPFnExactDoesFitx6
import Derived.Test.YtdnkipagpagfiaaDoorPFnExactDoesFitx11
namespace Go.Proofs.YtdnkipagpagfiaaDoor.PFnExactDoesFit
open Go.RowKit Go.Proofs.YtdnkipagpagfiaaDoorW.PrintWords Go.Proofs.YtdnkipagpagfiaaDoorW.PrintLast Go.Proofs.YtdnkipagpagfiaaDoorW.PrintMore Go.Proofs.YtdnkipagpagfiaaDoor.Base
attribute [local go_sem] max2_int min2_int max_two min_two max_three min_three max_four min_four   -- for this text's walks alone
set_option linter.unusedVariables false
set_option linter.unusedSimpArgs false

/-! ### laws_FnExactDoesFit: function 3 -/
def laws_FnExactDoesFit.f (k : Nat) (a0_0 : Int) (a0_1 : Int) (a0_2 : Int) (a1_0 : Int) (l1_1 : List (S112)) : Option (Bool) := (laws_szParty.f a1_0 l1_1 1048576).bind fun t408 => (if t408 < 0 then (some true) else ((laws_toClue.f a0_0 a0_1 a0_2).bind fun bt409 => ((laws_toParty.f k a1_0 l1_1).bind fun bt412 => ((spec_DoesFit.f k bt409.1 bt409.2.1 bt409.2.2 bt412.1 bt412.2).bind fun bt416 => ((laws_toParty.f k a1_0 l1_1).bind fun bt418 => ((laws_toClue.f a0_0 a0_1 a0_2).bind fun bt423 => ((impl_DoesFit.f k bt423.1 bt423.2.1 bt423.2.2 bt418.1 bt418.2).bind fun bt426 => (if (bt426.1 != bt416.1) = true then (none) else (if (bt426.2 != bt416.2) = true then (none) else ((laws_toParty.f k a1_0 l1_1).bind fun bt428 => ((laws_eqParty.f k bt418.1 bt418.2 bt428.1 bt428.2).bind fun t432 => (if t432 = true then (some true) else (none)))))))))))))
theorem laws_FnExactDoesFit.mono : ∀ a0 a1 a2 a3 a4 k, LeO (laws_FnExactDoesFit.f k a0 a1 a2 a3 a4) (laws_FnExactDoesFit.f (k + 1) a0 a1 a2 a3 a4) := by
 intro a0 a1 a2 a3 a4 k
 unfold laws_FnExactDoesFit.f
 repeat' first
   | (with_reducible exact impl_DoesFit.mono _ _ _ _ _ _)
   | (with_reducible exact laws_eqParty.mono _ _ _ _ _)
   | (with_reducible exact laws_toParty.mono _ _ _)
   | (with_reducible exact spec_DoesFit.mono _ _ _ _ _ _)
   | (with_reducible exact LeO.refl _)
   | (with_reducible exact LeO.none _)
   | (with_reducible refine LeO.ite ?_ ?_)
   | (with_reducible refine LeO.bind ?_ (fun _ => ?_))
   | exact impl_DoesFit.mono _ _ _ _ _ _
   | exact laws_eqParty.mono _ _ _ _ _
   | exact laws_toParty.mono _ _ _
   | exact spec_DoesFit.mono _ _ _ _ _ _
   | exact LeO.none _
   | refine LeO.ite ?_ ?_
   | refine LeO.bind ?_ (fun _ => ?_)
def laws_FnExactDoesFit.T5 : Bool × List (List Nat × List Nat) := (true, [([], []), ([0], [0]), ([], []), ([2, 1], [2]), ([1, 3, 3], [1, 3]), ([4], [4]), ([5], [5]), ([5], [5]), ([6, 4, 0, 1, 2, 3, 4, 5, 6], [6]), ([7, 8, 0, 1, 2, 3, 4, 5, 6, 7, 8], [7])])
def laws_FnExactDoesFit.B5 : List Nat := [0, 1, 0, 7, 15, 31, 63, 63, 127, 511]
theorem laws_FnExactDoesFit.tab5 : rtab .any (opsOf Tryd.f3 5) = laws_FnExactDoesFit.T5 := by kernel_rfl
theorem laws_FnExactDoesFit.bits5 : waitsOk laws_FnExactDoesFit.T5.2 laws_FnExactDoesFit.B5 = true := by kernel_rfl
def laws_FnExactDoesFit.T7 : Bool × List (List Nat × List Nat) := (true, [([], []), ([0], [0]), ([], []), ([1, 2, 1], [1, 2]), ([3], [3]), ([4], [4]), ([4], [4]), ([5, 3, 0, 1, 2, 3, 4, 5], [5]), ([6, 7, 0, 1, 2, 3, 4, 5, 6, 7], [6])])
def laws_FnExactDoesFit.B7 : List Nat := [0, 1, 0, 7, 15, 31, 31, 63, 255]
theorem laws_FnExactDoesFit.tab7 : rtab .any (opsOf Tryd.f3 7) = laws_FnExactDoesFit.T7 := by kernel_rfl
theorem laws_FnExactDoesFit.bits7 : waitsOk laws_FnExactDoesFit.T7.2 laws_FnExactDoesFit.B7 = true := by kernel_rfl
set_option maxHeartbeats 8000000 in
set_option maxRecDepth 100000 in
theorem laws_FnExactDoesFit.calls (k : Nat) (a0_0 : Int) (a0_1 : Int) (a0_2 : Int) (a1_0 : Int) (A1_1 : Option Addr) (c1_1 : Nat) (l1_1 : List (S112)) (r : Bool) (w : World) (hr1_1 : Kd.C k112 w A1_1 l1_1.length l1_1) (hc1_1 : l1_1.length ≤ c1_1) (h : laws_FnExactDoesFit.f k a0_0 a0_1 a0_2 a1_0 l1_1 = some r) (hG : GTab 0 w := by first | exact Aside0.out ‹Aside0 (GTab _ _)› | exact GTab.up (Aside0.out ‹Aside0 (GTab _ _)›) (by repeat (first | (with_reducible first | exact Below.refl _ _ | exact Aside0.out ‹Aside0 (Below _ _ _)› | apply below_alloc | apply pw_below_drewN | apply below_drew1 | refine below_set ?_ (Aside0.out (by assumption))) | exact Aside0.out ‹Aside0 (Below _ _ _)›))) :
  Calls Tryd.prog 3 #[.agg #[.int .i64 a0_0, .int .i64 a0_1, .int .i64 a0_2], .agg #[.int .i64 a1_0, .slice A1_1 l1_1.length c1_1]] w fun e w' => e = .returned (.bool r) ∧ Below w.heap.size w w' := by
 have hu23 := Tryd.underlying23
 have hu26 := Tryd.underlying26
 have hu34 := Tryd.underlying34
 have HG := Aside0.mk (p := GTab _ _) hG
 clear hG
 have HR1_1 := Aside0.mk hr1_1
 have HC1_1 := Aside0.mk hc1_1
 clear hr1_1 hc1_1
 have HB := Aside0.mk (Below.refl w.heap.size w)
 have H : ((laws_szParty.f a1_0 l1_1 1048576).bind fun t408 => (if t408 < 0 then (some true) else ((laws_toClue.f a0_0 a0_1 a0_2).bind fun bt409 => ((laws_toParty.f k a1_0 l1_1).bind fun bt412 => ((spec_DoesFit.f k bt409.1 bt409.2.1 bt409.2.2 bt412.1 bt412.2).bind fun bt416 => ((laws_toParty.f k a1_0 l1_1).bind fun bt418 => ((laws_toClue.f a0_0 a0_1 a0_2).bind fun bt423 => ((impl_DoesFit.f k bt423.1 bt423.2.1 bt423.2.2 bt418.1 bt418.2).bind fun bt426 => (if (bt426.1 != bt416.1) = true then (none) else (if (bt426.2 != bt416.2) = true then (none) else ((laws_toParty.f k a1_0 l1_1).bind fun bt428 => ((laws_eqParty.f k bt418.1 bt418.2 bt428.1 bt428.2).bind fun t432 => (if t432 = true then (some true) else (none)))))))))))))) = some r := h
 clear h
 replace H := Option.bind_eq_some_iff.mp H
 obtain ⟨t408, A30, H⟩ := H
 replace H : (if t408 < 0 then (some true) else ((laws_toClue.f a0_0 a0_1 a0_2).bind fun bt409 => ((laws_toParty.f k a1_0 l1_1).bind fun bt412 => ((spec_DoesFit.f k bt409.1 bt409.2.1 bt409.2.2 bt412.1 bt412.2).bind fun bt416 => ((laws_toParty.f k a1_0 l1_1).bind fun bt418 => ((laws_toClue.f a0_0 a0_1 a0_2).bind fun bt423 => ((impl_DoesFit.f k bt423.1 bt423.2.1 bt423.2.2 bt418.1 bt418.2).bind fun bt426 => (if (bt426.1 != bt416.1) = true then (none) else (if (bt426.2 != bt416.2) = true then (none) else ((laws_toParty.f k a1_0 l1_1).bind fun bt428 => ((laws_eqParty.f k bt418.1 bt418.2 bt428.1 bt428.2).bind fun t432 => (if t432 = true then (some true) else (none))))))))))))) = some r := H
 have A3 := Aside0.mk A30
 clear A30
 by_cases c4 : t408 < 0
 ·rw [if_pos c4] at H
  have c4b0 : decide (t408 < 0) = true := decide_eq_true c4
  clear c4
  obtain rfl := Option.some.inj H
  go_enter Tryd.func3, Tryd.ntmps3
  go_wp2_with (first | ((with_reducible refine gate_dst (N := 2) rfl ?_); refine box_event ?hg (N := 2) ?hd (cs := #[.int .i64 a0_0, .int .i64 a0_1, .int .i64 a0_2]) (t := 23) ?hr ?_; (case hd => rfl); (case hg => rfl); (case hr => first | (go_simp; done) | (go_simp; rfl)); intro gb406 hg w5 hbox hb; have n0_ := hS HB hb; have n1_ := Aside0.mk (hbox); have n2_ := gS HB hg; have n3_ := gS HB hg; clear HB; have HB := n0_; have BK406 := n1_; have GW406 := n2_; have GE406 := n3_; clear n0_ n1_ n2_ n3_; clear hb hbox hg) | ((with_reducible refine gate_dst (N := 3) rfl ?_); refine box_event ?hg (N := 3) ?hd (cs := #[.int .i64 a1_0, .slice A1_1 l1_1.length c1_1]) (t := 26) ?hr ?_; (case hd => rfl); (case hg => rfl); (case hr => first | (go_simp; done) | (go_simp; rfl)); intro gb407 hg w6 hbox hb; have n0_ := bS BK406 hb; have n1_ := hS HB hb; have n2_ := Aside0.mk (hbox); have n3_ := gS HB hg; have n4_ := gS HB hg; have n5_ := nL BK406 hg; have n6_ := nG BK406 hg; clear BK406; clear HB; have BK406 := n0_; have HB := n1_; have BK407 := n2_; have GW407 := n3_; have GE407 := n4_; have NB406_407 := n5_; have NB407_406 := n6_; clear n0_ n1_ n2_ n3_ n4_ n5_ n6_; clear hb hbox hg; have hnb7 := NB407_406.out; have hnc7 := NB406_407.out; have hcz8_0 : w6.cell? ⟨gb407, 0, none⟩ = some (.int .i64 a1_0) := (blk_cell BK407.out 0).trans rfl; have hcz8_1 : w6.cell? ⟨gb407, 1, none⟩ = some (.slice A1_1 l1_1.length c1_1) := (blk_cell BK407.out 1).trans rfl; have hfz8_0 := blk_frozen BK407.out 0; have hfz8_1 := blk_frozen BK407.out 1) | ((with_reducible refine gate_callee (f := 14) rfl ?_); refine goesL_ (some 13) rfl rfl Tryd.func14 (by kernel_rfl) rfl #[.agg #[.int .i64 a1_0, .slice A1_1 l1_1.length c1_1], .int .i64 1048576] rfl mapT ?_; (with_reducible refine (laws_szParty.calls a1_0 _ _ l1_1 1048576 t408 _ ?side1 ?side2 A3.out).mono ?_); (case side1 => repeat (first | exact (Kd.C_below HR1_1.out HB.out) | (with_reducible refine Kd.C_alloc ?_ _) | (with_reducible refine Kd.C_drewN ?_ _) | (with_reducible refine Kd.C_drew ?_))); (case side2 => exact HC1_1.out); rintro e w9 ⟨rfl, hb⟩; refine ⟨_, rfl, ?_⟩; have n0_ := bS BK406 hb; have n1_ := bS BK407 hb; have n2_ := hS HB hb; clear BK406; clear BK407; clear HB; have BK406 := n0_; have BK407 := n1_; have HB := n2_; clear n0_ n1_ n2_; (try clear hb); (try clear hb2); (try clear hk); (try clear hi)))
  go_ret
  exact ⟨by first | rfl | (simp [errW_none, errW_some] <;> rfl) | (simp [*, errW_none, errW_some] <;> rfl), hB⟩
 ·rw [if_neg c4] at H
  have c4b0 : decide (t408 < 0) = false := decide_eq_false c4
  clear c4
  replace H := Option.bind_eq_some_iff.mp H
  obtain ⟨⟨t409, t410, t411⟩, A100, H⟩ := H
  replace H : ((laws_toParty.f k a1_0 l1_1).bind fun bt412 => ((spec_DoesFit.f k t409 t410 t411 bt412.1 bt412.2).bind fun bt416 => ((laws_toParty.f k a1_0 l1_1).bind fun bt418 => ((laws_toClue.f a0_0 a0_1 a0_2).bind fun bt423 => ((impl_DoesFit.f k bt423.1 bt423.2.1 bt423.2.2 bt418.1 bt418.2).bind fun bt426 => (if (bt426.1 != bt416.1) = true then (none) else (if (bt426.2 != bt416.2) = true then (none) else ((laws_toParty.f k a1_0 l1_1).bind fun bt428 => ((laws_eqParty.f k bt418.1 bt418.2 bt428.1 bt428.2).bind fun t432 => (if t432 = true then (some true) else (none))))))))))) = some r := H
  have A10 := Aside0.mk A100
  clear A100
  replace H := Option.bind_eq_some_iff.mp H
  obtain ⟨⟨t412, t413⟩, A110, H⟩ := H
  replace H : ((spec_DoesFit.f k t409 t410 t411 t412 t413).bind fun bt416 => ((laws_toParty.f k a1_0 l1_1).bind fun bt418 => ((laws_toClue.f a0_0 a0_1 a0_2).bind fun bt423 => ((impl_DoesFit.f k bt423.1 bt423.2.1 bt423.2.2 bt418.1 bt418.2).bind fun bt426 => (if (bt426.1 != bt416.1) = true then (none) else (if (bt426.2 != bt416.2) = true then (none) else ((laws_toParty.f k a1_0 l1_1).bind fun bt428 => ((laws_eqParty.f k bt418.1 bt418.2 bt428.1 bt428.2).bind fun t432 => (if t432 = true then (some true) else (none)))))))))) = some r := H
  have A11 := Aside0.mk A110
  clear A110
  replace H := Option.bind_eq_some_iff.mp H
  obtain ⟨⟨t416, t417⟩, A120, H⟩ := H
  replace H : ((laws_toParty.f k a1_0 l1_1).bind fun bt418 => ((laws_toClue.f a0_0 a0_1 a0_2).bind fun bt423 => ((impl_DoesFit.f k bt423.1 bt423.2.1 bt423.2.2 bt418.1 bt418.2).bind fun bt426 => (if (bt426.1 != t416) = true then (none) else (if (bt426.2 != t417) = true then (none) else ((laws_toParty.f k a1_0 l1_1).bind fun bt428 => ((laws_eqParty.f k bt418.1 bt418.2 bt428.1 bt428.2).bind fun t432 => (if t432 = true then (some true) else (none))))))))) = some r := H
  have A12 := Aside0.mk A120
  clear A120
  replace H := Option.bind_eq_some_iff.mp H
  obtain ⟨⟨t418, t419⟩, A130, H⟩ := H
  replace H : ((laws_toClue.f a0_0 a0_1 a0_2).bind fun bt423 => ((impl_DoesFit.f k bt423.1 bt423.2.1 bt423.2.2 t418 t419).bind fun bt426 => (if (bt426.1 != t416) = true then (none) else (if (bt426.2 != t417) = true then (none) else ((laws_toParty.f k a1_0 l1_1).bind fun bt428 => ((laws_eqParty.f k t418 t419 bt428.1 bt428.2).bind fun t432 => (if t432 = true then (some true) else (none)))))))) = some r := H
  have A13 := Aside0.mk A130
  clear A130
  replace H := Option.bind_eq_some_iff.mp H
  obtain ⟨⟨t423, t424, t425⟩, A140, H⟩ := H
  replace H : ((impl_DoesFit.f k t423 t424 t425 t418 t419).bind fun bt426 => (if (bt426.1 != t416) = true then (none) else (if (bt426.2 != t417) = true then (none) else ((laws_toParty.f k a1_0 l1_1).bind fun bt428 => ((laws_eqParty.f k t418 t419 bt428.1 bt428.2).bind fun t432 => (if t432 = true then (some true) else (none))))))) = some r := H
  have A14 := Aside0.mk A140
  clear A140
  replace H := Option.bind_eq_some_iff.mp H
  obtain ⟨⟨t426, t427⟩, A150, H⟩ := H
  replace H : (if (t426 != t416) = true then (none) else (if (t427 != t417) = true then (none) else ((laws_toParty.f k a1_0 l1_1).bind fun bt428 => ((laws_eqParty.f k t418 t419 bt428.1 bt428.2).bind fun t432 => (if t432 = true then (some true) else (none)))))) = some r := H
  have A15 := Aside0.mk A150
  clear A150
  by_cases c16 : (t426 != t416) = true
  ·rw [if_pos c16] at H
   exact absurd H (by simp)
  ·rw [if_neg c16] at H
   have c16b0 : (t426 != t416) = false := by simpa using c16
   (try (have c16b1 : decide (t426 = t416) = true := by simpa using c16))
   (try (have c16b2 : (t426 == t416) = true := by simpa using c16))
   clear c16
   by_cases c17 : (t427 != t417) = true
   ·rw [if_pos c17] at H
    exact absurd H (by simp)
   ·rw [if_neg c17] at H
    have c17b0 : (t427 != t417) = false := by simpa using c17
    (try (have c17b1 : decide (t427 = t417) = true := by simpa using c17))
    (try (have c17b2 : (t427 == t417) = true := by simpa using c17))
    clear c17
    replace H := Option.bind_eq_some_iff.mp H
    obtain ⟨⟨t428, t429⟩, A180, H⟩ := H
    replace H : ((laws_eqParty.f k t418 t419 t428 t429).bind fun t432 => (if t432 = true then (some true) else (none))) = some r := H
    have A18 := Aside0.mk A180
    clear A180
    replace H := Option.bind_eq_some_iff.mp H
    obtain ⟨t432, A190, H⟩ := H
    replace H : (if t432 = true then (some true) else (none)) = some r := H
    have A19 := Aside0.mk A190
    clear A190
    by_cases c20 : t432 = true
    ·subst c20
     have H1 : (some true) = some r := by rw [if_pos rfl] at H; exact H
     clear H
     have H := H1
     clear H1
     obtain rfl := Option.some.inj H
     go_enter Tryd.func3, Tryd.ntmps3
     try go_wp2_with (first | ((with_reducible refine gate_dst (N := 2) rfl ?_); refine box_event ?hg (N := 2) ?hd (cs := #[.int .i64 a0_0, .int .i64 a0_1, .int .i64 a0_2]) (t := 23) ?hr ?_; (case hd => rfl); (case hg => rfl); (case hr => first | (go_simp; done) | (go_simp; rfl)); intro gb406 hg w21 hbox hb; have n0_ := hS HB hb; have n1_ := Aside0.mk (hbox); have n2_ := gS HB hg; have n3_ := gS HB hg; clear HB; have HB := n0_; have BK406 := n1_; have GW406 := n2_; have GE406 := n3_; clear n0_ n1_ n2_ n3_; clear hb hbox hg) | ((with_reducible refine gate_dst (N := 3) rfl ?_); refine box_event ?hg (N := 3) ?hd (cs := #[.int .i64 a1_0, .slice A1_1 l1_1.length c1_1]) (t := 26) ?hr ?_; (case hd => rfl); (case hg => rfl); (case hr => first | (go_simp; done) | (go_simp; rfl)); intro gb407 hg w22 hbox hb; have n0_ := bS BK406 hb; have n1_ := hS HB hb; have n2_ := Aside0.mk (hbox); have n3_ := gS HB hg; have n4_ := gS HB hg; have n5_ := nL BK406 hg; have n6_ := nG BK406 hg; clear BK406; clear HB; have BK406 := n0_; have HB := n1_; have BK407 := n2_; have GW407 := n3_; have GE407 := n4_; have NB406_407 := n5_; have NB407_406 := n6_; clear n0_ n1_ n2_ n3_ n4_ n5_ n6_; clear hb hbox hg; have hnb23 := NB407_406.out; have hnc23 := NB406_407.out; have hcz24_0 : w22.cell? ⟨gb407, 0, none⟩ = some (.int .i64 a1_0) := (blk_cell BK407.out 0).trans rfl; have hcz24_1 : w22.cell? ⟨gb407, 1, none⟩ = some (.slice A1_1 l1_1.length c1_1) := (blk_cell BK407.out 1).trans rfl; have hfz24_0 := blk_frozen BK407.out 0; have hfz24_1 := blk_frozen BK407.out 1) | ((with_reducible refine gate_callee (f := 14) rfl ?_); refine goesL_ (some 13) rfl rfl Tryd.func14 (by kernel_rfl) rfl #[.agg #[.int .i64 a1_0, .slice A1_1 l1_1.length c1_1], .int .i64 1048576] rfl mapT ?_; (with_reducible refine (laws_szParty.calls a1_0 _ _ l1_1 1048576 t408 _ ?side1 ?side2 A3.out).mono ?_); (case side1 => repeat (first | exact (Kd.C_below HR1_1.out HB.out) | (with_reducible refine Kd.C_alloc ?_ _) | (with_reducible refine Kd.C_drewN ?_ _) | (with_reducible refine Kd.C_drew ?_))); (case side2 => exact HC1_1.out); rintro e w25 ⟨rfl, hb⟩; refine ⟨_, rfl, ?_⟩; have n0_ := bS BK406 hb; have n1_ := bS BK407 hb; have n2_ := hS HB hb; clear BK406; clear BK407; clear HB; have BK406 := n0_; have BK407 := n1_; have HB := n2_; clear n0_ n1_ n2_; (try clear hb); (try clear hb2); (try clear hk); (try clear hi)))
     have n0_ := Aside0.mk (blk_drew BK406.out)
     have n1_ := Aside0.mk (blk_drew BK407.out)
     have n2_ := Aside0.mk (below_drew1 HB.out)
     clear BK406
     clear BK407
     clear HB
     have BK406 := n0_
     have BK407 := n1_
     have HB := n2_
     clear n0_ n1_ n2_
     refine start_ (n := 10) (S := fun w' => w'.cell? ⟨gb406, 0, none⟩ = some (.int .i64 a0_0) ∧ w'.cell? ⟨gb406, 1, none⟩ = some (.int .i64 a0_1) ∧ w'.cell? ⟨gb406, 2, none⟩ = some (.int .i64 a0_2) ∧ w'.cell? ⟨gb407, 0, none⟩ = some (.int .i64 a1_0) ∧ w'.cell? ⟨gb407, 1, none⟩ = some (.slice A1_1 l1_1.length c1_1)) (ds := []) (bz 10 0) (by kernel_rfl) rfl rfl ⟨(blk_cell BK406.out 0).trans rfl, (blk_cell BK406.out 1).trans rfl, (blk_cell BK406.out 2).trans rfl, (blk_cell BK407.out 0).trans rfl, (blk_cell BK407.out 1).trans rfl⟩ (fun hHeld => ?_); refine with_tabW laws_FnExactDoesFit.tab5 laws_FnExactDoesFit.bits5 (fun HT_ HW_ => ?_)
     generalize w25.drew = w26 at BK406 BK407 HB hHeld ⊢
     refine run_ [(1, 0, 1, some 17), (1, 2, 5, some 19)] ?_
     repeat ((apply tag1; refine run_t (v := ?_) (a' := ?_) rfl rfl (take_ofW HT_.out HW_.out (by kernel_rfl)) (fun _ _ _ h => h) (by rfl) ?_ hHeld ?_ ?_; rotate_left 2; (rintro w' ⟨s0, s1, s2, s3, s4⟩; go_simp; with_reducible rfl); (first | (simp only [Act.put, List.setIfInBounds_toArray, List.set_cons_zero, List.set_cons_succ, i64_w, i32_w]; rfl) | rfl)))
     refine run_nil ?_
     refine one_ (i := 1) (N := some 18) (bz 10 7) rfl rfl (one_of HT_.out (by kernel_rfl)) (by decide) (fun K hK => ?_)
     refine goes_ Tryd.func16 (by kernel_rfl) rfl #[.agg #[.int .i64 a0_0, .int .i64 a0_1, .int .i64 a0_2]] (by rfl) rfl rfl mapT ?_
     with_reducible refine (laws_toClue.calls a0_0 a0_1 a0_2 t409 t410 t411 _ A10.out).mono ?_
     rintro e w27 ⟨rfl, hb⟩
     refine ⟨_, rfl, ?_⟩
     have n0_ := bS BK406 hb
     have n1_ := bS BK407 hb
     have n2_ := hS HB hb
     clear BK406
     clear BK407
     clear HB
     have BK406 := n0_
     have BK407 := n1_
     have HB := n2_
     clear n0_ n1_ n2_
     (try clear hb)
     (try clear hb2)
     (try clear hk)
     (try clear hi)
     refine hK.out _ _ ⟨(blk_cell BK406.out 0).trans rfl, (blk_cell BK406.out 1).trans rfl, (blk_cell BK406.out 2).trans rfl, (blk_cell BK407.out 0).trans rfl, (blk_cell BK407.out 1).trans rfl⟩ (fun hHeld => ?_)
     clear hK K
     refine norm_ (a' := ?_) ?_ ?_
     rotate_left
     ·show Act.put _ (some 18) _ = _
      simp only [Act.put, List.setIfInBounds_toArray, List.set_cons_zero, List.set_cons_succ, i64_w, i32_w]
      rfl
     refine one_ (i := 3) (N := some 20) (bz 10 15) rfl rfl (one_of HT_.out (by kernel_rfl)) (by decide) (fun K hK => ?_)
     refine goes_ Tryd.func17 (by kernel_rfl) rfl #[.agg #[.int .i64 a1_0, .slice A1_1 l1_1.length c1_1]] (by rfl) rfl rfl mapT ?_
     with_reducible refine (laws_toParty.calls k a1_0 _ _ l1_1 t412 t413 _ ?side1 ?side2 A11.out).mono ?_
     (case side1 => repeat (first | exact (Kd.C_below HR1_1.out HB.out) | (with_reducible refine Kd.C_alloc ?_ _) | (with_reducible refine Kd.C_drewN ?_ _) | (with_reducible refine Kd.C_drew ?_)))
     (case side2 => exact HC1_1.out)
     rintro e w28 ⟨v414, rfl, ho0, hb⟩
     refine ⟨_, rfl, ?_⟩
     have n0_ := Aside0.mk (Kd.R_lower ho0 (below_size hB))
     have n1_ := bS BK406 hb
     have n2_ := bS BK407 hb
     have n3_ := hS HB hb
     clear BK406
     clear BK407
     clear HB
     have HO415 := n0_
     have BK406 := n1_
     have BK407 := n2_
     have HB := n3_
     clear n0_ n1_ n2_ n3_
     (try clear hb)
     (try clear hb2)
     (try clear hk)
     (try clear hi)
     (try clear ho0)
     obtain ⟨Ao29, co29, eo29⟩ := Kd.R_slice HO415.out
     (first | subst eo29 | (injection eo29 with f1_ f2_ f3_; have f4_ := f1_.symm; have f5_ := f3_.symm; clear f1_ f2_ f3_; subst f4_; subst f5_))
     refine hK.out _ _ ⟨(blk_cell BK406.out 0).trans rfl, (blk_cell BK406.out 1).trans rfl, (blk_cell BK406.out 2).trans rfl, (blk_cell BK407.out 0).trans rfl, (blk_cell BK407.out 1).trans rfl⟩ (fun hHeld => ?_)
     clear hK K
     refine norm_ (a' := ?_) ?_ ?_
     rotate_left
     ·show Act.put _ (some 20) _ = _
      simp only [Act.put, List.setIfInBounds_toArray, List.set_cons_zero, List.set_cons_succ, i64_w, i32_w]
      rfl
     refine one_ (i := 4) (N := some 21) (bz 10 31) rfl rfl (one_of HT_.out (by kernel_rfl)) (by decide) (fun K hK => ?_)
     refine goes_ Tryd.func15 (by kernel_rfl) rfl #[.agg #[.int .i64 t409, .int .i64 t410, .int .i64 t411], .agg #[.int .i64 t412, .slice Ao29 t413.length co29]] (by rfl) rfl rfl mapT ?_
     with_reducible refine (spec_DoesFit.calls k t409 t410 t411 t412 _ _ t413 t416 t417 _ ?side1 ?side2 A12.out).mono ?_
     (case side1 => repeat (first | exact (Kd.R_reads' HO415.out).2.2 | (with_reducible refine Kd.C_alloc ?_ _) | (with_reducible refine Kd.C_drewN ?_ _) | (with_reducible refine Kd.C_drew ?_)))
     (case side2 => exact (Kd.R_reads' HO415.out).2.1)
     rintro e w30 ⟨rfl, hb⟩
     refine ⟨_, rfl, ?_⟩
     have n0_ := Aside0.mk (Kd.R_below (by (with_reducible repeat (first | apply Kd.R_alloc | apply Kd.R_drewN | apply Kd.R_drew)); exact HO415.out) hb)
     have n1_ := bS BK406 hb
     have n2_ := bS BK407 hb
     have n3_ := hS HB hb
     clear HO415
     clear BK406
     clear BK407
     clear HB
     have HO415 := n0_
     have BK406 := n1_
     have BK407 := n2_
     have HB := n3_
     clear n0_ n1_ n2_ n3_
     (try clear hb)
     (try clear hb2)
     (try clear hk)
     (try clear hi)
     refine hK.out _ _ ⟨(blk_cell BK406.out 0).trans rfl, (blk_cell BK406.out 1).trans rfl, (blk_cell BK406.out 2).trans rfl, (blk_cell BK407.out 0).trans rfl, (blk_cell BK407.out 1).trans rfl⟩ (fun hHeld => ?_)
     clear hK K
     refine norm_ (a' := ?_) ?_ ?_
     rotate_left
     ·show Act.put _ (some 21) _ = _
      simp only [Act.put, List.setIfInBounds_toArray, List.set_cons_zero, List.set_cons_succ, i64_w, i32_w]
      rfl
     refine run_ [(0, 5, 63, some 16), (0, 6, 127, some 22), (0, 7, 255, some 23), (0, 8, 511, some 6), (0, 9, 1023, some 7)] ?_
     repeat ((apply tag0; refine run_p (v := ?_) (a' := ?_) rfl rfl (any_of HT_.out (by kernel_rfl)) (fun _ _ _ h => h) (by rfl) ?_ ?_ ?_; rotate_left 2; (intro w'; go_simp; with_reducible rfl); (first | (simp only [Act.put, List.setIfInBounds_toArray, List.set_cons_zero, List.set_cons_succ, i64_w, i32_w]; rfl) | rfl)))
     refine run_nil ?_
     refine done_ (done_of HT_.out (by kernel_rfl)) ?_
     have hcz31_0 : w30.cell? ⟨gb407, 0, none⟩ = some (.int .i64 a1_0) := (blk_cell BK407.out 0).trans rfl
     have hcz31_1 : w30.cell? ⟨gb407, 1, none⟩ = some (.slice A1_1 l1_1.length c1_1) := (blk_cell BK407.out 1).trans rfl
     have hfz31_0 := blk_frozen BK407.out 0
     have hfz31_1 := blk_frozen BK407.out 1
     try go_wp2_with (first | ((with_reducible refine gate_callee (f := 17) rfl ?_); refine goesL_ (some 25) rfl rfl Tryd.func17 (by kernel_rfl) rfl #[.agg #[.int .i64 a1_0, .slice A1_1 l1_1.length c1_1]] rfl mapT ?_; (with_reducible refine (laws_toParty.calls k a1_0 _ _ l1_1 t418 t419 _ ?side1 ?side2 A13.out).mono ?_); (case side1 => repeat (first | exact (Kd.C_below HR1_1.out HB.out) | (with_reducible refine Kd.C_alloc ?_ _) | (with_reducible refine Kd.C_drewN ?_ _) | (with_reducible refine Kd.C_drew ?_))); (case side2 => exact HC1_1.out); rintro e w32 ⟨v420, rfl, ho0, hb⟩; refine ⟨_, rfl, ?_⟩; have n0_ := Aside0.mk (Kd.R_elder' (by (with_reducible repeat (first | apply Kd.R_alloc | apply Kd.R_drewN | apply Kd.R_drew)); exact HO415.out) (Kd.R_base ho0) hb); have n1_ := Aside0.mk (Kd.R_lower (Kd.R_new' ho0 (Kd.R_lt (by (with_reducible repeat (first | apply Kd.R_alloc | apply Kd.R_drewN | apply Kd.R_drew)); exact HO415.out))) (below_size hB)); have n2_ := bS BK406 hb; have n3_ := bS BK407 hb; have n4_ := hS HB hb; clear HO415; clear BK406; clear BK407; clear HB; have HO415 := n0_; have HO421 := n1_; have BK406 := n2_; have BK407 := n3_; have HB := n4_; clear n0_ n1_ n2_ n3_ n4_; (try clear hb); (try clear hb2); (try clear hk); (try clear hi); (try clear ho0)) | ((with_reducible refine gate_dst (N := 8) rfl ?_); refine box_event ?hg (N := 8) ?hd (cs := #[.int .i64 0, .slice none 0 0]) (t := 34) ?hr ?_; (case hd => rfl); (case hg => rfl); (case hr => first | (go_simp; done) | (go_simp; rfl)); intro gb422 hg w33 hbox hb; have n0_ := Aside0.mk (Kd.R_below (by (with_reducible repeat (first | apply Kd.R_alloc | apply Kd.R_drewN | apply Kd.R_drew)); exact HO415.out) hb); have n1_ := Aside0.mk (Kd.R_below (by (with_reducible repeat (first | apply Kd.R_alloc | apply Kd.R_drewN | apply Kd.R_drew)); exact HO421.out) hb); have n2_ := bS BK406 hb; have n3_ := bS BK407 hb; have n4_ := hS HB hb; have n5_ := Aside0.mk (hbox); have n6_ := gS HB hg; have n7_ := gS HB hg; have n8_ := nL BK406 hg; have n9_ := nG BK406 hg; have n10_ := nL BK407 hg; have n11_ := nG BK407 hg; clear HO415; clear HO421; clear BK406; clear BK407; clear HB; have HO415 := n0_; have HO421 := n1_; have BK406 := n2_; have BK407 := n3_; have HB := n4_; have BK422 := n5_; have GW422 := n6_; have GE422 := n7_; have NB406_422 := n8_; have NB422_406 := n9_; have NB407_422 := n10_; have NB422_407 := n11_; clear n0_ n1_ n2_ n3_ n4_ n5_ n6_ n7_ n8_ n9_ n10_ n11_; clear hb hbox hg; have hnb34 := NB422_406.out; have hnc34 := NB406_422.out; have hnb35 := NB422_407.out; have hnc35 := NB407_422.out; have hcz36_0 : w33.cell? ⟨gb422, 0, none⟩ = some (.int .i64 0) := (blk_cell BK422.out 0).trans rfl; have hcz36_1 : w33.cell? ⟨gb422, 1, none⟩ = some (.slice none 0 0) := (blk_cell BK422.out 1).trans rfl; have hfz36_0 := blk_frozen BK422.out 0; have hfz36_1 := blk_frozen BK422.out 1; obtain ⟨Ao37, co37, eo37⟩ := Kd.R_slice HO421.out; subst eo37))
     have n0_ : Aside0 (Kd.R k110 110 ((w33.setCell ⟨gb422, 0, none⟩ (.int .i64 t418)).setCell ⟨gb422, 1, none⟩ (.slice Ao37 t419.length co37)) w.heap.size (fun k_ => some k_ ≠ (.slice Ao37 t419.length co37 : Value).ownBlock) (.slice Ao29 t413.length co29) t413) := ⟨by (with_reducible repeat (first | apply Kd.R_alloc | apply Kd.R_drewN | apply Kd.R_drew)); exact Kd.R_mono (Kd.R_far (p := ⟨gb422, 1, none⟩) (Kd.R_far (p := ⟨gb422, 0, none⟩) (Kd.R_types HO415.out BK422.out (by decide)) (fun _ hk => hk.2) (.int .i64 t418)) (fun _ hk => hk.2) (.slice Ao37 t419.length co37)) (fun _ hk => hk.1.2)⟩
     have n1_ : Aside0 (Kd.R k110 110 ((w33.setCell ⟨gb422, 0, none⟩ (.int .i64 t418)).setCell ⟨gb422, 1, none⟩ (.slice Ao37 t419.length co37)) w.heap.size (fun k_ => some k_ ≠ (.slice Ao29 t413.length co29 : Value).ownBlock) (.slice Ao37 t419.length co37) t419) := ⟨by (with_reducible repeat (first | apply Kd.R_alloc | apply Kd.R_drewN | apply Kd.R_drew)); exact Kd.R_mono (Kd.R_far (p := ⟨gb422, 1, none⟩) (Kd.R_far (p := ⟨gb422, 0, none⟩) (Kd.R_types HO421.out BK422.out (by decide)) (fun _ hk => hk.2) (.int .i64 t418)) (fun _ hk => hk.2) (.slice Ao37 t419.length co37)) (fun _ hk => hk.1.2)⟩
     have n2_ : Aside0 (((w33.setCell ⟨gb422, 0, none⟩ (.int .i64 t418)).setCell ⟨gb422, 1, none⟩ (.slice Ao37 t419.length co37)).heap[gb406]? = some (.cells #[.int .i64 a0_0, .int .i64 a0_1, .int .i64 a0_2] 23 (0, 0))) := ⟨by (with_reducible repeat (first | refine blk_drewN ?_ _ | refine blk_drew ?_ | refine blk_alloc ?_ _)); refine blk_far ?_ NB406_422.out _; (with_reducible repeat (first | refine blk_drewN ?_ _ | refine blk_drew ?_ | refine blk_alloc ?_ _)); refine blk_far ?_ NB406_422.out _; (with_reducible repeat (first | refine blk_drewN ?_ _ | refine blk_drew ?_ | refine blk_alloc ?_ _)); exact BK406.out⟩
     have n3_ : Aside0 (((w33.setCell ⟨gb422, 0, none⟩ (.int .i64 t418)).setCell ⟨gb422, 1, none⟩ (.slice Ao37 t419.length co37)).heap[gb407]? = some (.cells #[.int .i64 a1_0, .slice A1_1 l1_1.length c1_1] 26 (0, 0))) := ⟨by (with_reducible repeat (first | refine blk_drewN ?_ _ | refine blk_drew ?_ | refine blk_alloc ?_ _)); refine blk_far ?_ NB407_422.out _; (with_reducible repeat (first | refine blk_drewN ?_ _ | refine blk_drew ?_ | refine blk_alloc ?_ _)); refine blk_far ?_ NB407_422.out _; (with_reducible repeat (first | refine blk_drewN ?_ _ | refine blk_drew ?_ | refine blk_alloc ?_ _)); exact BK407.out⟩
     have n4_ : Aside0 (((w33.setCell ⟨gb422, 0, none⟩ (.int .i64 t418)).setCell ⟨gb422, 1, none⟩ (.slice Ao37 t419.length co37)).heap[gb422]? = some (.cells #[.int .i64 t418, .slice Ao37 t419.length co37] 34 (0, 0))) := ⟨by (with_reducible repeat (first | refine blk_drewN ?_ _ | refine blk_drew ?_ | refine blk_alloc ?_ _)); refine blk_put (cs := #[.int .i64 t418, .slice none 0 0]) ?_ 1 _ rfl; (with_reducible repeat (first | refine blk_drewN ?_ _ | refine blk_drew ?_ | refine blk_alloc ?_ _)); refine blk_put (cs := #[.int .i64 0, .slice none 0 0]) ?_ 0 _ rfl; (with_reducible repeat (first | refine blk_drewN ?_ _ | refine blk_drew ?_ | refine blk_alloc ?_ _)); exact BK422.out⟩
     have n5_ : Aside0 (Below w.heap.size w ((w33.setCell ⟨gb422, 0, none⟩ (.int .i64 t418)).setCell ⟨gb422, 1, none⟩ (.slice Ao37 t419.length co37))) := ⟨hB⟩
     (try clear HO415)
     (try clear HO421)
     (try clear BK406)
     (try clear BK407)
     (try clear BK422)
     (try clear HB)
     generalize ((w33.setCell ⟨gb422, 0, none⟩ (.int .i64 t418)).setCell ⟨gb422, 1, none⟩ (.slice Ao37 t419.length co37)) = w38 at n0_ n1_ n2_ n3_ n4_ n5_ ⊢
     have HO415 := n0_
     have HO421 := n1_
     have BK406 := n2_
     have BK407 := n3_
     have BK422 := n4_
     have HB := n5_
     clear n0_ n1_ n2_ n3_ n4_ n5_
     have n0_ := Aside0.mk (Kd.R_drew HO415.out)
     have n1_ := Aside0.mk (Kd.R_drew HO421.out)
     have n2_ := Aside0.mk (blk_drew BK406.out)
     have n3_ := Aside0.mk (blk_drew BK407.out)
     have n4_ := Aside0.mk (blk_drew BK422.out)
     have n5_ := Aside0.mk (below_drew1 HB.out)
     clear HO415
     clear HO421
     clear BK406
     clear BK407
     clear BK422
     clear HB
     have HO415 := n0_
     have HO421 := n1_
     have BK406 := n2_
     have BK407 := n3_
     have BK422 := n4_
     have HB := n5_
     clear n0_ n1_ n2_ n3_ n4_ n5_
     refine start_ (n := 9) (S := fun w' => w'.cell? ⟨gb406, 0, none⟩ = some (.int .i64 a0_0) ∧ w'.cell? ⟨gb406, 1, none⟩ = some (.int .i64 a0_1) ∧ w'.cell? ⟨gb406, 2, none⟩ = some (.int .i64 a0_2) ∧ w'.cell? ⟨gb422, 0, none⟩ = some (.int .i64 t418) ∧ w'.cell? ⟨gb422, 1, none⟩ = some (.slice Ao37 t419.length co37)) (ds := []) (bz 9 0) (by kernel_rfl) rfl rfl ⟨(blk_cell BK406.out 0).trans rfl, (blk_cell BK406.out 1).trans rfl, (blk_cell BK406.out 2).trans rfl, (blk_cell BK422.out 0).trans rfl, (blk_cell BK422.out 1).trans rfl⟩ (fun hHeld => ?_); refine with_tabW laws_FnExactDoesFit.tab7 laws_FnExactDoesFit.bits7 (fun HT_ HW_ => ?_)
     generalize w38.drew = w39 at HO415 HO421 BK406 BK407 BK422 HB hHeld ⊢
     refine run_ [(1, 0, 1, some 27), (1, 2, 5, some 29)] ?_
     repeat ((apply tag1; refine run_t (v := ?_) (a' := ?_) rfl rfl (take_ofW HT_.out HW_.out (by kernel_rfl)) (fun _ _ _ h => h) (by rfl) ?_ hHeld ?_ ?_; rotate_left 2; (rintro w' ⟨s0, s1, s2, s3, s4⟩; go_simp; with_reducible rfl); (first | (simp only [Act.put, List.setIfInBounds_toArray, List.set_cons_zero, List.set_cons_succ, i64_w, i32_w]; rfl) | rfl)))
     refine run_nil ?_
     refine one_ (i := 1) (N := some 28) (bz 9 7) rfl rfl (one_of HT_.out (by kernel_rfl)) (by decide) (fun K hK => ?_)
     refine goes_ Tryd.func16 (by kernel_rfl) rfl #[.agg #[.int .i64 a0_0, .int .i64 a0_1, .int .i64 a0_2]] (by rfl) rfl rfl mapT ?_
     with_reducible refine (laws_toClue.calls a0_0 a0_1 a0_2 t423 t424 t425 _ A14.out).mono ?_
     rintro e w40 ⟨rfl, hb⟩
     refine ⟨_, rfl, ?_⟩
     have n0_ := Aside0.mk (Kd.R_below (by (with_reducible repeat (first | apply Kd.R_alloc | apply Kd.R_drewN | apply Kd.R_drew)); exact HO415.out) hb)
     have n1_ := Aside0.mk (Kd.R_below (by (with_reducible repeat (first | apply Kd.R_alloc | apply Kd.R_drewN | apply Kd.R_drew)); exact HO421.out) hb)
     have n2_ := bS BK406 hb
     have n3_ := bS BK407 hb
     have n4_ := bS BK422 hb
     have n5_ := hS HB hb
     clear HO415
     clear HO421
     clear BK406
     clear BK407
     clear BK422
     clear HB
     have HO415 := n0_
     have HO421 := n1_
     have BK406 := n2_
     have BK407 := n3_
     have BK422 := n4_
     have HB := n5_
     clear n0_ n1_ n2_ n3_ n4_ n5_
     (try clear hb)
     (try clear hb2)
     (try clear hk)
     (try clear hi)
     refine hK.out _ _ ⟨(blk_cell BK406.out 0).trans rfl, (blk_cell BK406.out 1).trans rfl, (blk_cell BK406.out 2).trans rfl, (blk_cell BK422.out 0).trans rfl, (blk_cell BK422.out 1).trans rfl⟩ (fun hHeld => ?_)
     clear hK K
     refine norm_ (a' := ?_) ?_ ?_
     rotate_left
     ·show Act.put _ (some 28) _ = _
      simp only [Act.put, List.setIfInBounds_toArray, List.set_cons_zero, List.set_cons_succ, i64_w, i32_w]
      rfl
     refine one_ (i := 3) (N := some 30) (bz 9 15) rfl rfl (one_of HT_.out (by kernel_rfl)) (by decide) (fun K hK => ?_)
     refine goes_ Tryd.func18 (by kernel_rfl) rfl #[.agg #[.int .i64 t423, .int .i64 t424, .int .i64 t425], .agg #[.int .i64 t418, .slice Ao37 t419.length co37]] (by rfl) rfl rfl mapT ?_
     with_reducible refine (impl_DoesFit.calls k t423 t424 t425 t418 _ _ t419 t426 t427 _ ?side1 ?side2 A15.out).mono ?_
     (case side1 => repeat (first | exact (Kd.R_reads' HO421.out).2.2 | (with_reducible refine Kd.C_alloc ?_ _) | (with_reducible refine Kd.C_drewN ?_ _) | (with_reducible refine Kd.C_drew ?_)))
     (case side2 => exact (Kd.R_reads' HO421.out).2.1)
     rintro e w41 ⟨rfl, hb⟩
     refine ⟨_, rfl, ?_⟩
     have n0_ := Aside0.mk (Kd.R_below (by (with_reducible repeat (first | apply Kd.R_alloc | apply Kd.R_drewN | apply Kd.R_drew)); exact HO415.out) hb)
     have n1_ := Aside0.mk (Kd.R_below (by (with_reducible repeat (first | apply Kd.R_alloc | apply Kd.R_drewN | apply Kd.R_drew)); exact HO421.out) hb)
     have n2_ := bS BK406 hb
     have n3_ := bS BK407 hb
     have n4_ := bS BK422 hb
     have n5_ := hS HB hb
     clear HO415
     clear HO421
     clear BK406
     clear BK407
     clear BK422
     clear HB
     have HO415 := n0_
     have HO421 := n1_
     have BK406 := n2_
     have BK407 := n3_
     have BK422 := n4_
     have HB := n5_
     clear n0_ n1_ n2_ n3_ n4_ n5_
     (try clear hb)
     (try clear hb2)
     (try clear hk)
     (try clear hi)
     refine hK.out _ _ ⟨(blk_cell BK406.out 0).trans rfl, (blk_cell BK406.out 1).trans rfl, (blk_cell BK406.out 2).trans rfl, (blk_cell BK422.out 0).trans rfl, (blk_cell BK422.out 1).trans rfl⟩ (fun hHeld => ?_)
     clear hK K
     refine norm_ (a' := ?_) ?_ ?_
     rotate_left
     ·show Act.put _ (some 30) _ = _
      simp only [Act.put, List.setIfInBounds_toArray, List.set_cons_zero, List.set_cons_succ, i64_w, i32_w]
      rfl
     refine run_ [(0, 4, 31, some 26), (0, 5, 63, some 31), (0, 6, 127, some 32), (0, 7, 255, some 9), (0, 8, 511, some 10)] ?_
     repeat ((apply tag0; refine run_p (v := ?_) (a' := ?_) rfl rfl (any_of HT_.out (by kernel_rfl)) (fun _ _ _ h => h) (by rfl) ?_ ?_ ?_; rotate_left 2; (intro w'; go_simp; with_reducible rfl); (first | (simp only [Act.put, List.setIfInBounds_toArray, List.set_cons_zero, List.set_cons_succ, i64_w, i32_w]; rfl) | rfl)))
     refine run_nil ?_
     refine done_ (done_of HT_.out (by kernel_rfl)) ?_
     try go_wp2
     have n0_ := Aside0.mk (Kd.R_drew HO415.out)
     have n1_ := Aside0.mk (Kd.R_drew HO421.out)
     have n2_ := Aside0.mk (blk_drew BK406.out)
     have n3_ := Aside0.mk (blk_drew BK407.out)
     have n4_ := Aside0.mk (blk_drew BK422.out)
     have n5_ := Aside0.mk (below_drew1 HB.out)
     clear HO415
     clear HO421
     clear BK406
     clear BK407
     clear BK422
     clear HB
     have HO415 := n0_
     have HO421 := n1_
     have BK406 := n2_
     have BK407 := n3_
     have BK422 := n4_
     have HB := n5_
     clear n0_ n1_ n2_ n3_ n4_ n5_
     refine start_ (n := 5) (S := fun w' => w'.cell? ⟨gb422, 0, none⟩ = some (.int .i64 t418) ∧ w'.cell? ⟨gb422, 1, none⟩ = some (.slice Ao37 t419.length co37) ∧ w'.cell? ⟨gb407, 0, none⟩ = some (.int .i64 a1_0) ∧ w'.cell? ⟨gb407, 1, none⟩ = some (.slice A1_1 l1_1.length c1_1)) (ds := []) (bz 5 0) (by kernel_rfl) rfl rfl ⟨(blk_cell BK422.out 0).trans rfl, (blk_cell BK422.out 1).trans rfl, (blk_cell BK407.out 0).trans rfl, (blk_cell BK407.out 1).trans rfl⟩ (fun hHeld => ?_)
     generalize w41.drew = w42 at HO415 HO421 BK406 BK407 BK422 HB hHeld ⊢
     refine run_ [(1, 0, 1, some 41), (1, 1, 3, some 42)] ?_
     repeat ((apply tag1; refine run_t (v := ?_) (a' := ?_) rfl rfl (by kernel_rfl) (fun _ _ _ h => h) (by rfl) ?_ hHeld ?_ ?_; rotate_left 2; (rintro w' ⟨s0, s1, s2, s3⟩; go_simp; with_reducible rfl); (first | (simp only [Act.put, List.setIfInBounds_toArray, List.set_cons_zero, List.set_cons_succ, i64_w, i32_w]; rfl) | rfl)))
     refine run_nil ?_
     refine one_ (i := 2) (N := some 43) (bz 5 7) rfl rfl (by kernel_rfl) (by decide) (fun K hK => ?_)
     refine goes_ Tryd.func17 (by kernel_rfl) rfl #[.agg #[.int .i64 a1_0, .slice A1_1 l1_1.length c1_1]] (by rfl) rfl rfl mapT ?_
     with_reducible refine (laws_toParty.calls k a1_0 _ _ l1_1 t428 t429 _ ?side1 ?side2 A18.out).mono ?_
     (case side1 => repeat (first | exact (Kd.C_below HR1_1.out HB.out) | (with_reducible refine Kd.C_alloc ?_ _) | (with_reducible refine Kd.C_drewN ?_ _) | (with_reducible refine Kd.C_drew ?_)))
     (case side2 => exact HC1_1.out)
     rintro e w43 ⟨v430, rfl, ho0, hb⟩
     refine ⟨_, rfl, ?_⟩
     have n0_ := Aside0.mk (Kd.R_elder' (by (with_reducible repeat (first | apply Kd.R_alloc | apply Kd.R_drewN | apply Kd.R_drew)); exact HO415.out) (Kd.R_base ho0) hb)
     have n1_ := Aside0.mk (Kd.R_elder' (by (with_reducible repeat (first | apply Kd.R_alloc | apply Kd.R_drewN | apply Kd.R_drew)); exact HO421.out) (Kd.R_base ho0) hb)
     have n2_ := Aside0.mk (Kd.R_lower (Kd.R_new' (Kd.R_new' ho0 (Kd.R_lt (by (with_reducible repeat (first | apply Kd.R_alloc | apply Kd.R_drewN | apply Kd.R_drew)); exact HO415.out))) (Kd.R_lt (by (with_reducible repeat (first | apply Kd.R_alloc | apply Kd.R_drewN | apply Kd.R_drew)); exact HO421.out))) (below_size hB))
     have n3_ := bS BK406 hb
     have n4_ := bS BK407 hb
     have n5_ := bS BK422 hb
     have n6_ := hS HB hb
     clear HO415
     clear HO421
     clear BK406
     clear BK407
     clear BK422
     clear HB
     have HO415 := n0_
     have HO421 := n1_
     have HO431 := n2_
     have BK406 := n3_
     have BK407 := n4_
     have BK422 := n5_
     have HB := n6_
     clear n0_ n1_ n2_ n3_ n4_ n5_ n6_
     (try clear hb)
     (try clear hb2)
     (try clear hk)
     (try clear hi)
     (try clear ho0)
     obtain ⟨Ao44, co44, eo44⟩ := Kd.R_slice HO431.out
     (first | subst eo44 | (injection eo44 with f1_ f2_ f3_; have f4_ := f1_.symm; have f5_ := f3_.symm; clear f1_ f2_ f3_; subst f4_; subst f5_))
     refine hK.out _ _ ⟨(blk_cell BK422.out 0).trans rfl, (blk_cell BK422.out 1).trans rfl, (blk_cell BK407.out 0).trans rfl, (blk_cell BK407.out 1).trans rfl⟩ (fun hHeld => ?_)
     clear hK K
     refine norm_ (a' := ?_) ?_ ?_
     rotate_left
     ·show Act.put _ (some 43) _ = _
      simp only [Act.put, List.setIfInBounds_toArray, List.set_cons_zero, List.set_cons_succ, i64_w, i32_w]
      rfl
     refine one_ (i := 3) (N := some 44) (bz 5 15) rfl rfl (by kernel_rfl) (by decide) (fun K hK => ?_)
     refine goes_ Tryd.func19 (by kernel_rfl) rfl #[.agg #[.int .i64 t418, .slice Ao37 t419.length co37], .agg #[.int .i64 t428, .slice Ao44 t429.length co44]] (by rfl) rfl rfl mapT ?_
     with_reducible refine (laws_eqParty.calls k t418 _ _ t419 t428 _ _ t429 true _ ?side1 ?side2 ?side3 ?side4 A19.out).mono ?_
     (case side1 => repeat (first | exact (Kd.R_reads' HO421.out).2.2 | (with_reducible refine Kd.C_alloc ?_ _) | (with_reducible refine Kd.C_drewN ?_ _) | (with_reducible refine Kd.C_drew ?_)))
     (case side2 => exact (Kd.R_reads' HO421.out).2.1)
     (case side3 => repeat (first | exact (Kd.R_reads' HO431.out).2.2 | (with_reducible refine Kd.C_alloc ?_ _) | (with_reducible refine Kd.C_drewN ?_ _) | (with_reducible refine Kd.C_drew ?_)))
     (case side4 => exact (Kd.R_reads' HO431.out).2.1)
     rintro e w45 ⟨rfl, hb⟩
     refine ⟨_, rfl, ?_⟩
     have n0_ := Aside0.mk (Kd.R_below (by (with_reducible repeat (first | apply Kd.R_alloc | apply Kd.R_drewN | apply Kd.R_drew)); exact HO415.out) hb)
     have n1_ := Aside0.mk (Kd.R_below (by (with_reducible repeat (first | apply Kd.R_alloc | apply Kd.R_drewN | apply Kd.R_drew)); exact HO421.out) hb)
     have n2_ := Aside0.mk (Kd.R_below (by (with_reducible repeat (first | apply Kd.R_alloc | apply Kd.R_drewN | apply Kd.R_drew)); exact HO431.out) hb)
     have n3_ := bS BK406 hb
     have n4_ := bS BK407 hb
     have n5_ := bS BK422 hb
     have n6_ := hS HB hb
     clear HO415
     clear HO421
     clear HO431
     clear BK406
     clear BK407
     clear BK422
     clear HB
     have HO415 := n0_
     have HO421 := n1_
     have HO431 := n2_
     have BK406 := n3_
     have BK407 := n4_
     have BK422 := n5_
     have HB := n6_
     clear n0_ n1_ n2_ n3_ n4_ n5_ n6_
     (try clear hb)
     (try clear hb2)
     (try clear hk)
     (try clear hi)
     refine hK.out _ _ ⟨(blk_cell BK422.out 0).trans rfl, (blk_cell BK422.out 1).trans rfl, (blk_cell BK407.out 0).trans rfl, (blk_cell BK407.out 1).trans rfl⟩ (fun hHeld => ?_)
     clear hK K
     refine norm_ (a' := ?_) ?_ ?_
     rotate_left
     ·show Act.put _ (some 44) _ = _
      simp only [Act.put, List.setIfInBounds_toArray, List.set_cons_zero, List.set_cons_succ, i64_w, i32_w]
      rfl
     refine run_ [(0, 4, 31, some 45)] ?_
     repeat ((apply tag0; refine run_p (v := ?_) (a' := ?_) rfl rfl (by kernel_rfl) (fun _ _ _ h => h) (by rfl) ?_ ?_ ?_; rotate_left 2; (intro w'; go_simp; with_reducible rfl); (first | (simp only [Act.put, List.setIfInBounds_toArray, List.set_cons_zero, List.set_cons_succ, i64_w, i32_w]; rfl) | rfl)))
     refine run_nil ?_
     refine done_ (by kernel_rfl) ?_
     try go_wp2
     go_ret
     exact ⟨by first | rfl | (simp [errW_none, errW_some] <;> rfl) | (simp [*, errW_none, errW_some] <;> rfl), hB⟩
    ·replace c20 := Bool.eq_false_iff.mpr c20
     subst c20
     have H1 : (none) = some r := by rw [if_neg (show ¬ (false = true) by decide)] at H; exact H
     clear H
     have H := H1
     clear H1
     exact absurd H (by simp)

end Go.Proofs.YtdnkipagpagfiaaDoor.PFnExactDoesFit
