-- Of this session's own program wip/gen/gen.py (it drives the kit's print): contracts of the functions that the law reaches.
import Derived.Test.YtgonmfmgonfdcaaPFnExactAddCluex0
import Derived.Test.YtgonmfmgonfdcaaPFnExactAddCluex1
import Derived.Test.YtgonmfmgonfdcaaPFnExactAddCluex3
import Derived.Test.YtgonmfmgonfdcaaPFnExactAddCluex5
namespace Go.Proofs.Ytgonmfmgonfdcaa.PFnExactAddClue
open Go.RowKit Go.Proofs.YtgonmfmgonfdcaaW.PrintWords Go.Proofs.YtgonmfmgonfdcaaW.PrintLast Go.Proofs.YtgonmfmgonfdcaaW.PrintMore Go.Proofs.Ytgonmfmgonfdcaa.Base
attribute [local go_sem] max2_int min2_int max_two min_two max_three min_three max_four min_four   -- for this text's walks alone
set_option linter.unusedVariables false
set_option linter.unusedSimpArgs false

/-! ### laws_FnExactAddClue: function 6 -/
def laws_FnExactAddClue.f (k : Nat) (a0_0 : Int) (l0_1 : List (S23)) (a1_0 : Int) (a1_1 : Int) (a1_2 : Int) : Option (Bool) := (laws_szPuzzle.f a0_0 l0_1 1048576).bind fun t198 => (if t198 < 0 then (some true) else ((laws_toPuzzle.f k a0_0 l0_1).bind fun bt199 => ((laws_toClue.f a1_0 a1_1 a1_2).bind fun bt203 => ((spec_AddClue.f k bt199.1 bt199.2 bt203.1 bt203.2.1 bt203.2.2).bind fun bt206 => ((laws_toPuzzle.f k a0_0 l0_1).bind fun bt212 => ((laws_toClue.f a1_0 a1_1 a1_2).bind fun bt217 => ((impl_AddClue.f k bt212.1 bt212.2 bt217.1 bt217.2.1 bt217.2.2).bind fun bt220 => ((laws_eqPuzzle.f k bt220.1 bt220.2.1 bt206.1 bt206.2.1).bind fun t226 => (if t226 = true then (if (bt220.2.2 != bt206.2.2) = true then (none) else ((laws_toPuzzle.f k a0_0 l0_1).bind fun bt227 => ((laws_eqPuzzle.f k bt212.1 bt212.2 bt227.1 bt227.2).bind fun t231 => (if t231 = true then ((laws_markPuzzle.f k bt212.1 bt212.2 1).bind fun bt232 => (if bt232.1 < 0 then (none) else ((laws_eqPuzzle.f k bt220.1 bt220.2.1 bt206.1 bt206.2.1).bind fun t234 => (if t234 = true then ((laws_markPuzzle.f k bt220.1 bt220.2.1 1).bind fun bt235 => ((laws_heldPuzzle.f k bt220.1 bt235.2 1).bind fun t237 => (if t237 < 0 then (none) else (if t237 = bt235.1 then ((laws_toPuzzle.f k a0_0 l0_1).bind fun bt238 => ((laws_toClue.f a1_0 a1_1 a1_2).bind fun bt242 => ((impl_AddClue.f k bt238.1 bt238.2 bt242.1 bt242.2.1 bt242.2.2).bind fun bt245 => ((laws_eqPuzzle.f k bt245.1 bt245.2.1 bt206.1 bt206.2.1).bind fun t251 => (if t251 = true then (if (bt245.2.2 != bt206.2.2) = true then (none) else ((laws_heldPuzzle.f k bt220.1 bt235.2 1).bind fun t252 => (if t252 < 0 then (none) else (if t252 = bt235.1 then (some true) else (none))))) else (none)))))) else (none))))) else (none))))) else (none))))) else (none))))))))))
theorem laws_FnExactAddClue.mono : ∀ a0 a1 a2 a3 a4 k, LeO (laws_FnExactAddClue.f k a0 a1 a2 a3 a4) (laws_FnExactAddClue.f (k + 1) a0 a1 a2 a3 a4) := by
 intro a0 a1 a2 a3 a4 k
 unfold laws_FnExactAddClue.f
 repeat' first
   | (with_reducible exact impl_AddClue.mono _ _ _ _ _ _)
   | (with_reducible exact laws_eqPuzzle.mono _ _ _ _ _)
   | (with_reducible exact laws_heldPuzzle.mono _ _ _ _)
   | (with_reducible exact laws_markPuzzle.mono _ _ _ _)
   | (with_reducible exact laws_toPuzzle.mono _ _ _)
   | (with_reducible exact spec_AddClue.mono _ _ _ _ _ _)
   | (with_reducible exact LeO.refl _)
   | (with_reducible exact LeO.none _)
   | (with_reducible refine LeO.ite ?_ ?_)
   | (with_reducible refine LeO.bind ?_ (fun _ => ?_))
   | exact impl_AddClue.mono _ _ _ _ _ _
   | exact laws_eqPuzzle.mono _ _ _ _ _
   | exact laws_heldPuzzle.mono _ _ _ _
   | exact laws_markPuzzle.mono _ _ _ _
   | exact laws_toPuzzle.mono _ _ _
   | exact spec_AddClue.mono _ _ _ _ _ _
   | exact LeO.none _
   | refine LeO.ite ?_ ?_
   | refine LeO.bind ?_ (fun _ => ?_)
def laws_FnExactAddClue.T5 : Bool × List (List Nat × List Nat) := (true, [([], []), ([0], [0]), ([], []), ([2, 1], [2]), ([1, 3, 3], [1, 3]), ([4], [4]), ([5], [5]), ([5], [5]), ([], []), ([8, 6, 4, 0, 1, 2, 3, 4, 5, 6, 8], [6, 8]), ([7, 9, 0, 1, 2, 3, 4, 5, 6, 7, 8, 9], [7])])
def laws_FnExactAddClue.B5 : List Nat := [0, 1, 0, 7, 15, 31, 63, 63, 0, 383, 1023]
theorem laws_FnExactAddClue.tab5 : rtab .any (opsOf Try.f6 5) = laws_FnExactAddClue.T5 := by kernel_rfl
theorem laws_FnExactAddClue.bits5 : waitsOk laws_FnExactAddClue.T5.2 laws_FnExactAddClue.B5 = true := by kernel_rfl
def laws_FnExactAddClue.T7 : Bool × List (List Nat × List Nat) := (true, [([], []), ([], []), ([1], [1]), ([0, 2, 2], [0, 2]), ([3], [3]), ([4], [4]), ([4], [4]), ([], []), ([7, 5, 3, 0, 1, 2, 3, 4, 5, 7], [5, 7]), ([6, 8, 0, 1, 2, 3, 4, 5, 6, 7, 8], [6])])
def laws_FnExactAddClue.B7 : List Nat := [0, 0, 2, 7, 15, 31, 31, 0, 191, 511]
theorem laws_FnExactAddClue.tab7 : rtab .any (opsOf Try.f6 7) = laws_FnExactAddClue.T7 := by kernel_rfl
theorem laws_FnExactAddClue.bits7 : waitsOk laws_FnExactAddClue.T7.2 laws_FnExactAddClue.B7 = true := by kernel_rfl
def laws_FnExactAddClue.T24 : Bool × List (List Nat × List Nat) := (true, [([], []), ([0], [0]), ([], []), ([2, 1], [2]), ([1, 3, 3], [1, 3]), ([4], [4]), ([5], [5]), ([5], [5]), ([], []), ([8, 6, 4, 0, 1, 2, 3, 4, 5, 6, 8], [6, 8]), ([7, 9, 0, 1, 2, 3, 4, 5, 6, 7, 8, 9], [7])])
def laws_FnExactAddClue.B24 : List Nat := [0, 1, 0, 7, 15, 31, 63, 63, 0, 383, 1023]
theorem laws_FnExactAddClue.tab24 : rtab .any (opsOf Try.f6 24) = laws_FnExactAddClue.T24 := by kernel_rfl
theorem laws_FnExactAddClue.bits24 : waitsOk laws_FnExactAddClue.T24.2 laws_FnExactAddClue.B24 = true := by kernel_rfl
set_option maxHeartbeats 8000000 in
set_option maxRecDepth 100000 in
theorem laws_FnExactAddClue.calls (k : Nat) (a0_0 : Int) (A0_1 : Option Addr) (c0_1 : Nat) (l0_1 : List (S23)) (a1_0 : Int) (a1_1 : Int) (a1_2 : Int) (r : Bool) (w : World) (hr0_1 : Kd.C k23 w A0_1 l0_1.length l0_1) (hc0_1 : l0_1.length ≤ c0_1) (h : laws_FnExactAddClue.f k a0_0 l0_1 a1_0 a1_1 a1_2 = some r) :
  Calls Try.prog 6 #[.agg #[.int .i64 a0_0, .slice A0_1 l0_1.length c0_1], .agg #[.int .i64 a1_0, .int .i64 a1_1, .int .i64 a1_2]] w fun e w' => e = .returned (.bool r) ∧ Below w.heap.size w w' := by
 have hu30 := Try.underlying30
 have hu23 := Try.underlying23
 have hu35 := Try.underlying35
 have HR0_1 := Aside0.mk hr0_1
 have HC0_1 := Aside0.mk hc0_1
 clear hr0_1 hc0_1
 have HB := Aside0.mk (Below.refl w.heap.size w)
 have H : ((laws_szPuzzle.f a0_0 l0_1 1048576).bind fun t198 => (if t198 < 0 then (some true) else ((laws_toPuzzle.f k a0_0 l0_1).bind fun bt199 => ((laws_toClue.f a1_0 a1_1 a1_2).bind fun bt203 => ((spec_AddClue.f k bt199.1 bt199.2 bt203.1 bt203.2.1 bt203.2.2).bind fun bt206 => ((laws_toPuzzle.f k a0_0 l0_1).bind fun bt212 => ((laws_toClue.f a1_0 a1_1 a1_2).bind fun bt217 => ((impl_AddClue.f k bt212.1 bt212.2 bt217.1 bt217.2.1 bt217.2.2).bind fun bt220 => ((laws_eqPuzzle.f k bt220.1 bt220.2.1 bt206.1 bt206.2.1).bind fun t226 => (if t226 = true then (if (bt220.2.2 != bt206.2.2) = true then (none) else ((laws_toPuzzle.f k a0_0 l0_1).bind fun bt227 => ((laws_eqPuzzle.f k bt212.1 bt212.2 bt227.1 bt227.2).bind fun t231 => (if t231 = true then ((laws_markPuzzle.f k bt212.1 bt212.2 1).bind fun bt232 => (if bt232.1 < 0 then (none) else ((laws_eqPuzzle.f k bt220.1 bt220.2.1 bt206.1 bt206.2.1).bind fun t234 => (if t234 = true then ((laws_markPuzzle.f k bt220.1 bt220.2.1 1).bind fun bt235 => ((laws_heldPuzzle.f k bt220.1 bt235.2 1).bind fun t237 => (if t237 < 0 then (none) else (if t237 = bt235.1 then ((laws_toPuzzle.f k a0_0 l0_1).bind fun bt238 => ((laws_toClue.f a1_0 a1_1 a1_2).bind fun bt242 => ((impl_AddClue.f k bt238.1 bt238.2 bt242.1 bt242.2.1 bt242.2.2).bind fun bt245 => ((laws_eqPuzzle.f k bt245.1 bt245.2.1 bt206.1 bt206.2.1).bind fun t251 => (if t251 = true then (if (bt245.2.2 != bt206.2.2) = true then (none) else ((laws_heldPuzzle.f k bt220.1 bt235.2 1).bind fun t252 => (if t252 < 0 then (none) else (if t252 = bt235.1 then (some true) else (none))))) else (none)))))) else (none))))) else (none))))) else (none))))) else (none))))))))))) = some r := h
 clear h
 replace H := Option.bind_eq_some_iff.mp H
 obtain ⟨t198, A30, H⟩ := H
 replace H : (if t198 < 0 then (some true) else ((laws_toPuzzle.f k a0_0 l0_1).bind fun bt199 => ((laws_toClue.f a1_0 a1_1 a1_2).bind fun bt203 => ((spec_AddClue.f k bt199.1 bt199.2 bt203.1 bt203.2.1 bt203.2.2).bind fun bt206 => ((laws_toPuzzle.f k a0_0 l0_1).bind fun bt212 => ((laws_toClue.f a1_0 a1_1 a1_2).bind fun bt217 => ((impl_AddClue.f k bt212.1 bt212.2 bt217.1 bt217.2.1 bt217.2.2).bind fun bt220 => ((laws_eqPuzzle.f k bt220.1 bt220.2.1 bt206.1 bt206.2.1).bind fun t226 => (if t226 = true then (if (bt220.2.2 != bt206.2.2) = true then (none) else ((laws_toPuzzle.f k a0_0 l0_1).bind fun bt227 => ((laws_eqPuzzle.f k bt212.1 bt212.2 bt227.1 bt227.2).bind fun t231 => (if t231 = true then ((laws_markPuzzle.f k bt212.1 bt212.2 1).bind fun bt232 => (if bt232.1 < 0 then (none) else ((laws_eqPuzzle.f k bt220.1 bt220.2.1 bt206.1 bt206.2.1).bind fun t234 => (if t234 = true then ((laws_markPuzzle.f k bt220.1 bt220.2.1 1).bind fun bt235 => ((laws_heldPuzzle.f k bt220.1 bt235.2 1).bind fun t237 => (if t237 < 0 then (none) else (if t237 = bt235.1 then ((laws_toPuzzle.f k a0_0 l0_1).bind fun bt238 => ((laws_toClue.f a1_0 a1_1 a1_2).bind fun bt242 => ((impl_AddClue.f k bt238.1 bt238.2 bt242.1 bt242.2.1 bt242.2.2).bind fun bt245 => ((laws_eqPuzzle.f k bt245.1 bt245.2.1 bt206.1 bt206.2.1).bind fun t251 => (if t251 = true then (if (bt245.2.2 != bt206.2.2) = true then (none) else ((laws_heldPuzzle.f k bt220.1 bt235.2 1).bind fun t252 => (if t252 < 0 then (none) else (if t252 = bt235.1 then (some true) else (none))))) else (none)))))) else (none))))) else (none))))) else (none))))) else (none)))))))))) = some r := H
 have A3 := Aside0.mk A30
 clear A30
 by_cases c4 : t198 < 0
 ·rw [if_pos c4] at H
  have c4b0 : decide (t198 < 0) = true := decide_eq_true c4
  clear c4
  obtain rfl := Option.some.inj H
  go_enter Try.func6, Try.ntmps6
  go_wp2_with (first | ((with_reducible refine gate_dst (N := 2) rfl ?_); refine box_event ?hg (N := 2) ?hd (cs := #[.int .i64 a0_0, .slice A0_1 l0_1.length c0_1]) (t := 30) ?hr ?_; (case hd => rfl); (case hg => rfl); (case hr => first | (go_simp; done) | (go_simp; rfl)); intro gb196 hg w5 hbox hb; have n0_ := hS HB hb; have n1_ := Aside0.mk (hbox); have n2_ := gS HB hg; have n3_ := gS HB hg; clear HB; have HB := n0_; have BK196 := n1_; have GW196 := n2_; have GE196 := n3_; clear n0_ n1_ n2_ n3_; clear hb hbox hg) | ((with_reducible refine gate_dst (N := 3) rfl ?_); refine box_event ?hg (N := 3) ?hd (cs := #[.int .i64 a1_0, .int .i64 a1_1, .int .i64 a1_2]) (t := 23) ?hr ?_; (case hd => rfl); (case hg => rfl); (case hr => first | (go_simp; done) | (go_simp; rfl)); intro gb197 hg w6 hbox hb; have n0_ := bS BK196 hb; have n1_ := hS HB hb; have n2_ := Aside0.mk (hbox); have n3_ := gS HB hg; have n4_ := gS HB hg; have n5_ := nL BK196 hg; have n6_ := nG BK196 hg; clear BK196; clear HB; have BK196 := n0_; have HB := n1_; have BK197 := n2_; have GW197 := n3_; have GE197 := n4_; have NB196_197 := n5_; have NB197_196 := n6_; clear n0_ n1_ n2_ n3_ n4_ n5_ n6_; clear hb hbox hg; have hnb7 := NB196_197.out; have hnc7 := NB197_196.out; have hcz8_0 : w6.cell? ⟨gb196, 0, none⟩ = some (.int .i64 a0_0) := (blk_cell BK196.out 0).trans rfl; have hcz8_1 : w6.cell? ⟨gb196, 1, none⟩ = some (.slice A0_1 l0_1.length c0_1) := (blk_cell BK196.out 1).trans rfl; have hfz8_0 := blk_frozen BK196.out 0; have hfz8_1 := blk_frozen BK196.out 1) | ((with_reducible refine gate_callee (f := 10) rfl ?_); refine goesL_ (some 18) rfl rfl Try.func10 (by kernel_rfl) rfl #[.agg #[.int .i64 a0_0, .slice A0_1 l0_1.length c0_1], .int .i64 1048576] rfl mapT ?_; (with_reducible refine (laws_szPuzzle.calls a0_0 _ _ l0_1 1048576 t198 _ ?side1 ?side2 A3.out).mono ?_); (case side1 => repeat (first | exact (Kd.C_below HR0_1.out HB.out) | (with_reducible refine Kd.C_alloc ?_ _) | (with_reducible refine Kd.C_drewN ?_ _) | (with_reducible refine Kd.C_drew ?_))); (case side2 => exact HC0_1.out); rintro e w9 ⟨rfl, hb⟩; refine ⟨_, rfl, ?_⟩; have n0_ := bS BK196 hb; have n1_ := bS BK197 hb; have n2_ := hS HB hb; clear BK196; clear BK197; clear HB; have BK196 := n0_; have BK197 := n1_; have HB := n2_; clear n0_ n1_ n2_; (try clear hb); (try clear hb2); (try clear hk); (try clear hi)))
  go_ret
  exact ⟨by first | rfl | (simp [errW_none, errW_some] <;> rfl) | (simp [*, errW_none, errW_some] <;> rfl), hB⟩
 ·rw [if_neg c4] at H
  have c4b0 : decide (t198 < 0) = false := decide_eq_false c4
  clear c4
  replace H := Option.bind_eq_some_iff.mp H
  obtain ⟨⟨t199, t200⟩, A100, H⟩ := H
  replace H : ((laws_toClue.f a1_0 a1_1 a1_2).bind fun bt203 => ((spec_AddClue.f k t199 t200 bt203.1 bt203.2.1 bt203.2.2).bind fun bt206 => ((laws_toPuzzle.f k a0_0 l0_1).bind fun bt212 => ((laws_toClue.f a1_0 a1_1 a1_2).bind fun bt217 => ((impl_AddClue.f k bt212.1 bt212.2 bt217.1 bt217.2.1 bt217.2.2).bind fun bt220 => ((laws_eqPuzzle.f k bt220.1 bt220.2.1 bt206.1 bt206.2.1).bind fun t226 => (if t226 = true then (if (bt220.2.2 != bt206.2.2) = true then (none) else ((laws_toPuzzle.f k a0_0 l0_1).bind fun bt227 => ((laws_eqPuzzle.f k bt212.1 bt212.2 bt227.1 bt227.2).bind fun t231 => (if t231 = true then ((laws_markPuzzle.f k bt212.1 bt212.2 1).bind fun bt232 => (if bt232.1 < 0 then (none) else ((laws_eqPuzzle.f k bt220.1 bt220.2.1 bt206.1 bt206.2.1).bind fun t234 => (if t234 = true then ((laws_markPuzzle.f k bt220.1 bt220.2.1 1).bind fun bt235 => ((laws_heldPuzzle.f k bt220.1 bt235.2 1).bind fun t237 => (if t237 < 0 then (none) else (if t237 = bt235.1 then ((laws_toPuzzle.f k a0_0 l0_1).bind fun bt238 => ((laws_toClue.f a1_0 a1_1 a1_2).bind fun bt242 => ((impl_AddClue.f k bt238.1 bt238.2 bt242.1 bt242.2.1 bt242.2.2).bind fun bt245 => ((laws_eqPuzzle.f k bt245.1 bt245.2.1 bt206.1 bt206.2.1).bind fun t251 => (if t251 = true then (if (bt245.2.2 != bt206.2.2) = true then (none) else ((laws_heldPuzzle.f k bt220.1 bt235.2 1).bind fun t252 => (if t252 < 0 then (none) else (if t252 = bt235.1 then (some true) else (none))))) else (none)))))) else (none))))) else (none))))) else (none))))) else (none)))))))) = some r := H
  have A10 := Aside0.mk A100
  clear A100
  replace H := Option.bind_eq_some_iff.mp H
  obtain ⟨⟨t203, t204, t205⟩, A110, H⟩ := H
  replace H : ((spec_AddClue.f k t199 t200 t203 t204 t205).bind fun bt206 => ((laws_toPuzzle.f k a0_0 l0_1).bind fun bt212 => ((laws_toClue.f a1_0 a1_1 a1_2).bind fun bt217 => ((impl_AddClue.f k bt212.1 bt212.2 bt217.1 bt217.2.1 bt217.2.2).bind fun bt220 => ((laws_eqPuzzle.f k bt220.1 bt220.2.1 bt206.1 bt206.2.1).bind fun t226 => (if t226 = true then (if (bt220.2.2 != bt206.2.2) = true then (none) else ((laws_toPuzzle.f k a0_0 l0_1).bind fun bt227 => ((laws_eqPuzzle.f k bt212.1 bt212.2 bt227.1 bt227.2).bind fun t231 => (if t231 = true then ((laws_markPuzzle.f k bt212.1 bt212.2 1).bind fun bt232 => (if bt232.1 < 0 then (none) else ((laws_eqPuzzle.f k bt220.1 bt220.2.1 bt206.1 bt206.2.1).bind fun t234 => (if t234 = true then ((laws_markPuzzle.f k bt220.1 bt220.2.1 1).bind fun bt235 => ((laws_heldPuzzle.f k bt220.1 bt235.2 1).bind fun t237 => (if t237 < 0 then (none) else (if t237 = bt235.1 then ((laws_toPuzzle.f k a0_0 l0_1).bind fun bt238 => ((laws_toClue.f a1_0 a1_1 a1_2).bind fun bt242 => ((impl_AddClue.f k bt238.1 bt238.2 bt242.1 bt242.2.1 bt242.2.2).bind fun bt245 => ((laws_eqPuzzle.f k bt245.1 bt245.2.1 bt206.1 bt206.2.1).bind fun t251 => (if t251 = true then (if (bt245.2.2 != bt206.2.2) = true then (none) else ((laws_heldPuzzle.f k bt220.1 bt235.2 1).bind fun t252 => (if t252 < 0 then (none) else (if t252 = bt235.1 then (some true) else (none))))) else (none)))))) else (none))))) else (none))))) else (none))))) else (none))))))) = some r := H
  have A11 := Aside0.mk A110
  clear A110
  replace H := Option.bind_eq_some_iff.mp H
  obtain ⟨⟨t206, t207, t210⟩, A120, H⟩ := H
  replace H : ((laws_toPuzzle.f k a0_0 l0_1).bind fun bt212 => ((laws_toClue.f a1_0 a1_1 a1_2).bind fun bt217 => ((impl_AddClue.f k bt212.1 bt212.2 bt217.1 bt217.2.1 bt217.2.2).bind fun bt220 => ((laws_eqPuzzle.f k bt220.1 bt220.2.1 t206 t207).bind fun t226 => (if t226 = true then (if (bt220.2.2 != t210) = true then (none) else ((laws_toPuzzle.f k a0_0 l0_1).bind fun bt227 => ((laws_eqPuzzle.f k bt212.1 bt212.2 bt227.1 bt227.2).bind fun t231 => (if t231 = true then ((laws_markPuzzle.f k bt212.1 bt212.2 1).bind fun bt232 => (if bt232.1 < 0 then (none) else ((laws_eqPuzzle.f k bt220.1 bt220.2.1 t206 t207).bind fun t234 => (if t234 = true then ((laws_markPuzzle.f k bt220.1 bt220.2.1 1).bind fun bt235 => ((laws_heldPuzzle.f k bt220.1 bt235.2 1).bind fun t237 => (if t237 < 0 then (none) else (if t237 = bt235.1 then ((laws_toPuzzle.f k a0_0 l0_1).bind fun bt238 => ((laws_toClue.f a1_0 a1_1 a1_2).bind fun bt242 => ((impl_AddClue.f k bt238.1 bt238.2 bt242.1 bt242.2.1 bt242.2.2).bind fun bt245 => ((laws_eqPuzzle.f k bt245.1 bt245.2.1 t206 t207).bind fun t251 => (if t251 = true then (if (bt245.2.2 != t210) = true then (none) else ((laws_heldPuzzle.f k bt220.1 bt235.2 1).bind fun t252 => (if t252 < 0 then (none) else (if t252 = bt235.1 then (some true) else (none))))) else (none)))))) else (none))))) else (none))))) else (none))))) else (none)))))) = some r := H
  have A12 := Aside0.mk A120
  clear A120
  replace H := Option.bind_eq_some_iff.mp H
  obtain ⟨⟨t212, t213⟩, A130, H⟩ := H
  replace H : ((laws_toClue.f a1_0 a1_1 a1_2).bind fun bt217 => ((impl_AddClue.f k t212 t213 bt217.1 bt217.2.1 bt217.2.2).bind fun bt220 => ((laws_eqPuzzle.f k bt220.1 bt220.2.1 t206 t207).bind fun t226 => (if t226 = true then (if (bt220.2.2 != t210) = true then (none) else ((laws_toPuzzle.f k a0_0 l0_1).bind fun bt227 => ((laws_eqPuzzle.f k t212 t213 bt227.1 bt227.2).bind fun t231 => (if t231 = true then ((laws_markPuzzle.f k t212 t213 1).bind fun bt232 => (if bt232.1 < 0 then (none) else ((laws_eqPuzzle.f k bt220.1 bt220.2.1 t206 t207).bind fun t234 => (if t234 = true then ((laws_markPuzzle.f k bt220.1 bt220.2.1 1).bind fun bt235 => ((laws_heldPuzzle.f k bt220.1 bt235.2 1).bind fun t237 => (if t237 < 0 then (none) else (if t237 = bt235.1 then ((laws_toPuzzle.f k a0_0 l0_1).bind fun bt238 => ((laws_toClue.f a1_0 a1_1 a1_2).bind fun bt242 => ((impl_AddClue.f k bt238.1 bt238.2 bt242.1 bt242.2.1 bt242.2.2).bind fun bt245 => ((laws_eqPuzzle.f k bt245.1 bt245.2.1 t206 t207).bind fun t251 => (if t251 = true then (if (bt245.2.2 != t210) = true then (none) else ((laws_heldPuzzle.f k bt220.1 bt235.2 1).bind fun t252 => (if t252 < 0 then (none) else (if t252 = bt235.1 then (some true) else (none))))) else (none)))))) else (none))))) else (none))))) else (none))))) else (none))))) = some r := H
  have A13 := Aside0.mk A130
  clear A130
  replace H := Option.bind_eq_some_iff.mp H
  obtain ⟨⟨t217, t218, t219⟩, A140, H⟩ := H
  replace H : ((impl_AddClue.f k t212 t213 t217 t218 t219).bind fun bt220 => ((laws_eqPuzzle.f k bt220.1 bt220.2.1 t206 t207).bind fun t226 => (if t226 = true then (if (bt220.2.2 != t210) = true then (none) else ((laws_toPuzzle.f k a0_0 l0_1).bind fun bt227 => ((laws_eqPuzzle.f k t212 t213 bt227.1 bt227.2).bind fun t231 => (if t231 = true then ((laws_markPuzzle.f k t212 t213 1).bind fun bt232 => (if bt232.1 < 0 then (none) else ((laws_eqPuzzle.f k bt220.1 bt220.2.1 t206 t207).bind fun t234 => (if t234 = true then ((laws_markPuzzle.f k bt220.1 bt220.2.1 1).bind fun bt235 => ((laws_heldPuzzle.f k bt220.1 bt235.2 1).bind fun t237 => (if t237 < 0 then (none) else (if t237 = bt235.1 then ((laws_toPuzzle.f k a0_0 l0_1).bind fun bt238 => ((laws_toClue.f a1_0 a1_1 a1_2).bind fun bt242 => ((impl_AddClue.f k bt238.1 bt238.2 bt242.1 bt242.2.1 bt242.2.2).bind fun bt245 => ((laws_eqPuzzle.f k bt245.1 bt245.2.1 t206 t207).bind fun t251 => (if t251 = true then (if (bt245.2.2 != t210) = true then (none) else ((laws_heldPuzzle.f k bt220.1 bt235.2 1).bind fun t252 => (if t252 < 0 then (none) else (if t252 = bt235.1 then (some true) else (none))))) else (none)))))) else (none))))) else (none))))) else (none))))) else (none)))) = some r := H
  have A14 := Aside0.mk A140
  clear A140
  replace H := Option.bind_eq_some_iff.mp H
  obtain ⟨⟨t220, t221, t224⟩, A150, H⟩ := H
  replace H : ((laws_eqPuzzle.f k t220 t221 t206 t207).bind fun t226 => (if t226 = true then (if (t224 != t210) = true then (none) else ((laws_toPuzzle.f k a0_0 l0_1).bind fun bt227 => ((laws_eqPuzzle.f k t212 t213 bt227.1 bt227.2).bind fun t231 => (if t231 = true then ((laws_markPuzzle.f k t212 t213 1).bind fun bt232 => (if bt232.1 < 0 then (none) else ((laws_eqPuzzle.f k t220 t221 t206 t207).bind fun t234 => (if t234 = true then ((laws_markPuzzle.f k t220 t221 1).bind fun bt235 => ((laws_heldPuzzle.f k t220 bt235.2 1).bind fun t237 => (if t237 < 0 then (none) else (if t237 = bt235.1 then ((laws_toPuzzle.f k a0_0 l0_1).bind fun bt238 => ((laws_toClue.f a1_0 a1_1 a1_2).bind fun bt242 => ((impl_AddClue.f k bt238.1 bt238.2 bt242.1 bt242.2.1 bt242.2.2).bind fun bt245 => ((laws_eqPuzzle.f k bt245.1 bt245.2.1 t206 t207).bind fun t251 => (if t251 = true then (if (bt245.2.2 != t210) = true then (none) else ((laws_heldPuzzle.f k t220 bt235.2 1).bind fun t252 => (if t252 < 0 then (none) else (if t252 = bt235.1 then (some true) else (none))))) else (none)))))) else (none))))) else (none))))) else (none))))) else (none))) = some r := H
  have A15 := Aside0.mk A150
  clear A150
  replace H := Option.bind_eq_some_iff.mp H
  obtain ⟨t226, A160, H⟩ := H
  replace H : (if t226 = true then (if (t224 != t210) = true then (none) else ((laws_toPuzzle.f k a0_0 l0_1).bind fun bt227 => ((laws_eqPuzzle.f k t212 t213 bt227.1 bt227.2).bind fun t231 => (if t231 = true then ((laws_markPuzzle.f k t212 t213 1).bind fun bt232 => (if bt232.1 < 0 then (none) else ((laws_eqPuzzle.f k t220 t221 t206 t207).bind fun t234 => (if t234 = true then ((laws_markPuzzle.f k t220 t221 1).bind fun bt235 => ((laws_heldPuzzle.f k t220 bt235.2 1).bind fun t237 => (if t237 < 0 then (none) else (if t237 = bt235.1 then ((laws_toPuzzle.f k a0_0 l0_1).bind fun bt238 => ((laws_toClue.f a1_0 a1_1 a1_2).bind fun bt242 => ((impl_AddClue.f k bt238.1 bt238.2 bt242.1 bt242.2.1 bt242.2.2).bind fun bt245 => ((laws_eqPuzzle.f k bt245.1 bt245.2.1 t206 t207).bind fun t251 => (if t251 = true then (if (bt245.2.2 != t210) = true then (none) else ((laws_heldPuzzle.f k t220 bt235.2 1).bind fun t252 => (if t252 < 0 then (none) else (if t252 = bt235.1 then (some true) else (none))))) else (none)))))) else (none))))) else (none))))) else (none))))) else (none)) = some r := H
  have A16 := Aside0.mk A160
  clear A160
  by_cases c17 : t226 = true
  ·subst c17
   have H1 : (if (t224 != t210) = true then (none) else ((laws_toPuzzle.f k a0_0 l0_1).bind fun bt227 => ((laws_eqPuzzle.f k t212 t213 bt227.1 bt227.2).bind fun t231 => (if t231 = true then ((laws_markPuzzle.f k t212 t213 1).bind fun bt232 => (if bt232.1 < 0 then (none) else ((laws_eqPuzzle.f k t220 t221 t206 t207).bind fun t234 => (if t234 = true then ((laws_markPuzzle.f k t220 t221 1).bind fun bt235 => ((laws_heldPuzzle.f k t220 bt235.2 1).bind fun t237 => (if t237 < 0 then (none) else (if t237 = bt235.1 then ((laws_toPuzzle.f k a0_0 l0_1).bind fun bt238 => ((laws_toClue.f a1_0 a1_1 a1_2).bind fun bt242 => ((impl_AddClue.f k bt238.1 bt238.2 bt242.1 bt242.2.1 bt242.2.2).bind fun bt245 => ((laws_eqPuzzle.f k bt245.1 bt245.2.1 t206 t207).bind fun t251 => (if t251 = true then (if (bt245.2.2 != t210) = true then (none) else ((laws_heldPuzzle.f k t220 bt235.2 1).bind fun t252 => (if t252 < 0 then (none) else (if t252 = bt235.1 then (some true) else (none))))) else (none)))))) else (none))))) else (none))))) else (none))))) = some r := by rw [if_pos rfl] at H; exact H
   clear H
   have H := H1
   clear H1
   by_cases c18 : (t224 != t210) = true
   ·rw [if_pos c18] at H
    exact absurd H (by simp)
   ·rw [if_neg c18] at H
    have c18b0 : (t224 != t210) = false := by simpa using c18
    (try (have c18b1 : decide (t224 = t210) = true := by simpa using c18))
    (try (have c18b2 : (t224 == t210) = true := by simpa using c18))
    clear c18
    replace H := Option.bind_eq_some_iff.mp H
    obtain ⟨⟨t227, t228⟩, A190, H⟩ := H
    replace H : ((laws_eqPuzzle.f k t212 t213 t227 t228).bind fun t231 => (if t231 = true then ((laws_markPuzzle.f k t212 t213 1).bind fun bt232 => (if bt232.1 < 0 then (none) else ((laws_eqPuzzle.f k t220 t221 t206 t207).bind fun t234 => (if t234 = true then ((laws_markPuzzle.f k t220 t221 1).bind fun bt235 => ((laws_heldPuzzle.f k t220 bt235.2 1).bind fun t237 => (if t237 < 0 then (none) else (if t237 = bt235.1 then ((laws_toPuzzle.f k a0_0 l0_1).bind fun bt238 => ((laws_toClue.f a1_0 a1_1 a1_2).bind fun bt242 => ((impl_AddClue.f k bt238.1 bt238.2 bt242.1 bt242.2.1 bt242.2.2).bind fun bt245 => ((laws_eqPuzzle.f k bt245.1 bt245.2.1 t206 t207).bind fun t251 => (if t251 = true then (if (bt245.2.2 != t210) = true then (none) else ((laws_heldPuzzle.f k t220 bt235.2 1).bind fun t252 => (if t252 < 0 then (none) else (if t252 = bt235.1 then (some true) else (none))))) else (none)))))) else (none))))) else (none))))) else (none))) = some r := H
    have A19 := Aside0.mk A190
    clear A190
    replace H := Option.bind_eq_some_iff.mp H
    obtain ⟨t231, A200, H⟩ := H
    replace H : (if t231 = true then ((laws_markPuzzle.f k t212 t213 1).bind fun bt232 => (if bt232.1 < 0 then (none) else ((laws_eqPuzzle.f k t220 t221 t206 t207).bind fun t234 => (if t234 = true then ((laws_markPuzzle.f k t220 t221 1).bind fun bt235 => ((laws_heldPuzzle.f k t220 bt235.2 1).bind fun t237 => (if t237 < 0 then (none) else (if t237 = bt235.1 then ((laws_toPuzzle.f k a0_0 l0_1).bind fun bt238 => ((laws_toClue.f a1_0 a1_1 a1_2).bind fun bt242 => ((impl_AddClue.f k bt238.1 bt238.2 bt242.1 bt242.2.1 bt242.2.2).bind fun bt245 => ((laws_eqPuzzle.f k bt245.1 bt245.2.1 t206 t207).bind fun t251 => (if t251 = true then (if (bt245.2.2 != t210) = true then (none) else ((laws_heldPuzzle.f k t220 bt235.2 1).bind fun t252 => (if t252 < 0 then (none) else (if t252 = bt235.1 then (some true) else (none))))) else (none)))))) else (none))))) else (none))))) else (none)) = some r := H
    have A20 := Aside0.mk A200
    clear A200
    by_cases c21 : t231 = true
    ·subst c21
     have H1 : ((laws_markPuzzle.f k t212 t213 1).bind fun bt232 => (if bt232.1 < 0 then (none) else ((laws_eqPuzzle.f k t220 t221 t206 t207).bind fun t234 => (if t234 = true then ((laws_markPuzzle.f k t220 t221 1).bind fun bt235 => ((laws_heldPuzzle.f k t220 bt235.2 1).bind fun t237 => (if t237 < 0 then (none) else (if t237 = bt235.1 then ((laws_toPuzzle.f k a0_0 l0_1).bind fun bt238 => ((laws_toClue.f a1_0 a1_1 a1_2).bind fun bt242 => ((impl_AddClue.f k bt238.1 bt238.2 bt242.1 bt242.2.1 bt242.2.2).bind fun bt245 => ((laws_eqPuzzle.f k bt245.1 bt245.2.1 t206 t207).bind fun t251 => (if t251 = true then (if (bt245.2.2 != t210) = true then (none) else ((laws_heldPuzzle.f k t220 bt235.2 1).bind fun t252 => (if t252 < 0 then (none) else (if t252 = bt235.1 then (some true) else (none))))) else (none)))))) else (none))))) else (none))))) = some r := by rw [if_pos rfl] at H; exact H
     clear H
     have H := H1
     clear H1
     replace H := Option.bind_eq_some_iff.mp H
     obtain ⟨⟨t232, t233⟩, A220, H⟩ := H
     replace H : (if t232 < 0 then (none) else ((laws_eqPuzzle.f k t220 t221 t206 t207).bind fun t234 => (if t234 = true then ((laws_markPuzzle.f k t220 t221 1).bind fun bt235 => ((laws_heldPuzzle.f k t220 bt235.2 1).bind fun t237 => (if t237 < 0 then (none) else (if t237 = bt235.1 then ((laws_toPuzzle.f k a0_0 l0_1).bind fun bt238 => ((laws_toClue.f a1_0 a1_1 a1_2).bind fun bt242 => ((impl_AddClue.f k bt238.1 bt238.2 bt242.1 bt242.2.1 bt242.2.2).bind fun bt245 => ((laws_eqPuzzle.f k bt245.1 bt245.2.1 t206 t207).bind fun t251 => (if t251 = true then (if (bt245.2.2 != t210) = true then (none) else ((laws_heldPuzzle.f k t220 bt235.2 1).bind fun t252 => (if t252 < 0 then (none) else (if t252 = bt235.1 then (some true) else (none))))) else (none)))))) else (none))))) else (none)))) = some r := H
     have A22 := Aside0.mk A220
     clear A220
     by_cases c23 : t232 < 0
     ·rw [if_pos c23] at H
      exact absurd H (by simp)
     ·rw [if_neg c23] at H
      have c23b0 : decide (t232 < 0) = false := decide_eq_false c23
      clear c23
      replace H := Option.bind_eq_some_iff.mp H
      obtain ⟨t234, A240, H⟩ := H
      replace H : (if t234 = true then ((laws_markPuzzle.f k t220 t221 1).bind fun bt235 => ((laws_heldPuzzle.f k t220 bt235.2 1).bind fun t237 => (if t237 < 0 then (none) else (if t237 = bt235.1 then ((laws_toPuzzle.f k a0_0 l0_1).bind fun bt238 => ((laws_toClue.f a1_0 a1_1 a1_2).bind fun bt242 => ((impl_AddClue.f k bt238.1 bt238.2 bt242.1 bt242.2.1 bt242.2.2).bind fun bt245 => ((laws_eqPuzzle.f k bt245.1 bt245.2.1 t206 t207).bind fun t251 => (if t251 = true then (if (bt245.2.2 != t210) = true then (none) else ((laws_heldPuzzle.f k t220 bt235.2 1).bind fun t252 => (if t252 < 0 then (none) else (if t252 = bt235.1 then (some true) else (none))))) else (none)))))) else (none))))) else (none)) = some r := H
      have A24 := Aside0.mk A240
      clear A240
      by_cases c25 : t234 = true
      ·subst c25
       have H1 : ((laws_markPuzzle.f k t220 t221 1).bind fun bt235 => ((laws_heldPuzzle.f k t220 bt235.2 1).bind fun t237 => (if t237 < 0 then (none) else (if t237 = bt235.1 then ((laws_toPuzzle.f k a0_0 l0_1).bind fun bt238 => ((laws_toClue.f a1_0 a1_1 a1_2).bind fun bt242 => ((impl_AddClue.f k bt238.1 bt238.2 bt242.1 bt242.2.1 bt242.2.2).bind fun bt245 => ((laws_eqPuzzle.f k bt245.1 bt245.2.1 t206 t207).bind fun t251 => (if t251 = true then (if (bt245.2.2 != t210) = true then (none) else ((laws_heldPuzzle.f k t220 bt235.2 1).bind fun t252 => (if t252 < 0 then (none) else (if t252 = bt235.1 then (some true) else (none))))) else (none)))))) else (none))))) = some r := by rw [if_pos rfl] at H; exact H
       clear H
       have H := H1
       clear H1
       replace H := Option.bind_eq_some_iff.mp H
       obtain ⟨⟨t235, t236⟩, A260, H⟩ := H
       replace H : ((laws_heldPuzzle.f k t220 t236 1).bind fun t237 => (if t237 < 0 then (none) else (if t237 = t235 then ((laws_toPuzzle.f k a0_0 l0_1).bind fun bt238 => ((laws_toClue.f a1_0 a1_1 a1_2).bind fun bt242 => ((impl_AddClue.f k bt238.1 bt238.2 bt242.1 bt242.2.1 bt242.2.2).bind fun bt245 => ((laws_eqPuzzle.f k bt245.1 bt245.2.1 t206 t207).bind fun t251 => (if t251 = true then (if (bt245.2.2 != t210) = true then (none) else ((laws_heldPuzzle.f k t220 t236 1).bind fun t252 => (if t252 < 0 then (none) else (if t252 = t235 then (some true) else (none))))) else (none)))))) else (none)))) = some r := H
       have A26 := Aside0.mk A260
       clear A260
       replace H := Option.bind_eq_some_iff.mp H
       obtain ⟨t237, A270, H⟩ := H
       replace H : (if t237 < 0 then (none) else (if t237 = t235 then ((laws_toPuzzle.f k a0_0 l0_1).bind fun bt238 => ((laws_toClue.f a1_0 a1_1 a1_2).bind fun bt242 => ((impl_AddClue.f k bt238.1 bt238.2 bt242.1 bt242.2.1 bt242.2.2).bind fun bt245 => ((laws_eqPuzzle.f k bt245.1 bt245.2.1 t206 t207).bind fun t251 => (if t251 = true then (if (bt245.2.2 != t210) = true then (none) else ((laws_heldPuzzle.f k t220 t236 1).bind fun t252 => (if t252 < 0 then (none) else (if t252 = t235 then (some true) else (none))))) else (none)))))) else (none))) = some r := H
       have A27 := Aside0.mk A270
       clear A270
       by_cases c28 : t237 < 0
       ·rw [if_pos c28] at H
        exact absurd H (by simp)
       ·rw [if_neg c28] at H
        have c28b0 : decide (t237 < 0) = false := decide_eq_false c28
        clear c28
        by_cases c29 : t237 = t235
        ·rw [if_pos c29] at H
         have c29b0 : (t237 == t235) = true := beq_iff_eq.mpr c29
         have c29b1 : (t237 != t235) = false := bne_eq_false_iff_eq.mpr c29
         clear c29
         replace H := Option.bind_eq_some_iff.mp H
         obtain ⟨⟨t238, t239⟩, A300, H⟩ := H
         replace H : ((laws_toClue.f a1_0 a1_1 a1_2).bind fun bt242 => ((impl_AddClue.f k t238 t239 bt242.1 bt242.2.1 bt242.2.2).bind fun bt245 => ((laws_eqPuzzle.f k bt245.1 bt245.2.1 t206 t207).bind fun t251 => (if t251 = true then (if (bt245.2.2 != t210) = true then (none) else ((laws_heldPuzzle.f k t220 t236 1).bind fun t252 => (if t252 < 0 then (none) else (if t252 = t235 then (some true) else (none))))) else (none))))) = some r := H
         have A30 := Aside0.mk A300
         clear A300
         replace H := Option.bind_eq_some_iff.mp H
         obtain ⟨⟨t242, t243, t244⟩, A310, H⟩ := H
         replace H : ((impl_AddClue.f k t238 t239 t242 t243 t244).bind fun bt245 => ((laws_eqPuzzle.f k bt245.1 bt245.2.1 t206 t207).bind fun t251 => (if t251 = true then (if (bt245.2.2 != t210) = true then (none) else ((laws_heldPuzzle.f k t220 t236 1).bind fun t252 => (if t252 < 0 then (none) else (if t252 = t235 then (some true) else (none))))) else (none)))) = some r := H
         have A31 := Aside0.mk A310
         clear A310
         replace H := Option.bind_eq_some_iff.mp H
         obtain ⟨⟨t245, t246, t249⟩, A320, H⟩ := H
         replace H : ((laws_eqPuzzle.f k t245 t246 t206 t207).bind fun t251 => (if t251 = true then (if (t249 != t210) = true then (none) else ((laws_heldPuzzle.f k t220 t236 1).bind fun t252 => (if t252 < 0 then (none) else (if t252 = t235 then (some true) else (none))))) else (none))) = some r := H
         have A32 := Aside0.mk A320
         clear A320
         replace H := Option.bind_eq_some_iff.mp H
         obtain ⟨t251, A330, H⟩ := H
         replace H : (if t251 = true then (if (t249 != t210) = true then (none) else ((laws_heldPuzzle.f k t220 t236 1).bind fun t252 => (if t252 < 0 then (none) else (if t252 = t235 then (some true) else (none))))) else (none)) = some r := H
         have A33 := Aside0.mk A330
         clear A330
         by_cases c34 : t251 = true
         ·subst c34
          have H1 : (if (t249 != t210) = true then (none) else ((laws_heldPuzzle.f k t220 t236 1).bind fun t252 => (if t252 < 0 then (none) else (if t252 = t235 then (some true) else (none))))) = some r := by rw [if_pos rfl] at H; exact H
          clear H
          have H := H1
          clear H1
          by_cases c35 : (t249 != t210) = true
          ·rw [if_pos c35] at H
           exact absurd H (by simp)
          ·rw [if_neg c35] at H
           have c35b0 : (t249 != t210) = false := by simpa using c35
           (try (have c35b1 : decide (t249 = t210) = true := by simpa using c35))
           (try (have c35b2 : (t249 == t210) = true := by simpa using c35))
           clear c35
           replace H := Option.bind_eq_some_iff.mp H
           obtain ⟨t252, A360, H⟩ := H
           replace H : (if t252 < 0 then (none) else (if t252 = t235 then (some true) else (none))) = some r := H
           have A36 := Aside0.mk A360
           clear A360
           by_cases c37 : t252 < 0
           ·rw [if_pos c37] at H
            exact absurd H (by simp)
           ·rw [if_neg c37] at H
            have c37b0 : decide (t252 < 0) = false := decide_eq_false c37
            clear c37
            by_cases c38 : t252 = t235
            ·rw [if_pos c38] at H
             have c38b0 : (t252 == t235) = true := beq_iff_eq.mpr c38
             have c38b1 : (t252 != t235) = false := bne_eq_false_iff_eq.mpr c38
             clear c38
             obtain rfl := Option.some.inj H
             go_enter Try.func6, Try.ntmps6
             try go_wp2_with (first | ((with_reducible refine gate_dst (N := 2) rfl ?_); refine box_event ?hg (N := 2) ?hd (cs := #[.int .i64 a0_0, .slice A0_1 l0_1.length c0_1]) (t := 30) ?hr ?_; (case hd => rfl); (case hg => rfl); (case hr => first | (go_simp; done) | (go_simp; rfl)); intro gb196 hg w39 hbox hb; have n0_ := hS HB hb; have n1_ := Aside0.mk (hbox); have n2_ := gS HB hg; have n3_ := gS HB hg; clear HB; have HB := n0_; have BK196 := n1_; have GW196 := n2_; have GE196 := n3_; clear n0_ n1_ n2_ n3_; clear hb hbox hg) | ((with_reducible refine gate_dst (N := 3) rfl ?_); refine box_event ?hg (N := 3) ?hd (cs := #[.int .i64 a1_0, .int .i64 a1_1, .int .i64 a1_2]) (t := 23) ?hr ?_; (case hd => rfl); (case hg => rfl); (case hr => first | (go_simp; done) | (go_simp; rfl)); intro gb197 hg w40 hbox hb; have n0_ := bS BK196 hb; have n1_ := hS HB hb; have n2_ := Aside0.mk (hbox); have n3_ := gS HB hg; have n4_ := gS HB hg; have n5_ := nL BK196 hg; have n6_ := nG BK196 hg; clear BK196; clear HB; have BK196 := n0_; have HB := n1_; have BK197 := n2_; have GW197 := n3_; have GE197 := n4_; have NB196_197 := n5_; have NB197_196 := n6_; clear n0_ n1_ n2_ n3_ n4_ n5_ n6_; clear hb hbox hg; have hnb41 := NB196_197.out; have hnc41 := NB197_196.out; have hcz42_0 : w40.cell? ⟨gb196, 0, none⟩ = some (.int .i64 a0_0) := (blk_cell BK196.out 0).trans rfl; have hcz42_1 : w40.cell? ⟨gb196, 1, none⟩ = some (.slice A0_1 l0_1.length c0_1) := (blk_cell BK196.out 1).trans rfl; have hfz42_0 := blk_frozen BK196.out 0; have hfz42_1 := blk_frozen BK196.out 1) | ((with_reducible refine gate_callee (f := 10) rfl ?_); refine goesL_ (some 18) rfl rfl Try.func10 (by kernel_rfl) rfl #[.agg #[.int .i64 a0_0, .slice A0_1 l0_1.length c0_1], .int .i64 1048576] rfl mapT ?_; (with_reducible refine (laws_szPuzzle.calls a0_0 _ _ l0_1 1048576 t198 _ ?side1 ?side2 A3.out).mono ?_); (case side1 => repeat (first | exact (Kd.C_below HR0_1.out HB.out) | (with_reducible refine Kd.C_alloc ?_ _) | (with_reducible refine Kd.C_drewN ?_ _) | (with_reducible refine Kd.C_drew ?_))); (case side2 => exact HC0_1.out); rintro e w43 ⟨rfl, hb⟩; refine ⟨_, rfl, ?_⟩; have n0_ := bS BK196 hb; have n1_ := bS BK197 hb; have n2_ := hS HB hb; clear BK196; clear BK197; clear HB; have BK196 := n0_; have BK197 := n1_; have HB := n2_; clear n0_ n1_ n2_; (try clear hb); (try clear hb2); (try clear hk); (try clear hi)))
             have n0_ := Aside0.mk (blk_drew BK196.out)
             have n1_ := Aside0.mk (blk_drew BK197.out)
             have n2_ := Aside0.mk (below_drew1 HB.out)
             clear BK196
             clear BK197
             clear HB
             have BK196 := n0_
             have BK197 := n1_
             have HB := n2_
             clear n0_ n1_ n2_
             refine start_ (n := 11) (S := fun w' => w'.cell? ⟨gb196, 0, none⟩ = some (.int .i64 a0_0) ∧ w'.cell? ⟨gb196, 1, none⟩ = some (.slice A0_1 l0_1.length c0_1) ∧ w'.cell? ⟨gb197, 0, none⟩ = some (.int .i64 a1_0) ∧ w'.cell? ⟨gb197, 1, none⟩ = some (.int .i64 a1_1) ∧ w'.cell? ⟨gb197, 2, none⟩ = some (.int .i64 a1_2)) (ds := []) (bz 11 0) (by kernel_rfl) rfl rfl ⟨(blk_cell BK196.out 0).trans rfl, (blk_cell BK196.out 1).trans rfl, (blk_cell BK197.out 0).trans rfl, (blk_cell BK197.out 1).trans rfl, (blk_cell BK197.out 2).trans rfl⟩ (fun hHeld => ?_); refine with_tabW laws_FnExactAddClue.tab5 laws_FnExactAddClue.bits5 (fun HT_ HW_ => ?_)
             generalize w43.drew = w44 at BK196 BK197 HB hHeld ⊢
             refine run_ [(1, 0, 1, some 22), (1, 2, 5, some 24)] ?_
             repeat ((apply tag1; refine run_t (v := ?_) (a' := ?_) rfl rfl (take_ofW HT_.out HW_.out (by kernel_rfl)) (fun _ _ _ h => h) (by rfl) ?_ hHeld ?_ ?_; rotate_left 2; (rintro w' ⟨s0, s1, s2, s3, s4⟩; go_simp; with_reducible rfl); (first | (simp only [Act.put, List.setIfInBounds_toArray, List.set_cons_zero, List.set_cons_succ, i64_w, i32_w]; rfl) | rfl)))
             refine run_nil ?_
             refine join_ (σ := Value × Value × Nat) 2 (bz 11 511) (fun s_ => [(23, .agg #[.int .i64 t199, s_.1]), (25, .agg #[.int .i64 t203, .int .i64 t204, .int .i64 t205]), (26, .tuple #[.agg #[.int .i64 t206, s_.2.1], .bool t210]), (6, .pointer (some ⟨s_.2.2, 0, none⟩)), (21, .tuple #[.agg #[.int .i64 t206, s_.2.1], .bool t210]), (27, .agg #[.int .i64 t206, s_.2.1]), (28, .bool t210)]) (fun s_ w' => (w'.cell? ⟨gb196, 0, none⟩ = some (.int .i64 a0_0) ∧ w'.cell? ⟨gb196, 1, none⟩ = some (.slice A0_1 l0_1.length c0_1) ∧ w'.cell? ⟨gb197, 0, none⟩ = some (.int .i64 a1_0) ∧ w'.cell? ⟨gb197, 1, none⟩ = some (.int .i64 a1_1) ∧ w'.cell? ⟨gb197, 2, none⟩ = some (.int .i64 a1_2)) ∧ (Kd.R k25 25 w' w.heap.size (fun k_ => some k_ ≠ (s_.2.1 : Value).ownBlock) s_.1 t200) ∧ (Kd.R k25 25 w' w.heap.size (fun k_ => some k_ ≠ (s_.1 : Value).ownBlock) s_.2.1 t207) ∧ (w'.heap[gb196]? = some (.cells #[.int .i64 a0_0, .slice A0_1 l0_1.length c0_1] 30 (0, 0))) ∧ (w'.heap[gb197]? = some (.cells #[.int .i64 a1_0, .int .i64 a1_1, .int .i64 a1_2] 23 (0, 0))) ∧ (w'.heap[s_.2.2]? = some (.cells #[.int .i64 0, .slice none 0 0] 35 (0, 0))) ∧ (w.heap.size ≤ s_.2.2) ∧ (w.heap.size ≤ s_.2.2) ∧ (gb196 ≠ s_.2.2) ∧ (s_.2.2 ≠ gb196) ∧ (gb197 ≠ s_.2.2) ∧ (s_.2.2 ≠ gb197) ∧ (Below w.heap.size w w')) ?_ ?_
             rotate_left
             ·intro hCont
              refine two_ (i := 1) (j := 8) (Ni := some 23) (Nj := some 6) (bz 11 7) (bz 11 261) rfl rfl rfl rfl (two_of HT_.out (by kernel_rfl)) (by decide) (by decide) (fun K hK => ?_) (fun K hK => ?_)
              ·skip
               refine goes_ Try.func12 (by kernel_rfl) rfl #[.agg #[.int .i64 a0_0, .slice A0_1 l0_1.length c0_1]] (by rfl) rfl rfl mapT ?_
               with_reducible refine (laws_toPuzzle.calls k a0_0 _ _ l0_1 t199 t200 _ ?side1 ?side2 A10.out).mono ?_
               (case side1 => repeat (first | exact (Kd.C_below HR0_1.out HB.out) | (with_reducible refine Kd.C_alloc ?_ _) | (with_reducible refine Kd.C_drewN ?_ _) | (with_reducible refine Kd.C_drew ?_)))
               (case side2 => exact HC0_1.out)
               rintro e w45 ⟨v201, rfl, ho0, hb⟩
               refine ⟨_, rfl, ?_⟩
               have n0_ := Aside0.mk (Kd.R_lower ho0 (below_size hB))
               have n1_ := bS BK196 hb
               have n2_ := bS BK197 hb
               have n3_ := hS HB hb
               clear BK196
               clear BK197
               clear HB
               have HO202 := n0_
               have BK196 := n1_
               have BK197 := n2_
               have HB := n3_
               clear n0_ n1_ n2_ n3_
               (try clear hb)
               (try clear hb2)
               (try clear hk)
               (try clear hi)
               (try clear ho0)
               refine hK.out _ _ ⟨(blk_cell BK196.out 0).trans rfl, (blk_cell BK196.out 1).trans rfl, (blk_cell BK197.out 0).trans rfl, (blk_cell BK197.out 1).trans rfl, (blk_cell BK197.out 2).trans rfl⟩ (fun hHeld => ?_)
               clear hK K
               refine norm_ (a' := ?_) ?_ ?_
               rotate_left
               ·show Act.put _ (some 23) _ = _
                simp only [Act.put, List.setIfInBounds_toArray, List.set_cons_zero, List.set_cons_succ, i64_w, i32_w]
                rfl
               refine two_ (i := 3) (j := 8) (Ni := some 25) (Nj := some 6) (bz 11 15) (bz 11 263) rfl rfl rfl rfl (two_of HT_.out (by kernel_rfl)) (by decide) (by decide) (fun K hK => ?_) (fun K hK => ?_)
               ·skip
                refine goes_ Try.func8 (by kernel_rfl) rfl #[.agg #[.int .i64 a1_0, .int .i64 a1_1, .int .i64 a1_2]] (by rfl) rfl rfl mapT ?_
                with_reducible refine (laws_toClue.calls a1_0 a1_1 a1_2 t203 t204 t205 _ A11.out).mono ?_
                rintro e w46 ⟨rfl, hb⟩
                refine ⟨_, rfl, ?_⟩
                have n0_ := Aside0.mk (Kd.R_below (by (with_reducible repeat (first | apply Kd.R_alloc | apply Kd.R_drewN | apply Kd.R_drew)); exact HO202.out) hb)
                have n1_ := bS BK196 hb
                have n2_ := bS BK197 hb
                have n3_ := hS HB hb
                clear HO202
                clear BK196
                clear BK197
                clear HB
                have HO202 := n0_
                have BK196 := n1_
                have BK197 := n2_
                have HB := n3_
                clear n0_ n1_ n2_ n3_
                (try clear hb)
                (try clear hb2)
                (try clear hk)
                (try clear hi)
                obtain ⟨Ao47, co47, eo47⟩ := Kd.R_slice HO202.out
                (first | subst eo47 | (injection eo47 with f1_ f2_ f3_; have f4_ := f1_.symm; have f5_ := f3_.symm; clear f1_ f2_ f3_; subst f4_; subst f5_))
                refine hK.out _ _ ⟨(blk_cell BK196.out 0).trans rfl, (blk_cell BK196.out 1).trans rfl, (blk_cell BK197.out 0).trans rfl, (blk_cell BK197.out 1).trans rfl, (blk_cell BK197.out 2).trans rfl⟩ (fun hHeld => ?_)
                clear hK K
                refine norm_ (a' := ?_) ?_ ?_
                rotate_left
                ·show Act.put _ (some 25) _ = _
                 simp only [Act.put, List.setIfInBounds_toArray, List.set_cons_zero, List.set_cons_succ, i64_w, i32_w]
                 rfl
                refine two_ (i := 4) (j := 8) (Ni := some 26) (Nj := some 6) (bz 11 31) (bz 11 271) rfl rfl rfl rfl (two_of HT_.out (by kernel_rfl)) (by decide) (by decide) (fun K hK => ?_) (fun K hK => ?_)
                ·skip
                 refine goes_ Try.func20 (by kernel_rfl) rfl #[.agg #[.int .i64 t199, .slice Ao47 t200.length co47], .agg #[.int .i64 t203, .int .i64 t204, .int .i64 t205]] (by rfl) rfl rfl mapT ?_
                 with_reducible refine (spec_AddClue.calls k t199 _ _ t200 t203 t204 t205 t206 t207 t210 _ ?side1 ?side2 A12.out).mono ?_
                 (case side1 => repeat (first | exact (Kd.R_reads' HO202.out).2.2 | (with_reducible refine Kd.C_alloc ?_ _) | (with_reducible refine Kd.C_drewN ?_ _) | (with_reducible refine Kd.C_drew ?_)))
                 (case side2 => exact (Kd.R_reads' HO202.out).2.1)
                 rintro e w48 ⟨v208, rfl, ho0, hb⟩
                 refine ⟨_, rfl, ?_⟩
                 have n0_ := Aside0.mk (Kd.R_elder' (by (with_reducible repeat (first | apply Kd.R_alloc | apply Kd.R_drewN | apply Kd.R_drew)); exact HO202.out) (Kd.R_base ho0) hb)
                 have n1_ := Aside0.mk (Kd.R_lower (Kd.R_new' ho0 (Kd.R_lt (by (with_reducible repeat (first | apply Kd.R_alloc | apply Kd.R_drewN | apply Kd.R_drew)); exact HO202.out))) (below_size hB))
                 have n2_ := bS BK196 hb
                 have n3_ := bS BK197 hb
                 have n4_ := hS HB hb
                 clear HO202
                 clear BK196
                 clear BK197
                 clear HB
                 have HO202 := n0_
                 have HO209 := n1_
                 have BK196 := n2_
                 have BK197 := n3_
                 have HB := n4_
                 clear n0_ n1_ n2_ n3_ n4_
                 (try clear hb)
                 (try clear hb2)
                 (try clear hk)
                 (try clear hi)
                 (try clear ho0)
                 refine hK.out _ _ ⟨(blk_cell BK196.out 0).trans rfl, (blk_cell BK196.out 1).trans rfl, (blk_cell BK197.out 0).trans rfl, (blk_cell BK197.out 1).trans rfl, (blk_cell BK197.out 2).trans rfl⟩ (fun hHeld => ?_)
                 clear hK K
                 refine norm_ (a' := ?_) ?_ ?_
                 rotate_left
                 ·show Act.put _ (some 26) _ = _
                  simp only [Act.put, List.setIfInBounds_toArray, List.set_cons_zero, List.set_cons_succ, i64_w, i32_w]
                  rfl
                 refine run_ [(0, 5, 63, some 21), (0, 6, 127, some 27), (0, 7, 255, some 28)] ?_
                 repeat ((apply tag0; refine run_p (v := ?_) (a' := ?_) rfl rfl (any_of HT_.out (by kernel_rfl)) (fun _ _ _ h => h) (by rfl) ?_ ?_ ?_; rotate_left 2; (intro w'; go_simp; with_reducible rfl); (first | (simp only [Act.put, List.setIfInBounds_toArray, List.set_cons_zero, List.set_cons_succ, i64_w, i32_w]; rfl) | rfl)))
                 refine run_nil ?_
                 refine one_ (i := 8) (N := some 6) (bz 11 511) rfl rfl (one_of HT_.out (by kernel_rfl)) (by decide) (fun K hK => ?_)
                 refine box_step ?hg (N := 6) ?hd (cs := #[.int .i64 0, .slice none 0 0]) (t := 35) ?hr ?_; (case hd => rfl); (case hg => rfl); (case hr => first | (go_simp; done) | (go_simp; rfl))
                 intro gb211 hg w49 hbox hb
                 have n0_ := Aside0.mk (Kd.R_below (by (with_reducible repeat (first | apply Kd.R_alloc | apply Kd.R_drewN | apply Kd.R_drew)); exact HO202.out) hb)
                 have n1_ := Aside0.mk (Kd.R_below (by (with_reducible repeat (first | apply Kd.R_alloc | apply Kd.R_drewN | apply Kd.R_drew)); exact HO209.out) hb)
                 have n2_ := bS BK196 hb
                 have n3_ := bS BK197 hb
                 have n4_ := hS HB hb
                 have n5_ := Aside0.mk (hbox)
                 have n6_ := gS HB hg
                 have n7_ := gS HB hg
                 have n8_ := nL BK196 hg
                 have n9_ := nG BK196 hg
                 have n10_ := nL BK197 hg
                 have n11_ := nG BK197 hg
                 clear HO202
                 clear HO209
                 clear BK196
                 clear BK197
                 clear HB
                 have HO202 := n0_
                 have HO209 := n1_
                 have BK196 := n2_
                 have BK197 := n3_
                 have HB := n4_
                 have BK211 := n5_
                 have GW211 := n6_
                 have GE211 := n7_
                 have NB196_211 := n8_
                 have NB211_196 := n9_
                 have NB197_211 := n10_
                 have NB211_197 := n11_
                 clear n0_ n1_ n2_ n3_ n4_ n5_ n6_ n7_ n8_ n9_ n10_ n11_
                 clear hb hbox hg
                 refine hK.out _ _ ⟨(blk_cell BK196.out 0).trans rfl, (blk_cell BK196.out 1).trans rfl, (blk_cell BK197.out 0).trans rfl, (blk_cell BK197.out 1).trans rfl, (blk_cell BK197.out 2).trans rfl⟩ (fun hHeld => ?_)
                 clear hK K
                 refine norm_ (a' := ?_) ?_ ?_
                 rotate_left
                 ·show Act.put _ (some 6) _ = _
                  simp only [Act.put, List.setIfInBounds_toArray, List.set_cons_zero, List.set_cons_succ, i64_w, i32_w]
                  rfl
                 exact norm_ (by simp only [putAll, Act.put, List.setIfInBounds_toArray, List.set_cons_zero, List.set_cons_succ]) (hCont (.slice Ao47 t200.length co47, v208, gb211) _ ⟨hHeld, (by (with_reducible repeat (first | apply Kd.R_alloc | apply Kd.R_drewN | apply Kd.R_drew)); exact Kd.R_mono HO202.out (fun _ hk => hk.2)), (by (with_reducible repeat (first | apply Kd.R_alloc | apply Kd.R_drewN | apply Kd.R_drew)); exact Kd.R_mono HO209.out (fun _ hk => hk.2)), bK, bK, bK, GW211.out, GE211.out, NB196_211.out, NB211_196.out, NB197_211.out, NB211_197.out, hB⟩)
                ·skip
                 refine box_step ?hg (N := 6) ?hd (cs := #[.int .i64 0, .slice none 0 0]) (t := 35) ?hr ?_; (case hd => rfl); (case hg => rfl); (case hr => first | (go_simp; done) | (go_simp; rfl))
                 intro gb211 hg w47 hbox hb
                 have n0_ := Aside0.mk (Kd.R_below (by (with_reducible repeat (first | apply Kd.R_alloc | apply Kd.R_drewN | apply Kd.R_drew)); exact HO202.out) hb)
                 have n1_ := bS BK196 hb
                 have n2_ := bS BK197 hb
                 have n3_ := hS HB hb
                 have n4_ := Aside0.mk (hbox)
                 have n5_ := gS HB hg
                 have n6_ := gS HB hg
                 have n7_ := nL BK196 hg
                 have n8_ := nG BK196 hg
                 have n9_ := nL BK197 hg
                 have n10_ := nG BK197 hg
                 clear HO202
                 clear BK196
                 clear BK197
                 clear HB
                 have HO202 := n0_
                 have BK196 := n1_
                 have BK197 := n2_
                 have HB := n3_
                 have BK211 := n4_
                 have GW211 := n5_
                 have GE211 := n6_
                 have NB196_211 := n7_
                 have NB211_196 := n8_
                 have NB197_211 := n9_
                 have NB211_197 := n10_
                 clear n0_ n1_ n2_ n3_ n4_ n5_ n6_ n7_ n8_ n9_ n10_
                 clear hb hbox hg
                 obtain ⟨Ao48, co48, eo48⟩ := Kd.R_slice HO202.out
                 (first | subst eo48 | (injection eo48 with f1_ f2_ f3_; have f4_ := f1_.symm; have f5_ := f3_.symm; clear f1_ f2_ f3_; subst f4_; subst f5_))
                 refine hK.out _ _ ⟨(blk_cell BK196.out 0).trans rfl, (blk_cell BK196.out 1).trans rfl, (blk_cell BK197.out 0).trans rfl, (blk_cell BK197.out 1).trans rfl, (blk_cell BK197.out 2).trans rfl⟩ (fun hHeld => ?_)
                 clear hK K
                 refine norm_ (a' := ?_) ?_ ?_
                 rotate_left
                 ·show Act.put _ (some 6) _ = _
                  simp only [Act.put, List.setIfInBounds_toArray, List.set_cons_zero, List.set_cons_succ, i64_w, i32_w]
                  rfl
                 refine one_ (i := 4) (N := some 26) (bz 11 287) rfl rfl (one_of HT_.out (by kernel_rfl)) (by decide) (fun K hK => ?_)
                 refine goes_ Try.func20 (by kernel_rfl) rfl #[.agg #[.int .i64 t199, .slice Ao48 t200.length co48], .agg #[.int .i64 t203, .int .i64 t204, .int .i64 t205]] (by rfl) rfl rfl mapT ?_
                 with_reducible refine (spec_AddClue.calls k t199 _ _ t200 t203 t204 t205 t206 t207 t210 _ ?side1 ?side2 A12.out).mono ?_
                 (case side1 => repeat (first | exact (Kd.R_reads' HO202.out).2.2 | (with_reducible refine Kd.C_alloc ?_ _) | (with_reducible refine Kd.C_drewN ?_ _) | (with_reducible refine Kd.C_drew ?_)))
                 (case side2 => exact (Kd.R_reads' HO202.out).2.1)
                 rintro e w49 ⟨v208, rfl, ho0, hb⟩
                 refine ⟨_, rfl, ?_⟩
                 have n0_ := Aside0.mk (Kd.R_elder' (by (with_reducible repeat (first | apply Kd.R_alloc | apply Kd.R_drewN | apply Kd.R_drew)); exact HO202.out) (Kd.R_base ho0) hb)
                 have n1_ := Aside0.mk (Kd.R_lower (Kd.R_new' ho0 (Kd.R_lt (by (with_reducible repeat (first | apply Kd.R_alloc | apply Kd.R_drewN | apply Kd.R_drew)); exact HO202.out))) (below_size hB))
                 have n2_ := bS BK196 hb
                 have n3_ := bS BK197 hb
                 have n4_ := bS BK211 hb
                 have n5_ := hS HB hb
                 clear HO202
                 clear BK196
                 clear BK197
                 clear BK211
                 clear HB
                 have HO202 := n0_
                 have HO209 := n1_
                 have BK196 := n2_
                 have BK197 := n3_
                 have BK211 := n4_
                 have HB := n5_
                 clear n0_ n1_ n2_ n3_ n4_ n5_
                 (try clear hb)
                 (try clear hb2)
                 (try clear hk)
                 (try clear hi)
                 (try clear ho0)
                 refine hK.out _ _ ⟨(blk_cell BK196.out 0).trans rfl, (blk_cell BK196.out 1).trans rfl, (blk_cell BK197.out 0).trans rfl, (blk_cell BK197.out 1).trans rfl, (blk_cell BK197.out 2).trans rfl⟩ (fun hHeld => ?_)
                 clear hK K
                 refine norm_ (a' := ?_) ?_ ?_
                 rotate_left
                 ·show Act.put _ (some 26) _ = _
                  simp only [Act.put, List.setIfInBounds_toArray, List.set_cons_zero, List.set_cons_succ, i64_w, i32_w]
                  rfl
                 refine run_ [(0, 5, 319, some 21), (0, 6, 383, some 27), (0, 7, 511, some 28)] ?_
                 repeat ((apply tag0; refine run_p (v := ?_) (a' := ?_) rfl rfl (any_of HT_.out (by kernel_rfl)) (fun _ _ _ h => h) (by rfl) ?_ ?_ ?_; rotate_left 2; (intro w'; go_simp; with_reducible rfl); (first | (simp only [Act.put, List.setIfInBounds_toArray, List.set_cons_zero, List.set_cons_succ, i64_w, i32_w]; rfl) | rfl)))
                 refine run_nil ?_
                 exact norm_ (by simp only [putAll, Act.put, List.setIfInBounds_toArray, List.set_cons_zero, List.set_cons_succ]) (hCont (.slice Ao48 t200.length co48, v208, gb211) _ ⟨hHeld, (by (with_reducible repeat (first | apply Kd.R_alloc | apply Kd.R_drewN | apply Kd.R_drew)); exact Kd.R_mono HO202.out (fun _ hk => hk.2)), (by (with_reducible repeat (first | apply Kd.R_alloc | apply Kd.R_drewN | apply Kd.R_drew)); exact Kd.R_mono HO209.out (fun _ hk => hk.2)), bK, bK, bK, GW211.out, GE211.out, NB196_211.out, NB211_196.out, NB197_211.out, NB211_197.out, hB⟩)
               ·skip
                refine box_step ?hg (N := 6) ?hd (cs := #[.int .i64 0, .slice none 0 0]) (t := 35) ?hr ?_; (case hd => rfl); (case hg => rfl); (case hr => first | (go_simp; done) | (go_simp; rfl))
                intro gb211 hg w46 hbox hb
                have n0_ := Aside0.mk (Kd.R_below (by (with_reducible repeat (first | apply Kd.R_alloc | apply Kd.R_drewN | apply Kd.R_drew)); exact HO202.out) hb)
                have n1_ := bS BK196 hb
                have n2_ := bS BK197 hb
                have n3_ := hS HB hb
                have n4_ := Aside0.mk (hbox)
                have n5_ := gS HB hg
                have n6_ := gS HB hg
                have n7_ := nL BK196 hg
                have n8_ := nG BK196 hg
                have n9_ := nL BK197 hg
                have n10_ := nG BK197 hg
                clear HO202
                clear BK196
                clear BK197
                clear HB
                have HO202 := n0_
                have BK196 := n1_
                have BK197 := n2_
                have HB := n3_
                have BK211 := n4_
                have GW211 := n5_
                have GE211 := n6_
                have NB196_211 := n7_
                have NB211_196 := n8_
                have NB197_211 := n9_
                have NB211_197 := n10_
                clear n0_ n1_ n2_ n3_ n4_ n5_ n6_ n7_ n8_ n9_ n10_
                clear hb hbox hg
                refine hK.out _ _ ⟨(blk_cell BK196.out 0).trans rfl, (blk_cell BK196.out 1).trans rfl, (blk_cell BK197.out 0).trans rfl, (blk_cell BK197.out 1).trans rfl, (blk_cell BK197.out 2).trans rfl⟩ (fun hHeld => ?_)
                clear hK K
                refine norm_ (a' := ?_) ?_ ?_
                rotate_left
                ·show Act.put _ (some 6) _ = _
                 simp only [Act.put, List.setIfInBounds_toArray, List.set_cons_zero, List.set_cons_succ, i64_w, i32_w]
                 rfl
                refine one_ (i := 3) (N := some 25) (bz 11 271) rfl rfl (one_of HT_.out (by kernel_rfl)) (by decide) (fun K hK => ?_)
                refine goes_ Try.func8 (by kernel_rfl) rfl #[.agg #[.int .i64 a1_0, .int .i64 a1_1, .int .i64 a1_2]] (by rfl) rfl rfl mapT ?_
                with_reducible refine (laws_toClue.calls a1_0 a1_1 a1_2 t203 t204 t205 _ A11.out).mono ?_
                rintro e w47 ⟨rfl, hb⟩
                refine ⟨_, rfl, ?_⟩
                have n0_ := Aside0.mk (Kd.R_below (by (with_reducible repeat (first | apply Kd.R_alloc | apply Kd.R_drewN | apply Kd.R_drew)); exact HO202.out) hb)
                have n1_ := bS BK196 hb
                have n2_ := bS BK197 hb
                have n3_ := bS BK211 hb
                have n4_ := hS HB hb
                clear HO202
                clear BK196
                clear BK197
                clear BK211
                clear HB
                have HO202 := n0_
                have BK196 := n1_
                have BK197 := n2_
                have BK211 := n3_
                have HB := n4_
                clear n0_ n1_ n2_ n3_ n4_
                (try clear hb)
                (try clear hb2)
                (try clear hk)
                (try clear hi)
                obtain ⟨Ao48, co48, eo48⟩ := Kd.R_slice HO202.out
                (first | subst eo48 | (injection eo48 with f1_ f2_ f3_; have f4_ := f1_.symm; have f5_ := f3_.symm; clear f1_ f2_ f3_; subst f4_; subst f5_))
                refine hK.out _ _ ⟨(blk_cell BK196.out 0).trans rfl, (blk_cell BK196.out 1).trans rfl, (blk_cell BK197.out 0).trans rfl, (blk_cell BK197.out 1).trans rfl, (blk_cell BK197.out 2).trans rfl⟩ (fun hHeld => ?_)
                clear hK K
                refine norm_ (a' := ?_) ?_ ?_
                rotate_left
                ·show Act.put _ (some 25) _ = _
                 simp only [Act.put, List.setIfInBounds_toArray, List.set_cons_zero, List.set_cons_succ, i64_w, i32_w]
                 rfl
                refine one_ (i := 4) (N := some 26) (bz 11 287) rfl rfl (one_of HT_.out (by kernel_rfl)) (by decide) (fun K hK => ?_)
                refine goes_ Try.func20 (by kernel_rfl) rfl #[.agg #[.int .i64 t199, .slice Ao48 t200.length co48], .agg #[.int .i64 t203, .int .i64 t204, .int .i64 t205]] (by rfl) rfl rfl mapT ?_
                with_reducible refine (spec_AddClue.calls k t199 _ _ t200 t203 t204 t205 t206 t207 t210 _ ?side1 ?side2 A12.out).mono ?_
                (case side1 => repeat (first | exact (Kd.R_reads' HO202.out).2.2 | (with_reducible refine Kd.C_alloc ?_ _) | (with_reducible refine Kd.C_drewN ?_ _) | (with_reducible refine Kd.C_drew ?_)))
                (case side2 => exact (Kd.R_reads' HO202.out).2.1)
                rintro e w49 ⟨v208, rfl, ho0, hb⟩
                refine ⟨_, rfl, ?_⟩
                have n0_ := Aside0.mk (Kd.R_elder' (by (with_reducible repeat (first | apply Kd.R_alloc | apply Kd.R_drewN | apply Kd.R_drew)); exact HO202.out) (Kd.R_base ho0) hb)
                have n1_ := Aside0.mk (Kd.R_lower (Kd.R_new' ho0 (Kd.R_lt (by (with_reducible repeat (first | apply Kd.R_alloc | apply Kd.R_drewN | apply Kd.R_drew)); exact HO202.out))) (below_size hB))
                have n2_ := bS BK196 hb
                have n3_ := bS BK197 hb
                have n4_ := bS BK211 hb
                have n5_ := hS HB hb
                clear HO202
                clear BK196
                clear BK197
                clear BK211
                clear HB
                have HO202 := n0_
                have HO209 := n1_
                have BK196 := n2_
                have BK197 := n3_
                have BK211 := n4_
                have HB := n5_
                clear n0_ n1_ n2_ n3_ n4_ n5_
                (try clear hb)
                (try clear hb2)
                (try clear hk)
                (try clear hi)
                (try clear ho0)
                refine hK.out _ _ ⟨(blk_cell BK196.out 0).trans rfl, (blk_cell BK196.out 1).trans rfl, (blk_cell BK197.out 0).trans rfl, (blk_cell BK197.out 1).trans rfl, (blk_cell BK197.out 2).trans rfl⟩ (fun hHeld => ?_)
                clear hK K
                refine norm_ (a' := ?_) ?_ ?_
                rotate_left
                ·show Act.put _ (some 26) _ = _
                 simp only [Act.put, List.setIfInBounds_toArray, List.set_cons_zero, List.set_cons_succ, i64_w, i32_w]
                 rfl
                refine run_ [(0, 5, 319, some 21), (0, 6, 383, some 27), (0, 7, 511, some 28)] ?_
                repeat ((apply tag0; refine run_p (v := ?_) (a' := ?_) rfl rfl (any_of HT_.out (by kernel_rfl)) (fun _ _ _ h => h) (by rfl) ?_ ?_ ?_; rotate_left 2; (intro w'; go_simp; with_reducible rfl); (first | (simp only [Act.put, List.setIfInBounds_toArray, List.set_cons_zero, List.set_cons_succ, i64_w, i32_w]; rfl) | rfl)))
                refine run_nil ?_
                exact norm_ (by simp only [putAll, Act.put, List.setIfInBounds_toArray, List.set_cons_zero, List.set_cons_succ]) (hCont (.slice Ao48 t200.length co48, v208, gb211) _ ⟨hHeld, (by (with_reducible repeat (first | apply Kd.R_alloc | apply Kd.R_drewN | apply Kd.R_drew)); exact Kd.R_mono HO202.out (fun _ hk => hk.2)), (by (with_reducible repeat (first | apply Kd.R_alloc | apply Kd.R_drewN | apply Kd.R_drew)); exact Kd.R_mono HO209.out (fun _ hk => hk.2)), bK, bK, bK, GW211.out, GE211.out, NB196_211.out, NB211_196.out, NB197_211.out, NB211_197.out, hB⟩)
              ·skip
               refine box_step ?hg (N := 6) ?hd (cs := #[.int .i64 0, .slice none 0 0]) (t := 35) ?hr ?_; (case hd => rfl); (case hg => rfl); (case hr => first | (go_simp; done) | (go_simp; rfl))
               intro gb211 hg w45 hbox hb
               have n0_ := bS BK196 hb
               have n1_ := bS BK197 hb
               have n2_ := hS HB hb
               have n3_ := Aside0.mk (hbox)
               have n4_ := gS HB hg
               have n5_ := gS HB hg
               have n6_ := nL BK196 hg
               have n7_ := nG BK196 hg
               have n8_ := nL BK197 hg
               have n9_ := nG BK197 hg
               clear BK196
               clear BK197
               clear HB
               have BK196 := n0_
               have BK197 := n1_
               have HB := n2_
               have BK211 := n3_
               have GW211 := n4_
               have GE211 := n5_
               have NB196_211 := n6_
               have NB211_196 := n7_
               have NB197_211 := n8_
               have NB211_197 := n9_
               clear n0_ n1_ n2_ n3_ n4_ n5_ n6_ n7_ n8_ n9_
               clear hb hbox hg
               refine hK.out _ _ ⟨(blk_cell BK196.out 0).trans rfl, (blk_cell BK196.out 1).trans rfl, (blk_cell BK197.out 0).trans rfl, (blk_cell BK197.out 1).trans rfl, (blk_cell BK197.out 2).trans rfl⟩ (fun hHeld => ?_)
               clear hK K
               refine norm_ (a' := ?_) ?_ ?_
               rotate_left
               ·show Act.put _ (some 6) _ = _
                simp only [Act.put, List.setIfInBounds_toArray, List.set_cons_zero, List.set_cons_succ, i64_w, i32_w]
                rfl
               refine one_ (i := 1) (N := some 23) (bz 11 263) rfl rfl (one_of HT_.out (by kernel_rfl)) (by decide) (fun K hK => ?_)
               refine goes_ Try.func12 (by kernel_rfl) rfl #[.agg #[.int .i64 a0_0, .slice A0_1 l0_1.length c0_1]] (by rfl) rfl rfl mapT ?_
               with_reducible refine (laws_toPuzzle.calls k a0_0 _ _ l0_1 t199 t200 _ ?side1 ?side2 A10.out).mono ?_
               (case side1 => repeat (first | exact (Kd.C_below HR0_1.out HB.out) | (with_reducible refine Kd.C_alloc ?_ _) | (with_reducible refine Kd.C_drewN ?_ _) | (with_reducible refine Kd.C_drew ?_)))
               (case side2 => exact HC0_1.out)
               rintro e w46 ⟨v201, rfl, ho0, hb⟩
               refine ⟨_, rfl, ?_⟩
               have n0_ := Aside0.mk (Kd.R_lower ho0 (below_size hB))
               have n1_ := bS BK196 hb
               have n2_ := bS BK197 hb
               have n3_ := bS BK211 hb
               have n4_ := hS HB hb
               clear BK196
               clear BK197
               clear BK211
               clear HB
               have HO202 := n0_
               have BK196 := n1_
               have BK197 := n2_
               have BK211 := n3_
               have HB := n4_
               clear n0_ n1_ n2_ n3_ n4_
               (try clear hb)
               (try clear hb2)
               (try clear hk)
               (try clear hi)
               (try clear ho0)
               refine hK.out _ _ ⟨(blk_cell BK196.out 0).trans rfl, (blk_cell BK196.out 1).trans rfl, (blk_cell BK197.out 0).trans rfl, (blk_cell BK197.out 1).trans rfl, (blk_cell BK197.out 2).trans rfl⟩ (fun hHeld => ?_)
               clear hK K
               refine norm_ (a' := ?_) ?_ ?_
               rotate_left
               ·show Act.put _ (some 23) _ = _
                simp only [Act.put, List.setIfInBounds_toArray, List.set_cons_zero, List.set_cons_succ, i64_w, i32_w]
                rfl
               refine one_ (i := 3) (N := some 25) (bz 11 271) rfl rfl (one_of HT_.out (by kernel_rfl)) (by decide) (fun K hK => ?_)
               refine goes_ Try.func8 (by kernel_rfl) rfl #[.agg #[.int .i64 a1_0, .int .i64 a1_1, .int .i64 a1_2]] (by rfl) rfl rfl mapT ?_
               with_reducible refine (laws_toClue.calls a1_0 a1_1 a1_2 t203 t204 t205 _ A11.out).mono ?_
               rintro e w47 ⟨rfl, hb⟩
               refine ⟨_, rfl, ?_⟩
               have n0_ := Aside0.mk (Kd.R_below (by (with_reducible repeat (first | apply Kd.R_alloc | apply Kd.R_drewN | apply Kd.R_drew)); exact HO202.out) hb)
               have n1_ := bS BK196 hb
               have n2_ := bS BK197 hb
               have n3_ := bS BK211 hb
               have n4_ := hS HB hb
               clear HO202
               clear BK196
               clear BK197
               clear BK211
               clear HB
               have HO202 := n0_
               have BK196 := n1_
               have BK197 := n2_
               have BK211 := n3_
               have HB := n4_
               clear n0_ n1_ n2_ n3_ n4_
               (try clear hb)
               (try clear hb2)
               (try clear hk)
               (try clear hi)
               obtain ⟨Ao48, co48, eo48⟩ := Kd.R_slice HO202.out
               (first | subst eo48 | (injection eo48 with f1_ f2_ f3_; have f4_ := f1_.symm; have f5_ := f3_.symm; clear f1_ f2_ f3_; subst f4_; subst f5_))
               refine hK.out _ _ ⟨(blk_cell BK196.out 0).trans rfl, (blk_cell BK196.out 1).trans rfl, (blk_cell BK197.out 0).trans rfl, (blk_cell BK197.out 1).trans rfl, (blk_cell BK197.out 2).trans rfl⟩ (fun hHeld => ?_)
               clear hK K
               refine norm_ (a' := ?_) ?_ ?_
               rotate_left
               ·show Act.put _ (some 25) _ = _
                simp only [Act.put, List.setIfInBounds_toArray, List.set_cons_zero, List.set_cons_succ, i64_w, i32_w]
                rfl
               refine one_ (i := 4) (N := some 26) (bz 11 287) rfl rfl (one_of HT_.out (by kernel_rfl)) (by decide) (fun K hK => ?_)
               refine goes_ Try.func20 (by kernel_rfl) rfl #[.agg #[.int .i64 t199, .slice Ao48 t200.length co48], .agg #[.int .i64 t203, .int .i64 t204, .int .i64 t205]] (by rfl) rfl rfl mapT ?_
               with_reducible refine (spec_AddClue.calls k t199 _ _ t200 t203 t204 t205 t206 t207 t210 _ ?side1 ?side2 A12.out).mono ?_
               (case side1 => repeat (first | exact (Kd.R_reads' HO202.out).2.2 | (with_reducible refine Kd.C_alloc ?_ _) | (with_reducible refine Kd.C_drewN ?_ _) | (with_reducible refine Kd.C_drew ?_)))
               (case side2 => exact (Kd.R_reads' HO202.out).2.1)
               rintro e w49 ⟨v208, rfl, ho0, hb⟩
               refine ⟨_, rfl, ?_⟩
               have n0_ := Aside0.mk (Kd.R_elder' (by (with_reducible repeat (first | apply Kd.R_alloc | apply Kd.R_drewN | apply Kd.R_drew)); exact HO202.out) (Kd.R_base ho0) hb)
               have n1_ := Aside0.mk (Kd.R_lower (Kd.R_new' ho0 (Kd.R_lt (by (with_reducible repeat (first | apply Kd.R_alloc | apply Kd.R_drewN | apply Kd.R_drew)); exact HO202.out))) (below_size hB))
               have n2_ := bS BK196 hb
               have n3_ := bS BK197 hb
               have n4_ := bS BK211 hb
               have n5_ := hS HB hb
               clear HO202
               clear BK196
               clear BK197
               clear BK211
               clear HB
               have HO202 := n0_
               have HO209 := n1_
               have BK196 := n2_
               have BK197 := n3_
               have BK211 := n4_
               have HB := n5_
               clear n0_ n1_ n2_ n3_ n4_ n5_
               (try clear hb)
               (try clear hb2)
               (try clear hk)
               (try clear hi)
               (try clear ho0)
               refine hK.out _ _ ⟨(blk_cell BK196.out 0).trans rfl, (blk_cell BK196.out 1).trans rfl, (blk_cell BK197.out 0).trans rfl, (blk_cell BK197.out 1).trans rfl, (blk_cell BK197.out 2).trans rfl⟩ (fun hHeld => ?_)
               clear hK K
               refine norm_ (a' := ?_) ?_ ?_
               rotate_left
               ·show Act.put _ (some 26) _ = _
                simp only [Act.put, List.setIfInBounds_toArray, List.set_cons_zero, List.set_cons_succ, i64_w, i32_w]
                rfl
               refine run_ [(0, 5, 319, some 21), (0, 6, 383, some 27), (0, 7, 511, some 28)] ?_
               repeat ((apply tag0; refine run_p (v := ?_) (a' := ?_) rfl rfl (any_of HT_.out (by kernel_rfl)) (fun _ _ _ h => h) (by rfl) ?_ ?_ ?_; rotate_left 2; (intro w'; go_simp; with_reducible rfl); (first | (simp only [Act.put, List.setIfInBounds_toArray, List.set_cons_zero, List.set_cons_succ, i64_w, i32_w]; rfl) | rfl)))
               refine run_nil ?_
               exact norm_ (by simp only [putAll, Act.put, List.setIfInBounds_toArray, List.set_cons_zero, List.set_cons_succ]) (hCont (.slice Ao48 t200.length co48, v208, gb211) _ ⟨hHeld, (by (with_reducible repeat (first | apply Kd.R_alloc | apply Kd.R_drewN | apply Kd.R_drew)); exact Kd.R_mono HO202.out (fun _ hk => hk.2)), (by (with_reducible repeat (first | apply Kd.R_alloc | apply Kd.R_drewN | apply Kd.R_drew)); exact Kd.R_mono HO209.out (fun _ hk => hk.2)), bK, bK, bK, GW211.out, GE211.out, NB196_211.out, NB211_196.out, NB197_211.out, NB211_197.out, hB⟩)
             rintro ⟨v201, v208, gb211⟩ w50 ⟨hS_, h0_, h1_, h2_, h3_, h4_, h5_, h6_, h7_, h8_, h9_, h10_, h11_⟩
             have n0_ : Aside0 (Kd.R k25 25 w50 w.heap.size (fun k_ => some k_ ≠ (v208 : Value).ownBlock) v201 t200) := ⟨h0_⟩
             have n1_ : Aside0 (Kd.R k25 25 w50 w.heap.size (fun k_ => some k_ ≠ (v201 : Value).ownBlock) v208 t207) := ⟨h1_⟩
             have n2_ : Aside0 (w50.heap[gb196]? = some (.cells #[.int .i64 a0_0, .slice A0_1 l0_1.length c0_1] 30 (0, 0))) := ⟨h2_⟩
             have n3_ : Aside0 (w50.heap[gb197]? = some (.cells #[.int .i64 a1_0, .int .i64 a1_1, .int .i64 a1_2] 23 (0, 0))) := ⟨h3_⟩
             have n4_ : Aside0 (w50.heap[gb211]? = some (.cells #[.int .i64 0, .slice none 0 0] 35 (0, 0))) := ⟨h4_⟩
             have n5_ : Aside0 (w.heap.size ≤ gb211) := ⟨h5_⟩
             have n6_ : Aside0 (w.heap.size ≤ gb211) := ⟨h6_⟩
             have n7_ : Aside0 (gb196 ≠ gb211) := ⟨h7_⟩
             have n8_ : Aside0 (gb211 ≠ gb196) := ⟨h8_⟩
             have n9_ : Aside0 (gb197 ≠ gb211) := ⟨h9_⟩
             have n10_ : Aside0 (gb211 ≠ gb197) := ⟨h10_⟩
             have n11_ : Aside0 (Below w.heap.size w w50) := ⟨h11_⟩
             clear BK196
             clear BK197
             clear HB
             clear h0_ h1_ h2_ h3_ h4_ h5_ h6_ h7_ h8_ h9_ h10_ h11_
             have HO202 := n0_
             have HO209 := n1_
             have BK196 := n2_
             have BK197 := n3_
             have BK211 := n4_
             have GW211 := n5_
             have GE211 := n6_
             have NB196_211 := n7_
             have NB211_196 := n8_
             have NB197_211 := n9_
             have NB211_197 := n10_
             have HB := n11_
             clear n0_ n1_ n2_ n3_ n4_ n5_ n6_ n7_ n8_ n9_ n10_ n11_
             have hHeld : w50.cell? ⟨gb196, 0, none⟩ = some (.int .i64 a0_0) ∧ w50.cell? ⟨gb196, 1, none⟩ = some (.slice A0_1 l0_1.length c0_1) ∧ w50.cell? ⟨gb197, 0, none⟩ = some (.int .i64 a1_0) ∧ w50.cell? ⟨gb197, 1, none⟩ = some (.int .i64 a1_1) ∧ w50.cell? ⟨gb197, 2, none⟩ = some (.int .i64 a1_2) := hS_
             obtain ⟨Ao52, co52, eo52⟩ := Kd.R_slice HO209.out
             (first | subst eo52 | (injection eo52 with f1_ f2_ f3_; have f4_ := f1_.symm; have f5_ := f3_.symm; clear f1_ f2_ f3_; subst f4_; subst f5_))
             refine norm_ (a' := ?_) ?_ ?_
             rotate_left
             ·simp only [putAll, Act.put, List.setIfInBounds_toArray, List.set_cons_zero, List.set_cons_succ]
              rfl
             refine one_ (i := 9) (N := none) (bz 11 1023) rfl rfl (one_of HT_.out (by kernel_rfl)) (by decide) (fun K hK => ?_)
             have hs51 : w50.cell? ⟨gb211, 0, none⟩ = some (.int .i64 0) := (blk_cell BK211.out 0).trans rfl
             have hfs51 := blk_frozen BK211.out 0
             have hns51_0 := NB196_211.out
             have hns51_1 := NB197_211.out
             have hms51_0 := NB211_196.out
             have hms51_1 := NB211_197.out
             have hs53 : w50.cell? ⟨gb211, 1, none⟩ = some (.slice none 0 0) := (blk_cell BK211.out 1).trans rfl
             have hfs53 := blk_frozen BK211.out 1
             have hns53_0 := NB196_211.out
             have hns53_1 := NB197_211.out
             have hms53_0 := NB211_196.out
             have hms53_1 := NB211_197.out
             refine skip_ (w1 := ?_) (by rfl) rfl ?_ ?_
             rotate_left
             ·go_simp
              rfl
             refine hK.out _ _ ⟨((cell_far (p := ⟨gb211, _, none⟩) NB196_211.out _).trans (((cell_far (p := ⟨gb211, _, none⟩) NB196_211.out _).trans (hHeld.1)))), ((cell_far (p := ⟨gb211, _, none⟩) NB196_211.out _).trans (((cell_far (p := ⟨gb211, _, none⟩) NB196_211.out _).trans (hHeld.2.1)))), ((cell_far (p := ⟨gb211, _, none⟩) NB197_211.out _).trans (((cell_far (p := ⟨gb211, _, none⟩) NB197_211.out _).trans (hHeld.2.2.1)))), ((cell_far (p := ⟨gb211, _, none⟩) NB197_211.out _).trans (((cell_far (p := ⟨gb211, _, none⟩) NB197_211.out _).trans (hHeld.2.2.2.1)))), ((cell_far (p := ⟨gb211, _, none⟩) NB197_211.out _).trans (((cell_far (p := ⟨gb211, _, none⟩) NB197_211.out _).trans (hHeld.2.2.2.2))))⟩ (fun hHeld => ?_)
             clear hK K
             refine run_ [(0, 10, 2047, some 7)] ?_
             repeat ((apply tag0; refine run_p (v := ?_) (a' := ?_) rfl rfl (any_of HT_.out (by kernel_rfl)) (fun _ _ _ h => h) (by rfl) ?_ ?_ ?_; rotate_left 2; (intro w'; go_simp; with_reducible rfl); (first | (simp only [Act.put, List.setIfInBounds_toArray, List.set_cons_zero, List.set_cons_succ, i64_w, i32_w]; rfl) | rfl)))
             refine run_nil ?_
             refine done_ (done_of HT_.out (by kernel_rfl)) ?_
             have hnb54 := NB196_211.out
             have hnc54 := NB211_196.out
             have hcz55_0 : w50.cell? ⟨gb196, 0, none⟩ = some (.int .i64 a0_0) := (blk_cell BK196.out 0).trans rfl
             have hcz55_1 : w50.cell? ⟨gb196, 1, none⟩ = some (.slice A0_1 l0_1.length c0_1) := (blk_cell BK196.out 1).trans rfl
             have hfz55_0 := blk_frozen BK196.out 0
             have hfz55_1 := blk_frozen BK196.out 1
             try go_wp2_with (first | ((with_reducible refine gate_callee (f := 12) rfl ?_); refine goesL_ (some 30) rfl rfl Try.func12 (by kernel_rfl) rfl #[.agg #[.int .i64 a0_0, .slice A0_1 l0_1.length c0_1]] rfl mapT ?_; (with_reducible refine (laws_toPuzzle.calls k a0_0 _ _ l0_1 t212 t213 _ ?side1 ?side2 A13.out).mono ?_); (case side1 => exact Kd.C_below HR0_1.out hB); (case side2 => exact HC0_1.out); rintro e w56 ⟨v214, rfl, ho0, hb⟩; refine ⟨_, rfl, ?_⟩; have n0_ := Aside0.mk (Kd.R_elder' (by (with_reducible repeat (first | apply Kd.R_alloc | apply Kd.R_drewN | apply Kd.R_drew)); exact (Kd.R_mono (Kd.R_far (p := ⟨gb211, 1, none⟩) (Kd.R_far (p := ⟨gb211, 0, none⟩) (Kd.R_types HO202.out BK211.out (by decide)) (fun _ hk => hk.2) (.int .i64 t206)) (fun _ hk => hk.2) (.slice Ao52 t207.length co52)) (fun _ h_ => h_.1))) (Kd.R_base ho0) hb); have n1_ := Aside0.mk (Kd.R_elder' (by (with_reducible repeat (first | apply Kd.R_alloc | apply Kd.R_drewN | apply Kd.R_drew)); exact (Kd.R_mono (Kd.R_far (p := ⟨gb211, 1, none⟩) (Kd.R_far (p := ⟨gb211, 0, none⟩) (Kd.R_types HO209.out BK211.out (by decide)) (fun _ hk => hk.2) (.int .i64 t206)) (fun _ hk => hk.2) (.slice Ao52 t207.length co52)) (fun _ h_ => h_.1))) (Kd.R_base ho0) hb); have n2_ := Aside0.mk (Kd.R_lower (Kd.R_new' (Kd.R_new' ho0 (Kd.R_lt (by (with_reducible repeat (first | apply Kd.R_alloc | apply Kd.R_drewN | apply Kd.R_drew)); exact (Kd.R_mono (Kd.R_far (p := ⟨gb211, 1, none⟩) (Kd.R_far (p := ⟨gb211, 0, none⟩) (Kd.R_types HO202.out BK211.out (by decide)) (fun _ hk => hk.2) (.int .i64 t206)) (fun _ hk => hk.2) (.slice Ao52 t207.length co52)) (fun _ h_ => h_.1))))) (Kd.R_lt (by (with_reducible repeat (first | apply Kd.R_alloc | apply Kd.R_drewN | apply Kd.R_drew)); exact (Kd.R_mono (Kd.R_far (p := ⟨gb211, 1, none⟩) (Kd.R_far (p := ⟨gb211, 0, none⟩) (Kd.R_types HO209.out BK211.out (by decide)) (fun _ hk => hk.2) (.int .i64 t206)) (fun _ hk => hk.2) (.slice Ao52 t207.length co52)) (fun _ h_ => h_.1))))) (below_size hB)); have n3_ := Aside0.mk (blk_below (g := gb196) (o := .cells #[.int .i64 a0_0, .slice A0_1 l0_1.length c0_1] 30 (0, 0)) (by (with_reducible repeat (first | refine blk_drewN ?_ _ | refine blk_drew ?_ | refine blk_alloc ?_ _)); refine blk_far ?_ NB196_211.out _; (with_reducible repeat (first | refine blk_drewN ?_ _ | refine blk_drew ?_ | refine blk_alloc ?_ _)); refine blk_far ?_ NB196_211.out _; (with_reducible repeat (first | refine blk_drewN ?_ _ | refine blk_drew ?_ | refine blk_alloc ?_ _)); exact BK196.out) hb); have n4_ := Aside0.mk (blk_below (g := gb197) (o := .cells #[.int .i64 a1_0, .int .i64 a1_1, .int .i64 a1_2] 23 (0, 0)) (by (with_reducible repeat (first | refine blk_drewN ?_ _ | refine blk_drew ?_ | refine blk_alloc ?_ _)); refine blk_far ?_ NB197_211.out _; (with_reducible repeat (first | refine blk_drewN ?_ _ | refine blk_drew ?_ | refine blk_alloc ?_ _)); refine blk_far ?_ NB197_211.out _; (with_reducible repeat (first | refine blk_drewN ?_ _ | refine blk_drew ?_ | refine blk_alloc ?_ _)); exact BK197.out) hb); have n5_ := Aside0.mk (blk_below (g := gb211) (o := .cells #[.int .i64 t206, .slice Ao52 t207.length co52] 35 (0, 0)) (by (with_reducible repeat (first | refine blk_drewN ?_ _ | refine blk_drew ?_ | refine blk_alloc ?_ _)); refine blk_put (cs := #[.int .i64 t206, .slice none 0 0]) ?_ 1 _ rfl; (with_reducible repeat (first | refine blk_drewN ?_ _ | refine blk_drew ?_ | refine blk_alloc ?_ _)); refine blk_put (cs := #[.int .i64 0, .slice none 0 0]) ?_ 0 _ rfl; (with_reducible repeat (first | refine blk_drewN ?_ _ | refine blk_drew ?_ | refine blk_alloc ?_ _)); exact BK211.out) hb); have n6_ := hS HB hb; clear HO202; clear HO209; clear BK196; clear BK197; clear BK211; clear HB; have HO202 := n0_; have HO209 := n1_; have HO215 := n2_; have BK196 := n3_; have BK197 := n4_; have BK211 := n5_; have HB := n6_; clear n0_ n1_ n2_ n3_ n4_ n5_ n6_; (try clear hb); (try clear hb2); (try clear hk); (try clear hi); (try clear ho0)) | ((with_reducible refine gate_dst (N := 8) rfl ?_); refine box_event ?hg (N := 8) ?hd (cs := #[.int .i64 0, .slice none 0 0]) (t := 35) ?hr ?_; (case hd => rfl); (case hg => rfl); (case hr => first | (go_simp; done) | (go_simp; rfl)); intro gb216 hg w57 hbox hb; have n0_ := Aside0.mk (Kd.R_below (by (with_reducible repeat (first | apply Kd.R_alloc | apply Kd.R_drewN | apply Kd.R_drew)); exact HO202.out) hb); have n1_ := Aside0.mk (Kd.R_below (by (with_reducible repeat (first | apply Kd.R_alloc | apply Kd.R_drewN | apply Kd.R_drew)); exact HO209.out) hb); have n2_ := Aside0.mk (Kd.R_below (by (with_reducible repeat (first | apply Kd.R_alloc | apply Kd.R_drewN | apply Kd.R_drew)); exact HO215.out) hb); have n3_ := bS BK196 hb; have n4_ := bS BK197 hb; have n5_ := bS BK211 hb; have n6_ := hS HB hb; have n7_ := Aside0.mk (hbox); have n8_ := gS HB hg; have n9_ := gS HB hg; have n10_ := nL BK196 hg; have n11_ := nG BK196 hg; have n12_ := nL BK197 hg; have n13_ := nG BK197 hg; have n14_ := nL BK211 hg; have n15_ := nG BK211 hg; clear HO202; clear HO209; clear HO215; clear BK196; clear BK197; clear BK211; clear HB; have HO202 := n0_; have HO209 := n1_; have HO215 := n2_; have BK196 := n3_; have BK197 := n4_; have BK211 := n5_; have HB := n6_; have BK216 := n7_; have GW216 := n8_; have GE216 := n9_; have NB196_216 := n10_; have NB216_196 := n11_; have NB197_216 := n12_; have NB216_197 := n13_; have NB211_216 := n14_; have NB216_211 := n15_; clear n0_ n1_ n2_ n3_ n4_ n5_ n6_ n7_ n8_ n9_ n10_ n11_ n12_ n13_ n14_ n15_; clear hb hbox hg; have hnb58 := NB216_196.out; have hnc58 := NB196_216.out; have hnb59 := NB216_197.out; have hnc59 := NB197_216.out; have hnb60 := NB216_211.out; have hnc60 := NB211_216.out; have hcz61_0 : w57.cell? ⟨gb216, 0, none⟩ = some (.int .i64 0) := (blk_cell BK216.out 0).trans rfl; have hcz61_1 : w57.cell? ⟨gb216, 1, none⟩ = some (.slice none 0 0) := (blk_cell BK216.out 1).trans rfl; have hfz61_0 := blk_frozen BK216.out 0; have hfz61_1 := blk_frozen BK216.out 1; obtain ⟨Ao62, co62, eo62⟩ := Kd.R_slice HO215.out; subst eo62))
             have n0_ : Aside0 (Kd.R k25 25 ((w57.setCell ⟨gb216, 0, none⟩ (.int .i64 t212)).setCell ⟨gb216, 1, none⟩ (.slice Ao62 t213.length co62)) w.heap.size (fun k_ => some k_ ≠ (.slice Ao52 t207.length co52 : Value).ownBlock ∧ some k_ ≠ (.slice Ao62 t213.length co62 : Value).ownBlock) v201 t200) := ⟨by (with_reducible repeat (first | apply Kd.R_alloc | apply Kd.R_drewN | apply Kd.R_drew)); exact Kd.R_mono (Kd.R_far (p := ⟨gb216, 1, none⟩) (Kd.R_far (p := ⟨gb216, 0, none⟩) (Kd.R_types HO202.out BK216.out (by decide)) (fun _ hk => hk.2) (.int .i64 t212)) (fun _ hk => hk.2) (.slice Ao62 t213.length co62)) (fun _ hk => ⟨hk.1.1, hk.1.2⟩)⟩
             have n1_ : Aside0 (Kd.R k25 25 ((w57.setCell ⟨gb216, 0, none⟩ (.int .i64 t212)).setCell ⟨gb216, 1, none⟩ (.slice Ao62 t213.length co62)) w.heap.size (fun k_ => some k_ ≠ (v201 : Value).ownBlock ∧ some k_ ≠ (.slice Ao62 t213.length co62 : Value).ownBlock) (.slice Ao52 t207.length co52) t207) := ⟨by (with_reducible repeat (first | apply Kd.R_alloc | apply Kd.R_drewN | apply Kd.R_drew)); exact Kd.R_mono (Kd.R_far (p := ⟨gb216, 1, none⟩) (Kd.R_far (p := ⟨gb216, 0, none⟩) (Kd.R_types HO209.out BK216.out (by decide)) (fun _ hk => hk.2) (.int .i64 t212)) (fun _ hk => hk.2) (.slice Ao62 t213.length co62)) (fun _ hk => ⟨hk.1.1, hk.1.2⟩)⟩
             have n2_ : Aside0 (Kd.R k25 25 ((w57.setCell ⟨gb216, 0, none⟩ (.int .i64 t212)).setCell ⟨gb216, 1, none⟩ (.slice Ao62 t213.length co62)) w.heap.size (fun k_ => some k_ ≠ (v201 : Value).ownBlock ∧ some k_ ≠ (.slice Ao52 t207.length co52 : Value).ownBlock) (.slice Ao62 t213.length co62) t213) := ⟨by (with_reducible repeat (first | apply Kd.R_alloc | apply Kd.R_drewN | apply Kd.R_drew)); exact Kd.R_mono (Kd.R_far (p := ⟨gb216, 1, none⟩) (Kd.R_far (p := ⟨gb216, 0, none⟩) (Kd.R_types HO215.out BK216.out (by decide)) (fun _ hk => hk.2) (.int .i64 t212)) (fun _ hk => hk.2) (.slice Ao62 t213.length co62)) (fun _ hk => ⟨hk.1.1.2, hk.1.2⟩)⟩
             have n3_ : Aside0 (((w57.setCell ⟨gb216, 0, none⟩ (.int .i64 t212)).setCell ⟨gb216, 1, none⟩ (.slice Ao62 t213.length co62)).heap[gb196]? = some (.cells #[.int .i64 a0_0, .slice A0_1 l0_1.length c0_1] 30 (0, 0))) := ⟨by (with_reducible repeat (first | refine blk_drewN ?_ _ | refine blk_drew ?_ | refine blk_alloc ?_ _)); refine blk_far ?_ NB196_216.out _; (with_reducible repeat (first | refine blk_drewN ?_ _ | refine blk_drew ?_ | refine blk_alloc ?_ _)); refine blk_far ?_ NB196_216.out _; (with_reducible repeat (first | refine blk_drewN ?_ _ | refine blk_drew ?_ | refine blk_alloc ?_ _)); exact BK196.out⟩
             have n4_ : Aside0 (((w57.setCell ⟨gb216, 0, none⟩ (.int .i64 t212)).setCell ⟨gb216, 1, none⟩ (.slice Ao62 t213.length co62)).heap[gb197]? = some (.cells #[.int .i64 a1_0, .int .i64 a1_1, .int .i64 a1_2] 23 (0, 0))) := ⟨by (with_reducible repeat (first | refine blk_drewN ?_ _ | refine blk_drew ?_ | refine blk_alloc ?_ _)); refine blk_far ?_ NB197_216.out _; (with_reducible repeat (first | refine blk_drewN ?_ _ | refine blk_drew ?_ | refine blk_alloc ?_ _)); refine blk_far ?_ NB197_216.out _; (with_reducible repeat (first | refine blk_drewN ?_ _ | refine blk_drew ?_ | refine blk_alloc ?_ _)); exact BK197.out⟩
             have n5_ : Aside0 (((w57.setCell ⟨gb216, 0, none⟩ (.int .i64 t212)).setCell ⟨gb216, 1, none⟩ (.slice Ao62 t213.length co62)).heap[gb211]? = some (.cells #[.int .i64 t206, .slice Ao52 t207.length co52] 35 (0, 0))) := ⟨by (with_reducible repeat (first | refine blk_drewN ?_ _ | refine blk_drew ?_ | refine blk_alloc ?_ _)); refine blk_far ?_ NB211_216.out _; (with_reducible repeat (first | refine blk_drewN ?_ _ | refine blk_drew ?_ | refine blk_alloc ?_ _)); refine blk_far ?_ NB211_216.out _; (with_reducible repeat (first | refine blk_drewN ?_ _ | refine blk_drew ?_ | refine blk_alloc ?_ _)); exact BK211.out⟩
             have n6_ : Aside0 (((w57.setCell ⟨gb216, 0, none⟩ (.int .i64 t212)).setCell ⟨gb216, 1, none⟩ (.slice Ao62 t213.length co62)).heap[gb216]? = some (.cells #[.int .i64 t212, .slice Ao62 t213.length co62] 35 (0, 0))) := ⟨by (with_reducible repeat (first | refine blk_drewN ?_ _ | refine blk_drew ?_ | refine blk_alloc ?_ _)); refine blk_put (cs := #[.int .i64 t212, .slice none 0 0]) ?_ 1 _ rfl; (with_reducible repeat (first | refine blk_drewN ?_ _ | refine blk_drew ?_ | refine blk_alloc ?_ _)); refine blk_put (cs := #[.int .i64 0, .slice none 0 0]) ?_ 0 _ rfl; (with_reducible repeat (first | refine blk_drewN ?_ _ | refine blk_drew ?_ | refine blk_alloc ?_ _)); exact BK216.out⟩
             have n7_ : Aside0 (Below w.heap.size w ((w57.setCell ⟨gb216, 0, none⟩ (.int .i64 t212)).setCell ⟨gb216, 1, none⟩ (.slice Ao62 t213.length co62))) := ⟨hB⟩
             (try clear HO202)
             (try clear HO209)
             (try clear HO215)
             (try clear BK196)
             (try clear BK197)
             (try clear BK211)
             (try clear BK216)
             (try clear HB)
             generalize ((w57.setCell ⟨gb216, 0, none⟩ (.int .i64 t212)).setCell ⟨gb216, 1, none⟩ (.slice Ao62 t213.length co62)) = w63 at n0_ n1_ n2_ n3_ n4_ n5_ n6_ n7_ ⊢
             have HO202 := n0_
             have HO209 := n1_
             have HO215 := n2_
             have BK196 := n3_
             have BK197 := n4_
             have BK211 := n5_
             have BK216 := n6_
             have HB := n7_
             clear n0_ n1_ n2_ n3_ n4_ n5_ n6_ n7_
             have n0_ := Aside0.mk (Kd.R_drew HO202.out)
             have n1_ := Aside0.mk (Kd.R_drew HO209.out)
             have n2_ := Aside0.mk (Kd.R_drew HO215.out)
             have n3_ := Aside0.mk (blk_drew BK196.out)
             have n4_ := Aside0.mk (blk_drew BK197.out)
             have n5_ := Aside0.mk (blk_drew BK211.out)
             have n6_ := Aside0.mk (blk_drew BK216.out)
             have n7_ := Aside0.mk (below_drew1 HB.out)
             clear HO202
             clear HO209
             clear HO215
             clear BK196
             clear BK197
             clear BK211
             clear BK216
             clear HB
             have HO202 := n0_
             have HO209 := n1_
             have HO215 := n2_
             have BK196 := n3_
             have BK197 := n4_
             have BK211 := n5_
             have BK216 := n6_
             have HB := n7_
             clear n0_ n1_ n2_ n3_ n4_ n5_ n6_ n7_
             refine start_ (n := 10) (S := fun w' => w'.cell? ⟨gb216, 0, none⟩ = some (.int .i64 t212) ∧ w'.cell? ⟨gb216, 1, none⟩ = some (.slice Ao62 t213.length co62) ∧ w'.cell? ⟨gb197, 0, none⟩ = some (.int .i64 a1_0) ∧ w'.cell? ⟨gb197, 1, none⟩ = some (.int .i64 a1_1) ∧ w'.cell? ⟨gb197, 2, none⟩ = some (.int .i64 a1_2)) (ds := []) (bz 10 0) (by kernel_rfl) rfl rfl ⟨(blk_cell BK216.out 0).trans rfl, (blk_cell BK216.out 1).trans rfl, (blk_cell BK197.out 0).trans rfl, (blk_cell BK197.out 1).trans rfl, (blk_cell BK197.out 2).trans rfl⟩ (fun hHeld => ?_); refine with_tabW laws_FnExactAddClue.tab7 laws_FnExactAddClue.bits7 (fun HT_ HW_ => ?_)
             generalize w63.drew = w64 at HO202 HO209 HO215 BK196 BK197 BK211 BK216 HB hHeld ⊢
             refine run_ [(1, 0, 1, some 32), (1, 1, 3, some 33)] ?_
             repeat ((apply tag1; refine run_t (v := ?_) (a' := ?_) rfl rfl (take_ofW HT_.out HW_.out (by kernel_rfl)) (fun _ _ _ h => h) (by rfl) ?_ hHeld ?_ ?_; rotate_left 2; (rintro w' ⟨s0, s1, s2, s3, s4⟩; go_simp; with_reducible rfl); (first | (simp only [Act.put, List.setIfInBounds_toArray, List.set_cons_zero, List.set_cons_succ, i64_w, i32_w]; rfl) | rfl)))
             refine run_nil ?_
             refine join_ (σ := Value × Nat) 2 (bz 10 255) (fun s_ => [(34, .agg #[.int .i64 t217, .int .i64 t218, .int .i64 t219]), (35, .tuple #[.agg #[.int .i64 t220, s_.1], .bool t224]), (9, .pointer (some ⟨s_.2, 0, none⟩)), (31, .tuple #[.agg #[.int .i64 t220, s_.1], .bool t224]), (36, .agg #[.int .i64 t220, s_.1]), (37, .bool t224)]) (fun s_ w' => (w'.cell? ⟨gb216, 0, none⟩ = some (.int .i64 t212) ∧ w'.cell? ⟨gb216, 1, none⟩ = some (.slice Ao62 t213.length co62) ∧ w'.cell? ⟨gb197, 0, none⟩ = some (.int .i64 a1_0) ∧ w'.cell? ⟨gb197, 1, none⟩ = some (.int .i64 a1_1) ∧ w'.cell? ⟨gb197, 2, none⟩ = some (.int .i64 a1_2)) ∧ (Kd.R k25 25 w' w.heap.size (fun k_ => some k_ ≠ (.slice Ao52 t207.length co52 : Value).ownBlock ∧ some k_ ≠ (.slice Ao62 t213.length co62 : Value).ownBlock ∧ some k_ ≠ (s_.1 : Value).ownBlock) v201 t200) ∧ (Kd.R k25 25 w' w.heap.size (fun k_ => some k_ ≠ (v201 : Value).ownBlock ∧ some k_ ≠ (.slice Ao62 t213.length co62 : Value).ownBlock ∧ some k_ ≠ (s_.1 : Value).ownBlock) (.slice Ao52 t207.length co52) t207) ∧ (Kd.R k25 25 w' w.heap.size (fun k_ => some k_ ≠ (v201 : Value).ownBlock ∧ some k_ ≠ (.slice Ao52 t207.length co52 : Value).ownBlock ∧ some k_ ≠ (s_.1 : Value).ownBlock) (.slice Ao62 t213.length co62) t213) ∧ (Kd.R k25 25 w' w.heap.size (fun k_ => some k_ ≠ (v201 : Value).ownBlock ∧ some k_ ≠ (.slice Ao52 t207.length co52 : Value).ownBlock ∧ some k_ ≠ (.slice Ao62 t213.length co62 : Value).ownBlock) s_.1 t221) ∧ (w'.heap[gb196]? = some (.cells #[.int .i64 a0_0, .slice A0_1 l0_1.length c0_1] 30 (0, 0))) ∧ (w'.heap[gb197]? = some (.cells #[.int .i64 a1_0, .int .i64 a1_1, .int .i64 a1_2] 23 (0, 0))) ∧ (w'.heap[gb211]? = some (.cells #[.int .i64 t206, .slice Ao52 t207.length co52] 35 (0, 0))) ∧ (w'.heap[gb216]? = some (.cells #[.int .i64 t212, .slice Ao62 t213.length co62] 35 (0, 0))) ∧ (w'.heap[s_.2]? = some (.cells #[.int .i64 0, .slice none 0 0] 35 (0, 0))) ∧ (w.heap.size ≤ s_.2) ∧ (w.heap.size ≤ s_.2) ∧ (gb196 ≠ s_.2) ∧ (s_.2 ≠ gb196) ∧ (gb197 ≠ s_.2) ∧ (s_.2 ≠ gb197) ∧ (gb211 ≠ s_.2) ∧ (s_.2 ≠ gb211) ∧ (gb216 ≠ s_.2) ∧ (s_.2 ≠ gb216) ∧ (Below w.heap.size w w')) ?_ ?_
             rotate_left
             ·intro hCont
              refine two_ (i := 2) (j := 7) (Ni := some 34) (Nj := some 9) (bz 10 7) (bz 10 131) rfl rfl rfl rfl (two_of HT_.out (by kernel_rfl)) (by decide) (by decide) (fun K hK => ?_) (fun K hK => ?_)
              ·skip
               refine goes_ Try.func8 (by kernel_rfl) rfl #[.agg #[.int .i64 a1_0, .int .i64 a1_1, .int .i64 a1_2]] (by rfl) rfl rfl mapT ?_
               with_reducible refine (laws_toClue.calls a1_0 a1_1 a1_2 t217 t218 t219 _ A14.out).mono ?_
               rintro e w65 ⟨rfl, hb⟩
               refine ⟨_, rfl, ?_⟩
               have n0_ := Aside0.mk (Kd.R_below (by (with_reducible repeat (first | apply Kd.R_alloc | apply Kd.R_drewN | apply Kd.R_drew)); exact HO202.out) hb)
               have n1_ := Aside0.mk (Kd.R_below (by (with_reducible repeat (first | apply Kd.R_alloc | apply Kd.R_drewN | apply Kd.R_drew)); exact HO209.out) hb)
               have n2_ := Aside0.mk (Kd.R_below (by (with_reducible repeat (first | apply Kd.R_alloc | apply Kd.R_drewN | apply Kd.R_drew)); exact HO215.out) hb)
               have n3_ := bS BK196 hb
               have n4_ := bS BK197 hb
               have n5_ := bS BK211 hb
               have n6_ := bS BK216 hb
               have n7_ := hS HB hb
               clear HO202
               clear HO209
               clear HO215
               clear BK196
               clear BK197
               clear BK211
               clear BK216
               clear HB
               have HO202 := n0_
               have HO209 := n1_
               have HO215 := n2_
               have BK196 := n3_
               have BK197 := n4_
               have BK211 := n5_
               have BK216 := n6_
               have HB := n7_
               clear n0_ n1_ n2_ n3_ n4_ n5_ n6_ n7_
               (try clear hb)
               (try clear hb2)
               (try clear hk)
               (try clear hi)
               refine hK.out _ _ ⟨(blk_cell BK216.out 0).trans rfl, (blk_cell BK216.out 1).trans rfl, (blk_cell BK197.out 0).trans rfl, (blk_cell BK197.out 1).trans rfl, (blk_cell BK197.out 2).trans rfl⟩ (fun hHeld => ?_)
               clear hK K
               refine norm_ (a' := ?_) ?_ ?_
               rotate_left
               ·show Act.put _ (some 34) _ = _
                simp only [Act.put, List.setIfInBounds_toArray, List.set_cons_zero, List.set_cons_succ, i64_w, i32_w]
                rfl
               refine two_ (i := 3) (j := 7) (Ni := some 35) (Nj := some 9) (bz 10 15) (bz 10 135) rfl rfl rfl rfl (two_of HT_.out (by kernel_rfl)) (by decide) (by decide) (fun K hK => ?_) (fun K hK => ?_)
               ·skip
                refine goes_ Try.func21 (by kernel_rfl) rfl #[.agg #[.int .i64 t212, .slice Ao62 t213.length co62], .agg #[.int .i64 t217, .int .i64 t218, .int .i64 t219]] (by rfl) rfl rfl mapT ?_
                with_reducible refine (impl_AddClue.calls k t212 _ _ t213 t217 t218 t219 t220 t221 t224 _ ?side1 ?side2 A15.out).mono ?_
                (case side1 => repeat (first | exact (Kd.R_reads' HO215.out).2.2 | (with_reducible refine Kd.C_alloc ?_ _) | (with_reducible refine Kd.C_drewN ?_ _) | (with_reducible refine Kd.C_drew ?_)))
                (case side2 => exact (Kd.R_reads' HO215.out).2.1)
                rintro e w66 ⟨v222, rfl, ho0, hb⟩
                refine ⟨_, rfl, ?_⟩
                have n0_ := Aside0.mk (Kd.R_elder' (by (with_reducible repeat (first | apply Kd.R_alloc | apply Kd.R_drewN | apply Kd.R_drew)); exact HO202.out) (Kd.R_base ho0) hb)
                have n1_ := Aside0.mk (Kd.R_elder' (by (with_reducible repeat (first | apply Kd.R_alloc | apply Kd.R_drewN | apply Kd.R_drew)); exact HO209.out) (Kd.R_base ho0) hb)
                have n2_ := Aside0.mk (Kd.R_elder' (by (with_reducible repeat (first | apply Kd.R_alloc | apply Kd.R_drewN | apply Kd.R_drew)); exact HO215.out) (Kd.R_base ho0) hb)
                have n3_ := Aside0.mk (Kd.R_lower (Kd.R_new' (Kd.R_new' (Kd.R_new' ho0 (Kd.R_lt (by (with_reducible repeat (first | apply Kd.R_alloc | apply Kd.R_drewN | apply Kd.R_drew)); exact HO202.out))) (Kd.R_lt (by (with_reducible repeat (first | apply Kd.R_alloc | apply Kd.R_drewN | apply Kd.R_drew)); exact HO209.out))) (Kd.R_lt (by (with_reducible repeat (first | apply Kd.R_alloc | apply Kd.R_drewN | apply Kd.R_drew)); exact HO215.out))) (below_size hB))
                have n4_ := bS BK196 hb
                have n5_ := bS BK197 hb
                have n6_ := bS BK211 hb
                have n7_ := bS BK216 hb
                have n8_ := hS HB hb
                clear HO202
                clear HO209
                clear HO215
                clear BK196
                clear BK197
                clear BK211
                clear BK216
                clear HB
                have HO202 := n0_
                have HO209 := n1_
                have HO215 := n2_
                have HO223 := n3_
                have BK196 := n4_
                have BK197 := n5_
                have BK211 := n6_
                have BK216 := n7_
                have HB := n8_
                clear n0_ n1_ n2_ n3_ n4_ n5_ n6_ n7_ n8_
                (try clear hb)
                (try clear hb2)
                (try clear hk)
                (try clear hi)
                (try clear ho0)
                refine hK.out _ _ ⟨(blk_cell BK216.out 0).trans rfl, (blk_cell BK216.out 1).trans rfl, (blk_cell BK197.out 0).trans rfl, (blk_cell BK197.out 1).trans rfl, (blk_cell BK197.out 2).trans rfl⟩ (fun hHeld => ?_)
                clear hK K
                refine norm_ (a' := ?_) ?_ ?_
                rotate_left
                ·show Act.put _ (some 35) _ = _
                 simp only [Act.put, List.setIfInBounds_toArray, List.set_cons_zero, List.set_cons_succ, i64_w, i32_w]
                 rfl
                refine run_ [(0, 4, 31, some 31), (0, 5, 63, some 36), (0, 6, 127, some 37)] ?_
                repeat ((apply tag0; refine run_p (v := ?_) (a' := ?_) rfl rfl (any_of HT_.out (by kernel_rfl)) (fun _ _ _ h => h) (by rfl) ?_ ?_ ?_; rotate_left 2; (intro w'; go_simp; with_reducible rfl); (first | (simp only [Act.put, List.setIfInBounds_toArray, List.set_cons_zero, List.set_cons_succ, i64_w, i32_w]; rfl) | rfl)))
                refine run_nil ?_
                refine one_ (i := 7) (N := some 9) (bz 10 255) rfl rfl (one_of HT_.out (by kernel_rfl)) (by decide) (fun K hK => ?_)
                refine box_step ?hg (N := 9) ?hd (cs := #[.int .i64 0, .slice none 0 0]) (t := 35) ?hr ?_; (case hd => rfl); (case hg => rfl); (case hr => first | (go_simp; done) | (go_simp; rfl))
                intro gb225 hg w67 hbox hb
                have n0_ := Aside0.mk (Kd.R_below (by (with_reducible repeat (first | apply Kd.R_alloc | apply Kd.R_drewN | apply Kd.R_drew)); exact HO202.out) hb)
                have n1_ := Aside0.mk (Kd.R_below (by (with_reducible repeat (first | apply Kd.R_alloc | apply Kd.R_drewN | apply Kd.R_drew)); exact HO209.out) hb)
                have n2_ := Aside0.mk (Kd.R_below (by (with_reducible repeat (first | apply Kd.R_alloc | apply Kd.R_drewN | apply Kd.R_drew)); exact HO215.out) hb)
                have n3_ := Aside0.mk (Kd.R_below (by (with_reducible repeat (first | apply Kd.R_alloc | apply Kd.R_drewN | apply Kd.R_drew)); exact HO223.out) hb)
                have n4_ := bS BK196 hb
                have n5_ := bS BK197 hb
                have n6_ := bS BK211 hb
                have n7_ := bS BK216 hb
                have n8_ := hS HB hb
                have n9_ := Aside0.mk (hbox)
                have n10_ := gS HB hg
                have n11_ := gS HB hg
                have n12_ := nL BK196 hg
                have n13_ := nG BK196 hg
                have n14_ := nL BK197 hg
                have n15_ := nG BK197 hg
                have n16_ := nL BK211 hg
                have n17_ := nG BK211 hg
                have n18_ := nL BK216 hg
                have n19_ := nG BK216 hg
                clear HO202
                clear HO209
                clear HO215
                clear HO223
                clear BK196
                clear BK197
                clear BK211
                clear BK216
                clear HB
                have HO202 := n0_
                have HO209 := n1_
                have HO215 := n2_
                have HO223 := n3_
                have BK196 := n4_
                have BK197 := n5_
                have BK211 := n6_
                have BK216 := n7_
                have HB := n8_
                have BK225 := n9_
                have GW225 := n10_
                have GE225 := n11_
                have NB196_225 := n12_
                have NB225_196 := n13_
                have NB197_225 := n14_
                have NB225_197 := n15_
                have NB211_225 := n16_
                have NB225_211 := n17_
                have NB216_225 := n18_
                have NB225_216 := n19_
                clear n0_ n1_ n2_ n3_ n4_ n5_ n6_ n7_ n8_ n9_ n10_ n11_ n12_ n13_ n14_ n15_ n16_ n17_ n18_ n19_
                clear hb hbox hg
                refine hK.out _ _ ⟨(blk_cell BK216.out 0).trans rfl, (blk_cell BK216.out 1).trans rfl, (blk_cell BK197.out 0).trans rfl, (blk_cell BK197.out 1).trans rfl, (blk_cell BK197.out 2).trans rfl⟩ (fun hHeld => ?_)
                clear hK K
                refine norm_ (a' := ?_) ?_ ?_
                rotate_left
                ·show Act.put _ (some 9) _ = _
                 simp only [Act.put, List.setIfInBounds_toArray, List.set_cons_zero, List.set_cons_succ, i64_w, i32_w]
                 rfl
                exact norm_ (by simp only [putAll, Act.put, List.setIfInBounds_toArray, List.set_cons_zero, List.set_cons_succ]) (hCont (v222, gb225) _ ⟨hHeld, (by (with_reducible repeat (first | apply Kd.R_alloc | apply Kd.R_drewN | apply Kd.R_drew)); exact Kd.R_mono HO202.out (fun _ hk => ⟨hk.1.1, ⟨hk.1.2, hk.2⟩⟩)), (by (with_reducible repeat (first | apply Kd.R_alloc | apply Kd.R_drewN | apply Kd.R_drew)); exact Kd.R_mono HO209.out (fun _ hk => ⟨hk.1.1, ⟨hk.1.2, hk.2⟩⟩)), (by (with_reducible repeat (first | apply Kd.R_alloc | apply Kd.R_drewN | apply Kd.R_drew)); exact Kd.R_mono HO215.out (fun _ hk => ⟨hk.1.1, ⟨hk.1.2, hk.2⟩⟩)), (by (with_reducible repeat (first | apply Kd.R_alloc | apply Kd.R_drewN | apply Kd.R_drew)); exact Kd.R_mono HO223.out (fun _ hk => ⟨hk.1.1.2, ⟨hk.1.2, hk.2⟩⟩)), bK, bK, bK, bK, bK, GW225.out, GE225.out, NB196_225.out, NB225_196.out, NB197_225.out, NB225_197.out, NB211_225.out, NB225_211.out, NB216_225.out, NB225_216.out, hB⟩)
               ·skip
                refine box_step ?hg (N := 9) ?hd (cs := #[.int .i64 0, .slice none 0 0]) (t := 35) ?hr ?_; (case hd => rfl); (case hg => rfl); (case hr => first | (go_simp; done) | (go_simp; rfl))
                intro gb225 hg w66 hbox hb
                have n0_ := Aside0.mk (Kd.R_below (by (with_reducible repeat (first | apply Kd.R_alloc | apply Kd.R_drewN | apply Kd.R_drew)); exact HO202.out) hb)
                have n1_ := Aside0.mk (Kd.R_below (by (with_reducible repeat (first | apply Kd.R_alloc | apply Kd.R_drewN | apply Kd.R_drew)); exact HO209.out) hb)
                have n2_ := Aside0.mk (Kd.R_below (by (with_reducible repeat (first | apply Kd.R_alloc | apply Kd.R_drewN | apply Kd.R_drew)); exact HO215.out) hb)
                have n3_ := bS BK196 hb
                have n4_ := bS BK197 hb
                have n5_ := bS BK211 hb
                have n6_ := bS BK216 hb
                have n7_ := hS HB hb
                have n8_ := Aside0.mk (hbox)
                have n9_ := gS HB hg
                have n10_ := gS HB hg
                have n11_ := nL BK196 hg
                have n12_ := nG BK196 hg
                have n13_ := nL BK197 hg
                have n14_ := nG BK197 hg
                have n15_ := nL BK211 hg
                have n16_ := nG BK211 hg
                have n17_ := nL BK216 hg
                have n18_ := nG BK216 hg
                clear HO202
                clear HO209
                clear HO215
                clear BK196
                clear BK197
                clear BK211
                clear BK216
                clear HB
                have HO202 := n0_
                have HO209 := n1_
                have HO215 := n2_
                have BK196 := n3_
                have BK197 := n4_
                have BK211 := n5_
                have BK216 := n6_
                have HB := n7_
                have BK225 := n8_
                have GW225 := n9_
                have GE225 := n10_
                have NB196_225 := n11_
                have NB225_196 := n12_
                have NB197_225 := n13_
                have NB225_197 := n14_
                have NB211_225 := n15_
                have NB225_211 := n16_
                have NB216_225 := n17_
                have NB225_216 := n18_
                clear n0_ n1_ n2_ n3_ n4_ n5_ n6_ n7_ n8_ n9_ n10_ n11_ n12_ n13_ n14_ n15_ n16_ n17_ n18_
                clear hb hbox hg
                refine hK.out _ _ ⟨(blk_cell BK216.out 0).trans rfl, (blk_cell BK216.out 1).trans rfl, (blk_cell BK197.out 0).trans rfl, (blk_cell BK197.out 1).trans rfl, (blk_cell BK197.out 2).trans rfl⟩ (fun hHeld => ?_)
                clear hK K
                refine norm_ (a' := ?_) ?_ ?_
                rotate_left
                ·show Act.put _ (some 9) _ = _
                 simp only [Act.put, List.setIfInBounds_toArray, List.set_cons_zero, List.set_cons_succ, i64_w, i32_w]
                 rfl
                refine one_ (i := 3) (N := some 35) (bz 10 143) rfl rfl (one_of HT_.out (by kernel_rfl)) (by decide) (fun K hK => ?_)
                refine goes_ Try.func21 (by kernel_rfl) rfl #[.agg #[.int .i64 t212, .slice Ao62 t213.length co62], .agg #[.int .i64 t217, .int .i64 t218, .int .i64 t219]] (by rfl) rfl rfl mapT ?_
                with_reducible refine (impl_AddClue.calls k t212 _ _ t213 t217 t218 t219 t220 t221 t224 _ ?side1 ?side2 A15.out).mono ?_
                (case side1 => repeat (first | exact (Kd.R_reads' HO215.out).2.2 | (with_reducible refine Kd.C_alloc ?_ _) | (with_reducible refine Kd.C_drewN ?_ _) | (with_reducible refine Kd.C_drew ?_)))
                (case side2 => exact (Kd.R_reads' HO215.out).2.1)
                rintro e w67 ⟨v222, rfl, ho0, hb⟩
                refine ⟨_, rfl, ?_⟩
                have n0_ := Aside0.mk (Kd.R_elder' (by (with_reducible repeat (first | apply Kd.R_alloc | apply Kd.R_drewN | apply Kd.R_drew)); exact HO202.out) (Kd.R_base ho0) hb)
                have n1_ := Aside0.mk (Kd.R_elder' (by (with_reducible repeat (first | apply Kd.R_alloc | apply Kd.R_drewN | apply Kd.R_drew)); exact HO209.out) (Kd.R_base ho0) hb)
                have n2_ := Aside0.mk (Kd.R_elder' (by (with_reducible repeat (first | apply Kd.R_alloc | apply Kd.R_drewN | apply Kd.R_drew)); exact HO215.out) (Kd.R_base ho0) hb)
                have n3_ := Aside0.mk (Kd.R_lower (Kd.R_new' (Kd.R_new' (Kd.R_new' ho0 (Kd.R_lt (by (with_reducible repeat (first | apply Kd.R_alloc | apply Kd.R_drewN | apply Kd.R_drew)); exact HO202.out))) (Kd.R_lt (by (with_reducible repeat (first | apply Kd.R_alloc | apply Kd.R_drewN | apply Kd.R_drew)); exact HO209.out))) (Kd.R_lt (by (with_reducible repeat (first | apply Kd.R_alloc | apply Kd.R_drewN | apply Kd.R_drew)); exact HO215.out))) (below_size hB))
                have n4_ := bS BK196 hb
                have n5_ := bS BK197 hb
                have n6_ := bS BK211 hb
                have n7_ := bS BK216 hb
                have n8_ := bS BK225 hb
                have n9_ := hS HB hb
                clear HO202
                clear HO209
                clear HO215
                clear BK196
                clear BK197
                clear BK211
                clear BK216
                clear BK225
                clear HB
                have HO202 := n0_
                have HO209 := n1_
                have HO215 := n2_
                have HO223 := n3_
                have BK196 := n4_
                have BK197 := n5_
                have BK211 := n6_
                have BK216 := n7_
                have BK225 := n8_
                have HB := n9_
                clear n0_ n1_ n2_ n3_ n4_ n5_ n6_ n7_ n8_ n9_
                (try clear hb)
                (try clear hb2)
                (try clear hk)
                (try clear hi)
                (try clear ho0)
                refine hK.out _ _ ⟨(blk_cell BK216.out 0).trans rfl, (blk_cell BK216.out 1).trans rfl, (blk_cell BK197.out 0).trans rfl, (blk_cell BK197.out 1).trans rfl, (blk_cell BK197.out 2).trans rfl⟩ (fun hHeld => ?_)
                clear hK K
                refine norm_ (a' := ?_) ?_ ?_
                rotate_left
                ·show Act.put _ (some 35) _ = _
                 simp only [Act.put, List.setIfInBounds_toArray, List.set_cons_zero, List.set_cons_succ, i64_w, i32_w]
                 rfl
                refine run_ [(0, 4, 159, some 31), (0, 5, 191, some 36), (0, 6, 255, some 37)] ?_
                repeat ((apply tag0; refine run_p (v := ?_) (a' := ?_) rfl rfl (any_of HT_.out (by kernel_rfl)) (fun _ _ _ h => h) (by rfl) ?_ ?_ ?_; rotate_left 2; (intro w'; go_simp; with_reducible rfl); (first | (simp only [Act.put, List.setIfInBounds_toArray, List.set_cons_zero, List.set_cons_succ, i64_w, i32_w]; rfl) | rfl)))
                refine run_nil ?_
                exact norm_ (by simp only [putAll, Act.put, List.setIfInBounds_toArray, List.set_cons_zero, List.set_cons_succ]) (hCont (v222, gb225) _ ⟨hHeld, (by (with_reducible repeat (first | apply Kd.R_alloc | apply Kd.R_drewN | apply Kd.R_drew)); exact Kd.R_mono HO202.out (fun _ hk => ⟨hk.1.1, ⟨hk.1.2, hk.2⟩⟩)), (by (with_reducible repeat (first | apply Kd.R_alloc | apply Kd.R_drewN | apply Kd.R_drew)); exact Kd.R_mono HO209.out (fun _ hk => ⟨hk.1.1, ⟨hk.1.2, hk.2⟩⟩)), (by (with_reducible repeat (first | apply Kd.R_alloc | apply Kd.R_drewN | apply Kd.R_drew)); exact Kd.R_mono HO215.out (fun _ hk => ⟨hk.1.1, ⟨hk.1.2, hk.2⟩⟩)), (by (with_reducible repeat (first | apply Kd.R_alloc | apply Kd.R_drewN | apply Kd.R_drew)); exact Kd.R_mono HO223.out (fun _ hk => ⟨hk.1.1.2, ⟨hk.1.2, hk.2⟩⟩)), bK, bK, bK, bK, bK, GW225.out, GE225.out, NB196_225.out, NB225_196.out, NB197_225.out, NB225_197.out, NB211_225.out, NB225_211.out, NB216_225.out, NB225_216.out, hB⟩)
              ·skip
               refine box_step ?hg (N := 9) ?hd (cs := #[.int .i64 0, .slice none 0 0]) (t := 35) ?hr ?_; (case hd => rfl); (case hg => rfl); (case hr => first | (go_simp; done) | (go_simp; rfl))
               intro gb225 hg w65 hbox hb
               have n0_ := Aside0.mk (Kd.R_below (by (with_reducible repeat (first | apply Kd.R_alloc | apply Kd.R_drewN | apply Kd.R_drew)); exact HO202.out) hb)
               have n1_ := Aside0.mk (Kd.R_below (by (with_reducible repeat (first | apply Kd.R_alloc | apply Kd.R_drewN | apply Kd.R_drew)); exact HO209.out) hb)
               have n2_ := Aside0.mk (Kd.R_below (by (with_reducible repeat (first | apply Kd.R_alloc | apply Kd.R_drewN | apply Kd.R_drew)); exact HO215.out) hb)
               have n3_ := bS BK196 hb
               have n4_ := bS BK197 hb
               have n5_ := bS BK211 hb
               have n6_ := bS BK216 hb
               have n7_ := hS HB hb
               have n8_ := Aside0.mk (hbox)
               have n9_ := gS HB hg
               have n10_ := gS HB hg
               have n11_ := nL BK196 hg
               have n12_ := nG BK196 hg
               have n13_ := nL BK197 hg
               have n14_ := nG BK197 hg
               have n15_ := nL BK211 hg
               have n16_ := nG BK211 hg
               have n17_ := nL BK216 hg
               have n18_ := nG BK216 hg
               clear HO202
               clear HO209
               clear HO215
               clear BK196
               clear BK197
               clear BK211
               clear BK216
               clear HB
               have HO202 := n0_
               have HO209 := n1_
               have HO215 := n2_
               have BK196 := n3_
               have BK197 := n4_
               have BK211 := n5_
               have BK216 := n6_
               have HB := n7_
               have BK225 := n8_
               have GW225 := n9_
               have GE225 := n10_
               have NB196_225 := n11_
               have NB225_196 := n12_
               have NB197_225 := n13_
               have NB225_197 := n14_
               have NB211_225 := n15_
               have NB225_211 := n16_
               have NB216_225 := n17_
               have NB225_216 := n18_
               clear n0_ n1_ n2_ n3_ n4_ n5_ n6_ n7_ n8_ n9_ n10_ n11_ n12_ n13_ n14_ n15_ n16_ n17_ n18_
               clear hb hbox hg
               refine hK.out _ _ ⟨(blk_cell BK216.out 0).trans rfl, (blk_cell BK216.out 1).trans rfl, (blk_cell BK197.out 0).trans rfl, (blk_cell BK197.out 1).trans rfl, (blk_cell BK197.out 2).trans rfl⟩ (fun hHeld => ?_)
               clear hK K
               refine norm_ (a' := ?_) ?_ ?_
               rotate_left
               ·show Act.put _ (some 9) _ = _
                simp only [Act.put, List.setIfInBounds_toArray, List.set_cons_zero, List.set_cons_succ, i64_w, i32_w]
                rfl
               refine one_ (i := 2) (N := some 34) (bz 10 135) rfl rfl (one_of HT_.out (by kernel_rfl)) (by decide) (fun K hK => ?_)
               refine goes_ Try.func8 (by kernel_rfl) rfl #[.agg #[.int .i64 a1_0, .int .i64 a1_1, .int .i64 a1_2]] (by rfl) rfl rfl mapT ?_
               with_reducible refine (laws_toClue.calls a1_0 a1_1 a1_2 t217 t218 t219 _ A14.out).mono ?_
               rintro e w66 ⟨rfl, hb⟩
               refine ⟨_, rfl, ?_⟩
               have n0_ := Aside0.mk (Kd.R_below (by (with_reducible repeat (first | apply Kd.R_alloc | apply Kd.R_drewN | apply Kd.R_drew)); exact HO202.out) hb)
               have n1_ := Aside0.mk (Kd.R_below (by (with_reducible repeat (first | apply Kd.R_alloc | apply Kd.R_drewN | apply Kd.R_drew)); exact HO209.out) hb)
               have n2_ := Aside0.mk (Kd.R_below (by (with_reducible repeat (first | apply Kd.R_alloc | apply Kd.R_drewN | apply Kd.R_drew)); exact HO215.out) hb)
               have n3_ := bS BK196 hb
               have n4_ := bS BK197 hb
               have n5_ := bS BK211 hb
               have n6_ := bS BK216 hb
               have n7_ := bS BK225 hb
               have n8_ := hS HB hb
               clear HO202
               clear HO209
               clear HO215
               clear BK196
               clear BK197
               clear BK211
               clear BK216
               clear BK225
               clear HB
               have HO202 := n0_
               have HO209 := n1_
               have HO215 := n2_
               have BK196 := n3_
               have BK197 := n4_
               have BK211 := n5_
               have BK216 := n6_
               have BK225 := n7_
               have HB := n8_
               clear n0_ n1_ n2_ n3_ n4_ n5_ n6_ n7_ n8_
               (try clear hb)
               (try clear hb2)
               (try clear hk)
               (try clear hi)
               refine hK.out _ _ ⟨(blk_cell BK216.out 0).trans rfl, (blk_cell BK216.out 1).trans rfl, (blk_cell BK197.out 0).trans rfl, (blk_cell BK197.out 1).trans rfl, (blk_cell BK197.out 2).trans rfl⟩ (fun hHeld => ?_)
               clear hK K
               refine norm_ (a' := ?_) ?_ ?_
               rotate_left
               ·show Act.put _ (some 34) _ = _
                simp only [Act.put, List.setIfInBounds_toArray, List.set_cons_zero, List.set_cons_succ, i64_w, i32_w]
                rfl
               refine one_ (i := 3) (N := some 35) (bz 10 143) rfl rfl (one_of HT_.out (by kernel_rfl)) (by decide) (fun K hK => ?_)
               refine goes_ Try.func21 (by kernel_rfl) rfl #[.agg #[.int .i64 t212, .slice Ao62 t213.length co62], .agg #[.int .i64 t217, .int .i64 t218, .int .i64 t219]] (by rfl) rfl rfl mapT ?_
               with_reducible refine (impl_AddClue.calls k t212 _ _ t213 t217 t218 t219 t220 t221 t224 _ ?side1 ?side2 A15.out).mono ?_
               (case side1 => repeat (first | exact (Kd.R_reads' HO215.out).2.2 | (with_reducible refine Kd.C_alloc ?_ _) | (with_reducible refine Kd.C_drewN ?_ _) | (with_reducible refine Kd.C_drew ?_)))
               (case side2 => exact (Kd.R_reads' HO215.out).2.1)
               rintro e w67 ⟨v222, rfl, ho0, hb⟩
               refine ⟨_, rfl, ?_⟩
               have n0_ := Aside0.mk (Kd.R_elder' (by (with_reducible repeat (first | apply Kd.R_alloc | apply Kd.R_drewN | apply Kd.R_drew)); exact HO202.out) (Kd.R_base ho0) hb)
               have n1_ := Aside0.mk (Kd.R_elder' (by (with_reducible repeat (first | apply Kd.R_alloc | apply Kd.R_drewN | apply Kd.R_drew)); exact HO209.out) (Kd.R_base ho0) hb)
               have n2_ := Aside0.mk (Kd.R_elder' (by (with_reducible repeat (first | apply Kd.R_alloc | apply Kd.R_drewN | apply Kd.R_drew)); exact HO215.out) (Kd.R_base ho0) hb)
               have n3_ := Aside0.mk (Kd.R_lower (Kd.R_new' (Kd.R_new' (Kd.R_new' ho0 (Kd.R_lt (by (with_reducible repeat (first | apply Kd.R_alloc | apply Kd.R_drewN | apply Kd.R_drew)); exact HO202.out))) (Kd.R_lt (by (with_reducible repeat (first | apply Kd.R_alloc | apply Kd.R_drewN | apply Kd.R_drew)); exact HO209.out))) (Kd.R_lt (by (with_reducible repeat (first | apply Kd.R_alloc | apply Kd.R_drewN | apply Kd.R_drew)); exact HO215.out))) (below_size hB))
               have n4_ := bS BK196 hb
               have n5_ := bS BK197 hb
               have n6_ := bS BK211 hb
               have n7_ := bS BK216 hb
               have n8_ := bS BK225 hb
               have n9_ := hS HB hb
               clear HO202
               clear HO209
               clear HO215
               clear BK196
               clear BK197
               clear BK211
               clear BK216
               clear BK225
               clear HB
               have HO202 := n0_
               have HO209 := n1_
               have HO215 := n2_
               have HO223 := n3_
               have BK196 := n4_
               have BK197 := n5_
               have BK211 := n6_
               have BK216 := n7_
               have BK225 := n8_
               have HB := n9_
               clear n0_ n1_ n2_ n3_ n4_ n5_ n6_ n7_ n8_ n9_
               (try clear hb)
               (try clear hb2)
               (try clear hk)
               (try clear hi)
               (try clear ho0)
               refine hK.out _ _ ⟨(blk_cell BK216.out 0).trans rfl, (blk_cell BK216.out 1).trans rfl, (blk_cell BK197.out 0).trans rfl, (blk_cell BK197.out 1).trans rfl, (blk_cell BK197.out 2).trans rfl⟩ (fun hHeld => ?_)
               clear hK K
               refine norm_ (a' := ?_) ?_ ?_
               rotate_left
               ·show Act.put _ (some 35) _ = _
                simp only [Act.put, List.setIfInBounds_toArray, List.set_cons_zero, List.set_cons_succ, i64_w, i32_w]
                rfl
               refine run_ [(0, 4, 159, some 31), (0, 5, 191, some 36), (0, 6, 255, some 37)] ?_
               repeat ((apply tag0; refine run_p (v := ?_) (a' := ?_) rfl rfl (any_of HT_.out (by kernel_rfl)) (fun _ _ _ h => h) (by rfl) ?_ ?_ ?_; rotate_left 2; (intro w'; go_simp; with_reducible rfl); (first | (simp only [Act.put, List.setIfInBounds_toArray, List.set_cons_zero, List.set_cons_succ, i64_w, i32_w]; rfl) | rfl)))
               refine run_nil ?_
               exact norm_ (by simp only [putAll, Act.put, List.setIfInBounds_toArray, List.set_cons_zero, List.set_cons_succ]) (hCont (v222, gb225) _ ⟨hHeld, (by (with_reducible repeat (first | apply Kd.R_alloc | apply Kd.R_drewN | apply Kd.R_drew)); exact Kd.R_mono HO202.out (fun _ hk => ⟨hk.1.1, ⟨hk.1.2, hk.2⟩⟩)), (by (with_reducible repeat (first | apply Kd.R_alloc | apply Kd.R_drewN | apply Kd.R_drew)); exact Kd.R_mono HO209.out (fun _ hk => ⟨hk.1.1, ⟨hk.1.2, hk.2⟩⟩)), (by (with_reducible repeat (first | apply Kd.R_alloc | apply Kd.R_drewN | apply Kd.R_drew)); exact Kd.R_mono HO215.out (fun _ hk => ⟨hk.1.1, ⟨hk.1.2, hk.2⟩⟩)), (by (with_reducible repeat (first | apply Kd.R_alloc | apply Kd.R_drewN | apply Kd.R_drew)); exact Kd.R_mono HO223.out (fun _ hk => ⟨hk.1.1.2, ⟨hk.1.2, hk.2⟩⟩)), bK, bK, bK, bK, bK, GW225.out, GE225.out, NB196_225.out, NB225_196.out, NB197_225.out, NB225_197.out, NB211_225.out, NB225_211.out, NB216_225.out, NB225_216.out, hB⟩)
             rintro ⟨v222, gb225⟩ w68 ⟨hS_, h0_, h1_, h2_, h3_, h4_, h5_, h6_, h7_, h8_, h9_, h10_, h11_, h12_, h13_, h14_, h15_, h16_, h17_, h18_, h19_⟩
             have n0_ : Aside0 (Kd.R k25 25 w68 w.heap.size (fun k_ => some k_ ≠ (.slice Ao52 t207.length co52 : Value).ownBlock ∧ some k_ ≠ (.slice Ao62 t213.length co62 : Value).ownBlock ∧ some k_ ≠ (v222 : Value).ownBlock) v201 t200) := ⟨h0_⟩
             have n1_ : Aside0 (Kd.R k25 25 w68 w.heap.size (fun k_ => some k_ ≠ (v201 : Value).ownBlock ∧ some k_ ≠ (.slice Ao62 t213.length co62 : Value).ownBlock ∧ some k_ ≠ (v222 : Value).ownBlock) (.slice Ao52 t207.length co52) t207) := ⟨h1_⟩
             have n2_ : Aside0 (Kd.R k25 25 w68 w.heap.size (fun k_ => some k_ ≠ (v201 : Value).ownBlock ∧ some k_ ≠ (.slice Ao52 t207.length co52 : Value).ownBlock ∧ some k_ ≠ (v222 : Value).ownBlock) (.slice Ao62 t213.length co62) t213) := ⟨h2_⟩
             have n3_ : Aside0 (Kd.R k25 25 w68 w.heap.size (fun k_ => some k_ ≠ (v201 : Value).ownBlock ∧ some k_ ≠ (.slice Ao52 t207.length co52 : Value).ownBlock ∧ some k_ ≠ (.slice Ao62 t213.length co62 : Value).ownBlock) v222 t221) := ⟨h3_⟩
             have n4_ : Aside0 (w68.heap[gb196]? = some (.cells #[.int .i64 a0_0, .slice A0_1 l0_1.length c0_1] 30 (0, 0))) := ⟨h4_⟩
             have n5_ : Aside0 (w68.heap[gb197]? = some (.cells #[.int .i64 a1_0, .int .i64 a1_1, .int .i64 a1_2] 23 (0, 0))) := ⟨h5_⟩
             have n6_ : Aside0 (w68.heap[gb211]? = some (.cells #[.int .i64 t206, .slice Ao52 t207.length co52] 35 (0, 0))) := ⟨h6_⟩
             have n7_ : Aside0 (w68.heap[gb216]? = some (.cells #[.int .i64 t212, .slice Ao62 t213.length co62] 35 (0, 0))) := ⟨h7_⟩
             have n8_ : Aside0 (w68.heap[gb225]? = some (.cells #[.int .i64 0, .slice none 0 0] 35 (0, 0))) := ⟨h8_⟩
             have n9_ : Aside0 (w.heap.size ≤ gb225) := ⟨h9_⟩
             have n10_ : Aside0 (w.heap.size ≤ gb225) := ⟨h10_⟩
             have n11_ : Aside0 (gb196 ≠ gb225) := ⟨h11_⟩
             have n12_ : Aside0 (gb225 ≠ gb196) := ⟨h12_⟩
             have n13_ : Aside0 (gb197 ≠ gb225) := ⟨h13_⟩
             have n14_ : Aside0 (gb225 ≠ gb197) := ⟨h14_⟩
             have n15_ : Aside0 (gb211 ≠ gb225) := ⟨h15_⟩
             have n16_ : Aside0 (gb225 ≠ gb211) := ⟨h16_⟩
             have n17_ : Aside0 (gb216 ≠ gb225) := ⟨h17_⟩
             have n18_ : Aside0 (gb225 ≠ gb216) := ⟨h18_⟩
             have n19_ : Aside0 (Below w.heap.size w w68) := ⟨h19_⟩
             clear HO202
             clear HO209
             clear HO215
             clear BK196
             clear BK197
             clear BK211
             clear BK216
             clear HB
             clear h0_ h1_ h2_ h3_ h4_ h5_ h6_ h7_ h8_ h9_ h10_ h11_ h12_ h13_ h14_ h15_ h16_ h17_ h18_ h19_
             have HO202 := n0_
             have HO209 := n1_
             have HO215 := n2_
             have HO223 := n3_
             have BK196 := n4_
             have BK197 := n5_
             have BK211 := n6_
             have BK216 := n7_
             have BK225 := n8_
             have GW225 := n9_
             have GE225 := n10_
             have NB196_225 := n11_
             have NB225_196 := n12_
             have NB197_225 := n13_
             have NB225_197 := n14_
             have NB211_225 := n15_
             have NB225_211 := n16_
             have NB216_225 := n17_
             have NB225_216 := n18_
             have HB := n19_
             clear n0_ n1_ n2_ n3_ n4_ n5_ n6_ n7_ n8_ n9_ n10_ n11_ n12_ n13_ n14_ n15_ n16_ n17_ n18_ n19_
             have hHeld : w68.cell? ⟨gb216, 0, none⟩ = some (.int .i64 t212) ∧ w68.cell? ⟨gb216, 1, none⟩ = some (.slice Ao62 t213.length co62) ∧ w68.cell? ⟨gb197, 0, none⟩ = some (.int .i64 a1_0) ∧ w68.cell? ⟨gb197, 1, none⟩ = some (.int .i64 a1_1) ∧ w68.cell? ⟨gb197, 2, none⟩ = some (.int .i64 a1_2) := hS_
             obtain ⟨Ao70, co70, eo70⟩ := Kd.R_slice HO223.out
             (first | subst eo70 | (injection eo70 with f1_ f2_ f3_; have f4_ := f1_.symm; have f5_ := f3_.symm; clear f1_ f2_ f3_; subst f4_; subst f5_))
             refine norm_ (a' := ?_) ?_ ?_
             rotate_left
             ·simp only [putAll, Act.put, List.setIfInBounds_toArray, List.set_cons_zero, List.set_cons_succ]
              rfl
             refine one_ (i := 8) (N := none) (bz 10 511) rfl rfl (one_of HT_.out (by kernel_rfl)) (by decide) (fun K hK => ?_)
             have hs69 : w68.cell? ⟨gb225, 0, none⟩ = some (.int .i64 0) := (blk_cell BK225.out 0).trans rfl
             have hfs69 := blk_frozen BK225.out 0
             have hns69_0 := NB196_225.out
             have hns69_1 := NB197_225.out
             have hns69_2 := NB211_225.out
             have hns69_3 := NB216_225.out
             have hms69_0 := NB225_196.out
             have hms69_1 := NB225_197.out
             have hms69_2 := NB225_211.out
             have hms69_3 := NB225_216.out
             have hs71 : w68.cell? ⟨gb225, 1, none⟩ = some (.slice none 0 0) := (blk_cell BK225.out 1).trans rfl
             have hfs71 := blk_frozen BK225.out 1
             have hns71_0 := NB196_225.out
             have hns71_1 := NB197_225.out
             have hns71_2 := NB211_225.out
             have hns71_3 := NB216_225.out
             have hms71_0 := NB225_196.out
             have hms71_1 := NB225_197.out
             have hms71_2 := NB225_211.out
             have hms71_3 := NB225_216.out
             refine skip_ (w1 := ?_) (by rfl) rfl ?_ ?_
             rotate_left
             ·go_simp
              rfl
             refine hK.out _ _ ⟨((cell_far (p := ⟨gb225, _, none⟩) NB216_225.out _).trans (((cell_far (p := ⟨gb225, _, none⟩) NB216_225.out _).trans (hHeld.1)))), ((cell_far (p := ⟨gb225, _, none⟩) NB216_225.out _).trans (((cell_far (p := ⟨gb225, _, none⟩) NB216_225.out _).trans (hHeld.2.1)))), ((cell_far (p := ⟨gb225, _, none⟩) NB197_225.out _).trans (((cell_far (p := ⟨gb225, _, none⟩) NB197_225.out _).trans (hHeld.2.2.1)))), ((cell_far (p := ⟨gb225, _, none⟩) NB197_225.out _).trans (((cell_far (p := ⟨gb225, _, none⟩) NB197_225.out _).trans (hHeld.2.2.2.1)))), ((cell_far (p := ⟨gb225, _, none⟩) NB197_225.out _).trans (((cell_far (p := ⟨gb225, _, none⟩) NB197_225.out _).trans (hHeld.2.2.2.2))))⟩ (fun hHeld => ?_)
             clear hK K
             refine run_ [(0, 9, 1023, some 10)] ?_
             repeat ((apply tag0; refine run_p (v := ?_) (a' := ?_) rfl rfl (any_of HT_.out (by kernel_rfl)) (fun _ _ _ h => h) (by rfl) ?_ ?_ ?_; rotate_left 2; (intro w'; go_simp; with_reducible rfl); (first | (simp only [Act.put, List.setIfInBounds_toArray, List.set_cons_zero, List.set_cons_succ, i64_w, i32_w]; rfl) | rfl)))
             refine run_nil ?_
             refine done_ (done_of HT_.out (by kernel_rfl)) ?_
             have hnb72 := NB225_196.out
             have hnc72 := NB196_225.out
             have hnb73 := NB225_197.out
             have hnc73 := NB197_225.out
             have hnb74 := NB225_211.out
             have hnc74 := NB211_225.out
             have hnb75 := NB225_216.out
             have hnc75 := NB216_225.out
             have hcz76_0 : w68.cell? ⟨gb225, 0, none⟩ = some (.int .i64 0) := (blk_cell BK225.out 0).trans rfl
             have hcz76_1 : w68.cell? ⟨gb225, 1, none⟩ = some (.slice none 0 0) := (blk_cell BK225.out 1).trans rfl
             have hfz76_0 := blk_frozen BK225.out 0
             have hfz76_1 := blk_frozen BK225.out 1
             have hnb77 := NB211_197.out
             have hnc77 := NB197_211.out
             have hcz78_0 : w68.cell? ⟨gb211, 0, none⟩ = some (.int .i64 t206) := (blk_cell BK211.out 0).trans rfl
             have hcz78_1 : w68.cell? ⟨gb211, 1, none⟩ = some (.slice Ao52 t207.length co52) := (blk_cell BK211.out 1).trans rfl
             have hfz78_0 := blk_frozen BK211.out 0
             have hfz78_1 := blk_frozen BK211.out 1
             try go_wp2_with (first | ((with_reducible refine gate_callee (f := 14) rfl ?_); refine goesL_ (some 40) rfl rfl Try.func14 (by kernel_rfl) rfl #[.agg #[.int .i64 t220, .slice Ao70 t221.length co70], .agg #[.int .i64 t206, .slice Ao52 t207.length co52]] rfl mapT ?_; (with_reducible refine (laws_eqPuzzle.calls k t220 _ _ t221 t206 _ _ t207 true _ ?side1 ?side2 ?side3 ?side4 A16.out).mono ?_); (case side1 => refine (Kd.R_reads' (e := 25) (base := w.heap.size) (ok := fun k_ => (some k_ ≠ (v201 : Value).ownBlock ∧ (some k_ ≠ (.slice Ao52 t207.length co52 : Value).ownBlock ∧ some k_ ≠ (.slice Ao62 t213.length co62 : Value).ownBlock))) (n := t221.length) (c := co70) ?_).2.2; exact (by (with_reducible repeat (first | apply Kd.R_alloc | apply Kd.R_drewN | apply Kd.R_drew)); exact (Kd.R_mono (Kd.R_far (p := ⟨gb225, 1, none⟩) (Kd.R_far (p := ⟨gb225, 0, none⟩) (Kd.R_types HO223.out BK225.out (by decide)) (fun _ hk => hk.2) (.int .i64 t220)) (fun _ hk => hk.2) (.slice Ao70 t221.length co70)) (fun _ h_ => h_.1)))); (case side2 => exact (Kd.R_reads' HO223.out).2.1); (case side3 => refine (Kd.R_reads' (e := 25) (base := w.heap.size) (ok := fun k_ => (some k_ ≠ (v201 : Value).ownBlock ∧ (some k_ ≠ (.slice Ao62 t213.length co62 : Value).ownBlock ∧ some k_ ≠ (.slice Ao70 t221.length co70 : Value).ownBlock))) (n := t207.length) (c := co52) ?_).2.2; exact (by (with_reducible repeat (first | apply Kd.R_alloc | apply Kd.R_drewN | apply Kd.R_drew)); exact (Kd.R_mono (Kd.R_far (p := ⟨gb225, 1, none⟩) (Kd.R_far (p := ⟨gb225, 0, none⟩) (Kd.R_types HO209.out BK225.out (by decide)) (fun _ hk => hk.2) (.int .i64 t220)) (fun _ hk => hk.2) (.slice Ao70 t221.length co70)) (fun _ h_ => h_.1)))); (case side4 => exact (Kd.R_reads' HO209.out).2.1); rintro e w79 ⟨rfl, hb⟩; refine ⟨_, rfl, ?_⟩; have n0_ := Aside0.mk (Kd.R_below (by (with_reducible repeat (first | apply Kd.R_alloc | apply Kd.R_drewN | apply Kd.R_drew)); exact (Kd.R_mono (Kd.R_far (p := ⟨gb225, 1, none⟩) (Kd.R_far (p := ⟨gb225, 0, none⟩) (Kd.R_types HO202.out BK225.out (by decide)) (fun _ hk => hk.2) (.int .i64 t220)) (fun _ hk => hk.2) (.slice Ao70 t221.length co70)) (fun _ h_ => h_.1))) hb); have n1_ := Aside0.mk (Kd.R_below (by (with_reducible repeat (first | apply Kd.R_alloc | apply Kd.R_drewN | apply Kd.R_drew)); exact (Kd.R_mono (Kd.R_far (p := ⟨gb225, 1, none⟩) (Kd.R_far (p := ⟨gb225, 0, none⟩) (Kd.R_types HO209.out BK225.out (by decide)) (fun _ hk => hk.2) (.int .i64 t220)) (fun _ hk => hk.2) (.slice Ao70 t221.length co70)) (fun _ h_ => h_.1))) hb); have n2_ := Aside0.mk (Kd.R_below (by (with_reducible repeat (first | apply Kd.R_alloc | apply Kd.R_drewN | apply Kd.R_drew)); exact (Kd.R_mono (Kd.R_far (p := ⟨gb225, 1, none⟩) (Kd.R_far (p := ⟨gb225, 0, none⟩) (Kd.R_types HO215.out BK225.out (by decide)) (fun _ hk => hk.2) (.int .i64 t220)) (fun _ hk => hk.2) (.slice Ao70 t221.length co70)) (fun _ h_ => h_.1))) hb); have n3_ := Aside0.mk (Kd.R_below (by (with_reducible repeat (first | apply Kd.R_alloc | apply Kd.R_drewN | apply Kd.R_drew)); exact (Kd.R_mono (Kd.R_far (p := ⟨gb225, 1, none⟩) (Kd.R_far (p := ⟨gb225, 0, none⟩) (Kd.R_types HO223.out BK225.out (by decide)) (fun _ hk => hk.2) (.int .i64 t220)) (fun _ hk => hk.2) (.slice Ao70 t221.length co70)) (fun _ h_ => h_.1))) hb); have n4_ := Aside0.mk (blk_below (g := gb196) (o := .cells #[.int .i64 a0_0, .slice A0_1 l0_1.length c0_1] 30 (0, 0)) (by (with_reducible repeat (first | refine blk_drewN ?_ _ | refine blk_drew ?_ | refine blk_alloc ?_ _)); refine blk_far ?_ NB196_225.out _; (with_reducible repeat (first | refine blk_drewN ?_ _ | refine blk_drew ?_ | refine blk_alloc ?_ _)); refine blk_far ?_ NB196_225.out _; (with_reducible repeat (first | refine blk_drewN ?_ _ | refine blk_drew ?_ | refine blk_alloc ?_ _)); exact BK196.out) hb); have n5_ := Aside0.mk (blk_below (g := gb197) (o := .cells #[.int .i64 a1_0, .int .i64 a1_1, .int .i64 a1_2] 23 (0, 0)) (by (with_reducible repeat (first | refine blk_drewN ?_ _ | refine blk_drew ?_ | refine blk_alloc ?_ _)); refine blk_far ?_ NB197_225.out _; (with_reducible repeat (first | refine blk_drewN ?_ _ | refine blk_drew ?_ | refine blk_alloc ?_ _)); refine blk_far ?_ NB197_225.out _; (with_reducible repeat (first | refine blk_drewN ?_ _ | refine blk_drew ?_ | refine blk_alloc ?_ _)); exact BK197.out) hb); have n6_ := Aside0.mk (blk_below (g := gb211) (o := .cells #[.int .i64 t206, .slice Ao52 t207.length co52] 35 (0, 0)) (by (with_reducible repeat (first | refine blk_drewN ?_ _ | refine blk_drew ?_ | refine blk_alloc ?_ _)); refine blk_far ?_ NB211_225.out _; (with_reducible repeat (first | refine blk_drewN ?_ _ | refine blk_drew ?_ | refine blk_alloc ?_ _)); refine blk_far ?_ NB211_225.out _; (with_reducible repeat (first | refine blk_drewN ?_ _ | refine blk_drew ?_ | refine blk_alloc ?_ _)); exact BK211.out) hb); have n7_ := Aside0.mk (blk_below (g := gb216) (o := .cells #[.int .i64 t212, .slice Ao62 t213.length co62] 35 (0, 0)) (by (with_reducible repeat (first | refine blk_drewN ?_ _ | refine blk_drew ?_ | refine blk_alloc ?_ _)); refine blk_far ?_ NB216_225.out _; (with_reducible repeat (first | refine blk_drewN ?_ _ | refine blk_drew ?_ | refine blk_alloc ?_ _)); refine blk_far ?_ NB216_225.out _; (with_reducible repeat (first | refine blk_drewN ?_ _ | refine blk_drew ?_ | refine blk_alloc ?_ _)); exact BK216.out) hb); have n8_ := Aside0.mk (blk_below (g := gb225) (o := .cells #[.int .i64 t220, .slice Ao70 t221.length co70] 35 (0, 0)) (by (with_reducible repeat (first | refine blk_drewN ?_ _ | refine blk_drew ?_ | refine blk_alloc ?_ _)); refine blk_put (cs := #[.int .i64 t220, .slice none 0 0]) ?_ 1 _ rfl; (with_reducible repeat (first | refine blk_drewN ?_ _ | refine blk_drew ?_ | refine blk_alloc ?_ _)); refine blk_put (cs := #[.int .i64 0, .slice none 0 0]) ?_ 0 _ rfl; (with_reducible repeat (first | refine blk_drewN ?_ _ | refine blk_drew ?_ | refine blk_alloc ?_ _)); exact BK225.out) hb); have n9_ := hS HB hb; clear HO202; clear HO209; clear HO215; clear HO223; clear BK196; clear BK197; clear BK211; clear BK216; clear BK225; clear HB; have HO202 := n0_; have HO209 := n1_; have HO215 := n2_; have HO223 := n3_; have BK196 := n4_; have BK197 := n5_; have BK211 := n6_; have BK216 := n7_; have BK225 := n8_; have HB := n9_; clear n0_ n1_ n2_ n3_ n4_ n5_ n6_ n7_ n8_ n9_; (try clear hb); (try clear hb2); (try clear hk); (try clear hi)))
             have n0_ := Aside0.mk (Kd.R_drew HO202.out)
             have n1_ := Aside0.mk (Kd.R_drew HO209.out)
             have n2_ := Aside0.mk (Kd.R_drew HO215.out)
             have n3_ := Aside0.mk (Kd.R_drew HO223.out)
             have n4_ := Aside0.mk (blk_drew BK196.out)
             have n5_ := Aside0.mk (blk_drew BK197.out)
             have n6_ := Aside0.mk (blk_drew BK211.out)
             have n7_ := Aside0.mk (blk_drew BK216.out)
             have n8_ := Aside0.mk (blk_drew BK225.out)
             have n9_ := Aside0.mk (below_drew1 HB.out)
             clear HO202
             clear HO209
             clear HO215
             clear HO223
             clear BK196
             clear BK197
             clear BK211
             clear BK216
             clear BK225
             clear HB
             have HO202 := n0_
             have HO209 := n1_
             have HO215 := n2_
             have HO223 := n3_
             have BK196 := n4_
             have BK197 := n5_
             have BK211 := n6_
             have BK216 := n7_
             have BK225 := n8_
             have HB := n9_
             clear n0_ n1_ n2_ n3_ n4_ n5_ n6_ n7_ n8_ n9_
             refine start_ (n := 5) (S := fun w' => w'.cell? ⟨gb216, 0, none⟩ = some (.int .i64 t212) ∧ w'.cell? ⟨gb216, 1, none⟩ = some (.slice Ao62 t213.length co62) ∧ w'.cell? ⟨gb196, 0, none⟩ = some (.int .i64 a0_0) ∧ w'.cell? ⟨gb196, 1, none⟩ = some (.slice A0_1 l0_1.length c0_1)) (ds := []) (bz 5 0) (by kernel_rfl) rfl rfl ⟨(blk_cell BK216.out 0).trans rfl, (blk_cell BK216.out 1).trans rfl, (blk_cell BK196.out 0).trans rfl, (blk_cell BK196.out 1).trans rfl⟩ (fun hHeld => ?_)
             generalize w79.drew = w80 at HO202 HO209 HO215 HO223 BK196 BK197 BK211 BK216 BK225 HB hHeld ⊢
             refine run_ [(1, 0, 1, some 47), (1, 1, 3, some 48)] ?_
             repeat ((apply tag1; refine run_t (v := ?_) (a' := ?_) rfl rfl (by kernel_rfl) (fun _ _ _ h => h) (by rfl) ?_ hHeld ?_ ?_; rotate_left 2; (rintro w' ⟨s0, s1, s2, s3⟩; go_simp; with_reducible rfl); (first | (simp only [Act.put, List.setIfInBounds_toArray, List.set_cons_zero, List.set_cons_succ, i64_w, i32_w]; rfl) | rfl)))
             refine run_nil ?_
             refine one_ (i := 2) (N := some 49) (bz 5 7) rfl rfl (by kernel_rfl) (by decide) (fun K hK => ?_)
             refine goes_ Try.func12 (by kernel_rfl) rfl #[.agg #[.int .i64 a0_0, .slice A0_1 l0_1.length c0_1]] (by rfl) rfl rfl mapT ?_
             with_reducible refine (laws_toPuzzle.calls k a0_0 _ _ l0_1 t227 t228 _ ?side1 ?side2 A19.out).mono ?_
             (case side1 => repeat (first | exact (Kd.C_below HR0_1.out HB.out) | (with_reducible refine Kd.C_alloc ?_ _) | (with_reducible refine Kd.C_drewN ?_ _) | (with_reducible refine Kd.C_drew ?_)))
             (case side2 => exact HC0_1.out)
             rintro e w81 ⟨v229, rfl, ho0, hb⟩
             refine ⟨_, rfl, ?_⟩
             have n0_ := Aside0.mk (Kd.R_elder' (by (with_reducible repeat (first | apply Kd.R_alloc | apply Kd.R_drewN | apply Kd.R_drew)); exact HO202.out) (Kd.R_base ho0) hb)
             have n1_ := Aside0.mk (Kd.R_elder' (by (with_reducible repeat (first | apply Kd.R_alloc | apply Kd.R_drewN | apply Kd.R_drew)); exact HO209.out) (Kd.R_base ho0) hb)
             have n2_ := Aside0.mk (Kd.R_elder' (by (with_reducible repeat (first | apply Kd.R_alloc | apply Kd.R_drewN | apply Kd.R_drew)); exact HO215.out) (Kd.R_base ho0) hb)
             have n3_ := Aside0.mk (Kd.R_elder' (by (with_reducible repeat (first | apply Kd.R_alloc | apply Kd.R_drewN | apply Kd.R_drew)); exact HO223.out) (Kd.R_base ho0) hb)
             have n4_ := Aside0.mk (Kd.R_lower (Kd.R_new' (Kd.R_new' (Kd.R_new' (Kd.R_new' ho0 (Kd.R_lt (by (with_reducible repeat (first | apply Kd.R_alloc | apply Kd.R_drewN | apply Kd.R_drew)); exact HO202.out))) (Kd.R_lt (by (with_reducible repeat (first | apply Kd.R_alloc | apply Kd.R_drewN | apply Kd.R_drew)); exact HO209.out))) (Kd.R_lt (by (with_reducible repeat (first | apply Kd.R_alloc | apply Kd.R_drewN | apply Kd.R_drew)); exact HO215.out))) (Kd.R_lt (by (with_reducible repeat (first | apply Kd.R_alloc | apply Kd.R_drewN | apply Kd.R_drew)); exact HO223.out))) (below_size hB))
             have n5_ := bS BK196 hb
             have n6_ := bS BK197 hb
             have n7_ := bS BK211 hb
             have n8_ := bS BK216 hb
             have n9_ := bS BK225 hb
             have n10_ := hS HB hb
             clear HO202
             clear HO209
             clear HO215
             clear HO223
             clear BK196
             clear BK197
             clear BK211
             clear BK216
             clear BK225
             clear HB
             have HO202 := n0_
             have HO209 := n1_
             have HO215 := n2_
             have HO223 := n3_
             have HO230 := n4_
             have BK196 := n5_
             have BK197 := n6_
             have BK211 := n7_
             have BK216 := n8_
             have BK225 := n9_
             have HB := n10_
             clear n0_ n1_ n2_ n3_ n4_ n5_ n6_ n7_ n8_ n9_ n10_
             (try clear hb)
             (try clear hb2)
             (try clear hk)
             (try clear hi)
             (try clear ho0)
             obtain ⟨Ao82, co82, eo82⟩ := Kd.R_slice HO230.out
             (first | subst eo82 | (injection eo82 with f1_ f2_ f3_; have f4_ := f1_.symm; have f5_ := f3_.symm; clear f1_ f2_ f3_; subst f4_; subst f5_))
             refine hK.out _ _ ⟨(blk_cell BK216.out 0).trans rfl, (blk_cell BK216.out 1).trans rfl, (blk_cell BK196.out 0).trans rfl, (blk_cell BK196.out 1).trans rfl⟩ (fun hHeld => ?_)
             clear hK K
             refine norm_ (a' := ?_) ?_ ?_
             rotate_left
             ·show Act.put _ (some 49) _ = _
              simp only [Act.put, List.setIfInBounds_toArray, List.set_cons_zero, List.set_cons_succ, i64_w, i32_w]
              rfl
             refine one_ (i := 3) (N := some 50) (bz 5 15) rfl rfl (by kernel_rfl) (by decide) (fun K hK => ?_)
             refine goes_ Try.func14 (by kernel_rfl) rfl #[.agg #[.int .i64 t212, .slice Ao62 t213.length co62], .agg #[.int .i64 t227, .slice Ao82 t228.length co82]] (by rfl) rfl rfl mapT ?_
             with_reducible refine (laws_eqPuzzle.calls k t212 _ _ t213 t227 _ _ t228 true _ ?side1 ?side2 ?side3 ?side4 A20.out).mono ?_
             (case side1 => repeat (first | exact (Kd.R_reads' HO215.out).2.2 | (with_reducible refine Kd.C_alloc ?_ _) | (with_reducible refine Kd.C_drewN ?_ _) | (with_reducible refine Kd.C_drew ?_)))
             (case side2 => exact (Kd.R_reads' HO215.out).2.1)
             (case side3 => repeat (first | exact (Kd.R_reads' HO230.out).2.2 | (with_reducible refine Kd.C_alloc ?_ _) | (with_reducible refine Kd.C_drewN ?_ _) | (with_reducible refine Kd.C_drew ?_)))
             (case side4 => exact (Kd.R_reads' HO230.out).2.1)
             rintro e w83 ⟨rfl, hb⟩
             refine ⟨_, rfl, ?_⟩
             have n0_ := Aside0.mk (Kd.R_below (by (with_reducible repeat (first | apply Kd.R_alloc | apply Kd.R_drewN | apply Kd.R_drew)); exact HO202.out) hb)
             have n1_ := Aside0.mk (Kd.R_below (by (with_reducible repeat (first | apply Kd.R_alloc | apply Kd.R_drewN | apply Kd.R_drew)); exact HO209.out) hb)
             have n2_ := Aside0.mk (Kd.R_below (by (with_reducible repeat (first | apply Kd.R_alloc | apply Kd.R_drewN | apply Kd.R_drew)); exact HO215.out) hb)
             have n3_ := Aside0.mk (Kd.R_below (by (with_reducible repeat (first | apply Kd.R_alloc | apply Kd.R_drewN | apply Kd.R_drew)); exact HO223.out) hb)
             have n4_ := Aside0.mk (Kd.R_below (by (with_reducible repeat (first | apply Kd.R_alloc | apply Kd.R_drewN | apply Kd.R_drew)); exact HO230.out) hb)
             have n5_ := bS BK196 hb
             have n6_ := bS BK197 hb
             have n7_ := bS BK211 hb
             have n8_ := bS BK216 hb
             have n9_ := bS BK225 hb
             have n10_ := hS HB hb
             clear HO202
             clear HO209
             clear HO215
             clear HO223
             clear HO230
             clear BK196
             clear BK197
             clear BK211
             clear BK216
             clear BK225
             clear HB
             have HO202 := n0_
             have HO209 := n1_
             have HO215 := n2_
             have HO223 := n3_
             have HO230 := n4_
             have BK196 := n5_
             have BK197 := n6_
             have BK211 := n7_
             have BK216 := n8_
             have BK225 := n9_
             have HB := n10_
             clear n0_ n1_ n2_ n3_ n4_ n5_ n6_ n7_ n8_ n9_ n10_
             (try clear hb)
             (try clear hb2)
             (try clear hk)
             (try clear hi)
             refine hK.out _ _ ⟨(blk_cell BK216.out 0).trans rfl, (blk_cell BK216.out 1).trans rfl, (blk_cell BK196.out 0).trans rfl, (blk_cell BK196.out 1).trans rfl⟩ (fun hHeld => ?_)
             clear hK K
             refine norm_ (a' := ?_) ?_ ?_
             rotate_left
             ·show Act.put _ (some 50) _ = _
              simp only [Act.put, List.setIfInBounds_toArray, List.set_cons_zero, List.set_cons_succ, i64_w, i32_w]
              rfl
             refine run_ [(0, 4, 31, some 51)] ?_
             repeat ((apply tag0; refine run_p (v := ?_) (a' := ?_) rfl rfl (by kernel_rfl) (fun _ _ _ h => h) (by rfl) ?_ ?_ ?_; rotate_left 2; (intro w'; go_simp; with_reducible rfl); (first | (simp only [Act.put, List.setIfInBounds_toArray, List.set_cons_zero, List.set_cons_succ, i64_w, i32_w]; rfl) | rfl)))
             refine run_nil ?_
             refine done_ (by kernel_rfl) ?_
             have hcz84_0 : w83.cell? ⟨gb216, 0, none⟩ = some (.int .i64 t212) := (blk_cell BK216.out 0).trans rfl
             have hcz84_1 : w83.cell? ⟨gb216, 1, none⟩ = some (.slice Ao62 t213.length co62) := (blk_cell BK216.out 1).trans rfl
             have hfz84_0 := blk_frozen BK216.out 0
             have hfz84_1 := blk_frozen BK216.out 1
             try go_wp2_with (first | ((with_reducible refine gate_callee (f := 22) rfl ?_); refine goesL_ (some 54) rfl rfl Try.func22 (by kernel_rfl) rfl #[.agg #[.int .i64 t212, .slice Ao62 t213.length co62], .int .i64 1] rfl mapT ?_; (with_reducible refine (laws_markPuzzle.calls k t212 (fun k_ => some k_ = (.slice Ao62 t213.length co62 : Value).ownBlock) (.slice Ao62 t213.length co62) t213 1 t232 t233 w _ ?side1 ?side2 A22.out).mono ?_); (case side1 => repeat (first | (with_reducible first | exact HB.out | apply below_alloc | apply pw_below_drewN | apply below_drew1 | refine below_set ?_ GE196.out | refine below_set ?_ GE197.out | refine below_set ?_ GE211.out | refine below_set ?_ GE216.out | refine below_set ?_ GE225.out) | exact HB.out)); (case side2 => exact Kd.R_tight rfl HO215.out); rintro e w85 ⟨rfl, hy0, hb, hkp⟩; refine ⟨_, rfl, ?_⟩; have n0_ := Aside0.mk (blk_kept bK hkp (fun hs_ => (fun e_ => (Kd.R_ne HO215.out BK196.out (by decide)) e_) hs_)); have n1_ := Aside0.mk (blk_kept bK hkp (fun hs_ => (fun e_ => (Kd.R_ne HO215.out BK197.out (by decide)) e_) hs_)); have n2_ := Aside0.mk (Kd.R_mono (ok' := fun k_ => some k_ ≠ (.slice Ao52 t207.length co52 : Value).ownBlock ∧ some k_ ≠ (.slice Ao62 t213.length co62 : Value).ownBlock ∧ some k_ ≠ (.slice Ao70 t221.length co70 : Value).ownBlock ∧ some k_ ≠ (.slice Ao82 t228.length co82 : Value).ownBlock) (Kd.R_keptB (HO202.out) hkp (fun k_ hk_ hs_ => (hk_.1.2.1) hs_)) (fun k_ hk_ => ⟨hk_.1.1.1, hk_.1.1.2.1, hk_.1.1.2.2, hk_.1.2⟩)); have n3_ := Aside0.mk (Kd.R_mono (ok' := fun k_ => some k_ ≠ (v201 : Value).ownBlock ∧ some k_ ≠ (.slice Ao62 t213.length co62 : Value).ownBlock ∧ some k_ ≠ (.slice Ao70 t221.length co70 : Value).ownBlock ∧ some k_ ≠ (.slice Ao82 t228.length co82 : Value).ownBlock) (Kd.R_keptB (HO209.out) hkp (fun k_ hk_ hs_ => (hk_.1.2.1) hs_)) (fun k_ hk_ => ⟨hk_.1.1.1, hk_.1.1.2.1, hk_.1.1.2.2, hk_.1.2⟩)); have n4_ := Aside0.mk (blk_kept bK hkp (fun hs_ => (fun e_ => (Kd.R_ne HO215.out BK211.out (by decide)) e_) hs_)); have n5_ := Aside0.mk (Kd.R_reok rfl hy0 (fun k_ e_ => HO215.out.1 k_ e_)); have n6_ := Aside0.mk (blk_kept bK hkp (fun hs_ => (fun e_ => (Kd.R_ne HO215.out BK216.out (by decide)) e_) hs_)); have n7_ := Aside0.mk (Kd.R_mono (ok' := fun k_ => some k_ ≠ (v201 : Value).ownBlock ∧ some k_ ≠ (.slice Ao52 t207.length co52 : Value).ownBlock ∧ some k_ ≠ (.slice Ao62 t213.length co62 : Value).ownBlock ∧ some k_ ≠ (.slice Ao82 t228.length co82 : Value).ownBlock) (Kd.R_keptB (HO223.out) hkp (fun k_ hk_ hs_ => (hk_.1.2.2) hs_)) (fun k_ hk_ => ⟨hk_.1.1.1, hk_.1.1.2.1, hk_.1.1.2.2, hk_.1.2⟩)); have n8_ := Aside0.mk (blk_kept bK hkp (fun hs_ => (fun e_ => (Kd.R_ne HO215.out BK225.out (by decide)) e_) hs_)); have n9_ := Aside0.mk (Kd.R_mono (ok' := fun k_ => some k_ ≠ (v201 : Value).ownBlock ∧ some k_ ≠ (.slice Ao52 t207.length co52 : Value).ownBlock ∧ some k_ ≠ (.slice Ao62 t213.length co62 : Value).ownBlock ∧ some k_ ≠ (.slice Ao70 t221.length co70 : Value).ownBlock) (Kd.R_keptB (HO230.out) hkp (fun k_ hk_ hs_ => (hk_.1.2) hs_)) (fun k_ hk_ => ⟨hk_.1.1.1.1.2, hk_.1.1.1.2, hk_.1.1.2, hk_.1.2⟩)); have n10_ := Aside0.mk (hb); clear BK196; clear BK197; clear HO202; clear HO209; clear BK211; clear HO215; clear BK216; clear HO223; clear BK225; clear HO230; clear HB; have BK196 := n0_; have BK197 := n1_; have HO202 := n2_; have HO209 := n3_; have BK211 := n4_; have HO215 := n5_; have BK216 := n6_; have HO223 := n7_; have BK225 := n8_; have HO230 := n9_; have HB := n10_; clear n0_ n1_ n2_ n3_ n4_ n5_ n6_ n7_ n8_ n9_ n10_; (try clear hb); (try clear hkp); (try clear hy0); have hcz86_0 : w85.cell? ⟨gb225, 0, none⟩ = some (.int .i64 t220) := (blk_cell BK225.out 0).trans rfl; have hcz86_1 : w85.cell? ⟨gb225, 1, none⟩ = some (.slice Ao70 t221.length co70) := (blk_cell BK225.out 1).trans rfl; have hfz86_0 := blk_frozen BK225.out 0; have hfz86_1 := blk_frozen BK225.out 1; have hcz87_0 : w85.cell? ⟨gb211, 0, none⟩ = some (.int .i64 t206) := (blk_cell BK211.out 0).trans rfl; have hcz87_1 : w85.cell? ⟨gb211, 1, none⟩ = some (.slice Ao52 t207.length co52) := (blk_cell BK211.out 1).trans rfl; have hfz87_0 := blk_frozen BK211.out 0; have hfz87_1 := blk_frozen BK211.out 1) | (go_at_call 14; (with_reducible refine (laws_eqPuzzle.calls k t220 _ _ t221 t206 _ _ t207 true _ ?side1 ?side2 ?side3 ?side4 A24.out).mono ?_); (case side1 => repeat (first | exact (Kd.R_reads' HO223.out).2.2 | (with_reducible refine Kd.C_alloc ?_ _) | (with_reducible refine Kd.C_drewN ?_ _) | (with_reducible refine Kd.C_drew ?_))); (case side2 => exact (Kd.R_reads' HO223.out).2.1); (case side3 => repeat (first | exact (Kd.R_reads' HO209.out).2.2 | (with_reducible refine Kd.C_alloc ?_ _) | (with_reducible refine Kd.C_drewN ?_ _) | (with_reducible refine Kd.C_drew ?_))); (case side4 => exact (Kd.R_reads' HO209.out).2.1); rintro e w88 ⟨rfl, hb⟩; have n0_ := Aside0.mk (Kd.R_below (by (with_reducible repeat (first | apply Kd.R_alloc | apply Kd.R_drewN | apply Kd.R_drew)); exact HO202.out) hb); have n1_ := Aside0.mk (Kd.R_below (by (with_reducible repeat (first | apply Kd.R_alloc | apply Kd.R_drewN | apply Kd.R_drew)); exact HO209.out) hb); have n2_ := Aside0.mk (Kd.R_below (by (with_reducible repeat (first | apply Kd.R_alloc | apply Kd.R_drewN | apply Kd.R_drew)); exact HO215.out) hb); have n3_ := Aside0.mk (Kd.R_below (by (with_reducible repeat (first | apply Kd.R_alloc | apply Kd.R_drewN | apply Kd.R_drew)); exact HO223.out) hb); have n4_ := Aside0.mk (Kd.R_below (by (with_reducible repeat (first | apply Kd.R_alloc | apply Kd.R_drewN | apply Kd.R_drew)); exact HO230.out) hb); have n5_ := bS BK196 hb; have n6_ := bS BK197 hb; have n7_ := bS BK211 hb; have n8_ := bS BK216 hb; have n9_ := bS BK225 hb; have n10_ := hS HB hb; clear HO202; clear HO209; clear HO215; clear HO223; clear HO230; clear BK196; clear BK197; clear BK211; clear BK216; clear BK225; clear HB; have HO202 := n0_; have HO209 := n1_; have HO215 := n2_; have HO223 := n3_; have HO230 := n4_; have BK196 := n5_; have BK197 := n6_; have BK211 := n7_; have BK216 := n8_; have BK225 := n9_; have HB := n10_; clear n0_ n1_ n2_ n3_ n4_ n5_ n6_ n7_ n8_ n9_ n10_; (try clear hb); (try clear hb2); (try clear hk); (try clear hi); have hcz89_0 : w88.cell? ⟨gb225, 0, none⟩ = some (.int .i64 t220) := (blk_cell BK225.out 0).trans rfl; have hcz89_1 : w88.cell? ⟨gb225, 1, none⟩ = some (.slice Ao70 t221.length co70) := (blk_cell BK225.out 1).trans rfl; have hfz89_0 := blk_frozen BK225.out 0; have hfz89_1 := blk_frozen BK225.out 1) | ((with_reducible refine gate_callee (f := 22) rfl ?_); refine goesL_ (some 70) rfl rfl Try.func22 (by kernel_rfl) rfl #[.agg #[.int .i64 t220, .slice Ao70 t221.length co70], .int .i64 1] rfl mapT ?_; (with_reducible refine (laws_markPuzzle.calls k t220 (fun k_ => some k_ = (.slice Ao70 t221.length co70 : Value).ownBlock) (.slice Ao70 t221.length co70) t221 1 t235 t236 w _ ?side1 ?side2 A26.out).mono ?_); (case side1 => repeat (first | (with_reducible first | exact HB.out | apply below_alloc | apply pw_below_drewN | apply below_drew1 | refine below_set ?_ GE196.out | refine below_set ?_ GE197.out | refine below_set ?_ GE211.out | refine below_set ?_ GE216.out | refine below_set ?_ GE225.out) | exact HB.out)); (case side2 => exact Kd.R_tight rfl HO223.out); rintro e w90 ⟨rfl, hy0, hb, hkp⟩; refine ⟨_, rfl, ?_⟩; have n0_ := Aside0.mk (blk_kept bK hkp (fun hs_ => (fun e_ => (Kd.R_ne HO223.out BK196.out (by decide)) e_) hs_)); have n1_ := Aside0.mk (blk_kept bK hkp (fun hs_ => (fun e_ => (Kd.R_ne HO223.out BK197.out (by decide)) e_) hs_)); have n2_ := Aside0.mk (Kd.R_mono (ok' := fun k_ => some k_ ≠ (.slice Ao52 t207.length co52 : Value).ownBlock ∧ some k_ ≠ (.slice Ao62 t213.length co62 : Value).ownBlock ∧ some k_ ≠ (.slice Ao70 t221.length co70 : Value).ownBlock ∧ some k_ ≠ (.slice Ao82 t228.length co82 : Value).ownBlock) (Kd.R_keptB (HO202.out) hkp (fun k_ hk_ hs_ => (hk_.2.2.1) hs_)) (fun k_ hk_ => ⟨hk_.1.1, hk_.1.2.1, hk_.1.2.2.1, hk_.1.2.2.2⟩)); have n3_ := Aside0.mk (Kd.R_mono (ok' := fun k_ => some k_ ≠ (v201 : Value).ownBlock ∧ some k_ ≠ (.slice Ao62 t213.length co62 : Value).ownBlock ∧ some k_ ≠ (.slice Ao70 t221.length co70 : Value).ownBlock ∧ some k_ ≠ (.slice Ao82 t228.length co82 : Value).ownBlock) (Kd.R_keptB (HO209.out) hkp (fun k_ hk_ hs_ => (hk_.2.2.1) hs_)) (fun k_ hk_ => ⟨hk_.1.1, hk_.1.2.1, hk_.1.2.2.1, hk_.1.2.2.2⟩)); have n4_ := Aside0.mk (blk_kept bK hkp (fun hs_ => (fun e_ => (Kd.R_ne HO223.out BK211.out (by decide)) e_) hs_)); have n5_ := Aside0.mk (Kd.R_mono (ok' := fun k_ => some k_ ≠ (v201 : Value).ownBlock ∧ some k_ ≠ (.slice Ao52 t207.length co52 : Value).ownBlock ∧ some k_ ≠ (.slice Ao70 t221.length co70 : Value).ownBlock ∧ some k_ ≠ (.slice Ao82 t228.length co82 : Value).ownBlock) (Kd.R_keptB (HO215.out) hkp (fun k_ hk_ hs_ => (hk_.1.2.2) hs_)) (fun k_ hk_ => ⟨hk_.1.1.1, hk_.1.1.2.1, hk_.1.1.2.2, hk_.1.2⟩)); have n6_ := Aside0.mk (blk_kept bK hkp (fun hs_ => (fun e_ => (Kd.R_ne HO223.out BK216.out (by decide)) e_) hs_)); have n7_ := Aside0.mk (Kd.R_reok rfl hy0 (fun k_ e_ => HO223.out.1 k_ e_)); have n8_ := Aside0.mk (blk_kept bK hkp (fun hs_ => (fun e_ => (Kd.R_ne HO223.out BK225.out (by decide)) e_) hs_)); have n9_ := Aside0.mk (Kd.R_mono (ok' := fun k_ => some k_ ≠ (v201 : Value).ownBlock ∧ some k_ ≠ (.slice Ao52 t207.length co52 : Value).ownBlock ∧ some k_ ≠ (.slice Ao62 t213.length co62 : Value).ownBlock ∧ some k_ ≠ (.slice Ao70 t221.length co70 : Value).ownBlock) (Kd.R_keptB (HO230.out) hkp (fun k_ hk_ hs_ => (hk_.2.2.2) hs_)) (fun k_ hk_ => ⟨hk_.1.1, hk_.1.2.1, hk_.1.2.2.1, hk_.1.2.2.2⟩)); have n10_ := Aside0.mk (hb); clear BK196; clear BK197; clear HO202; clear HO209; clear BK211; clear HO215; clear BK216; clear HO223; clear BK225; clear HO230; clear HB; have BK196 := n0_; have BK197 := n1_; have HO202 := n2_; have HO209 := n3_; have BK211 := n4_; have HO215 := n5_; have BK216 := n6_; have HO223 := n7_; have BK225 := n8_; have HO230 := n9_; have HB := n10_; clear n0_ n1_ n2_ n3_ n4_ n5_ n6_ n7_ n8_ n9_ n10_; (try clear hb); (try clear hkp); (try clear hy0); have hcz91_0 : w90.cell? ⟨gb225, 0, none⟩ = some (.int .i64 t220) := (blk_cell BK225.out 0).trans rfl; have hcz91_1 : w90.cell? ⟨gb225, 1, none⟩ = some (.slice Ao70 t221.length co70) := (blk_cell BK225.out 1).trans rfl; have hfz91_0 := blk_frozen BK225.out 0; have hfz91_1 := blk_frozen BK225.out 1) | ((with_reducible refine gate_callee (f := 23) rfl ?_); refine goesL_ (some 73) rfl rfl Try.func23 (by kernel_rfl) rfl #[.agg #[.int .i64 t220, .slice Ao70 t236.length co70], .int .i64 1] rfl (by (try simp only [List.map_toArray, List.map_cons, List.map_nil]); first | done | (rw [show t236.length = t221.length from (Kd.R_reads' HO223.out).1.symm] <;> rfl) | rfl | (simp only [List.length_drop, List.length_take]; rfl)) ?_; (with_reducible refine (laws_heldPuzzle.calls k t220 _ _ t236 1 t237 _ ?side1 ?side2 A27.out).mono ?_); (case side1 => repeat (first | exact (Kd.R_reads' HO223.out).2.2 | (with_reducible refine Kd.C_alloc ?_ _) | (with_reducible refine Kd.C_drewN ?_ _) | (with_reducible refine Kd.C_drew ?_))); (case side2 => rw [show t236.length = t221.length from (Kd.R_reads' HO223.out).1.symm]; exact (Kd.R_reads' HO223.out).2.1); rintro e w92 ⟨rfl, hb⟩; refine ⟨_, rfl, ?_⟩; have n0_ := Aside0.mk (Kd.R_below (by (with_reducible repeat (first | apply Kd.R_alloc | apply Kd.R_drewN | apply Kd.R_drew)); exact HO202.out) hb); have n1_ := Aside0.mk (Kd.R_below (by (with_reducible repeat (first | apply Kd.R_alloc | apply Kd.R_drewN | apply Kd.R_drew)); exact HO209.out) hb); have n2_ := Aside0.mk (Kd.R_below (by (with_reducible repeat (first | apply Kd.R_alloc | apply Kd.R_drewN | apply Kd.R_drew)); exact HO215.out) hb); have n3_ := Aside0.mk (Kd.R_below (by (with_reducible repeat (first | apply Kd.R_alloc | apply Kd.R_drewN | apply Kd.R_drew)); exact HO223.out) hb); have n4_ := Aside0.mk (Kd.R_below (by (with_reducible repeat (first | apply Kd.R_alloc | apply Kd.R_drewN | apply Kd.R_drew)); exact HO230.out) hb); have n5_ := bS BK196 hb; have n6_ := bS BK197 hb; have n7_ := bS BK211 hb; have n8_ := bS BK216 hb; have n9_ := bS BK225 hb; have n10_ := hS HB hb; clear HO202; clear HO209; clear HO215; clear HO223; clear HO230; clear BK196; clear BK197; clear BK211; clear BK216; clear BK225; clear HB; have HO202 := n0_; have HO209 := n1_; have HO215 := n2_; have HO223 := n3_; have HO230 := n4_; have BK196 := n5_; have BK197 := n6_; have BK211 := n7_; have BK216 := n8_; have BK225 := n9_; have HB := n10_; clear n0_ n1_ n2_ n3_ n4_ n5_ n6_ n7_ n8_ n9_ n10_; (try clear hb); (try clear hb2); (try clear hk); (try clear hi)))
             have n0_ := Aside0.mk (Kd.R_drew HO202.out)
             have n1_ := Aside0.mk (Kd.R_drew HO209.out)
             have n2_ := Aside0.mk (Kd.R_drew HO215.out)
             have n3_ := Aside0.mk (Kd.R_drew HO223.out)
             have n4_ := Aside0.mk (Kd.R_drew HO230.out)
             have n5_ := Aside0.mk (blk_drew BK196.out)
             have n6_ := Aside0.mk (blk_drew BK197.out)
             have n7_ := Aside0.mk (blk_drew BK211.out)
             have n8_ := Aside0.mk (blk_drew BK216.out)
             have n9_ := Aside0.mk (blk_drew BK225.out)
             have n10_ := Aside0.mk (below_drew1 HB.out)
             clear HO202
             clear HO209
             clear HO215
             clear HO223
             clear HO230
             clear BK196
             clear BK197
             clear BK211
             clear BK216
             clear BK225
             clear HB
             have HO202 := n0_
             have HO209 := n1_
             have HO215 := n2_
             have HO223 := n3_
             have HO230 := n4_
             have BK196 := n5_
             have BK197 := n6_
             have BK211 := n7_
             have BK216 := n8_
             have BK225 := n9_
             have HB := n10_
             clear n0_ n1_ n2_ n3_ n4_ n5_ n6_ n7_ n8_ n9_ n10_
             refine start_ (n := 11) (S := fun w' => w'.cell? ⟨gb196, 0, none⟩ = some (.int .i64 a0_0) ∧ w'.cell? ⟨gb196, 1, none⟩ = some (.slice A0_1 l0_1.length c0_1) ∧ w'.cell? ⟨gb197, 0, none⟩ = some (.int .i64 a1_0) ∧ w'.cell? ⟨gb197, 1, none⟩ = some (.int .i64 a1_1) ∧ w'.cell? ⟨gb197, 2, none⟩ = some (.int .i64 a1_2)) (ds := []) (bz 11 0) (by kernel_rfl) rfl rfl ⟨(blk_cell BK196.out 0).trans rfl, (blk_cell BK196.out 1).trans rfl, (blk_cell BK197.out 0).trans rfl, (blk_cell BK197.out 1).trans rfl, (blk_cell BK197.out 2).trans rfl⟩ (fun hHeld => ?_); refine with_tabW laws_FnExactAddClue.tab24 laws_FnExactAddClue.bits24 (fun HT_ HW_ => ?_)
             generalize w92.drew = w93 at HO202 HO209 HO215 HO223 HO230 BK196 BK197 BK211 BK216 BK225 HB hHeld ⊢
             refine run_ [(1, 0, 1, some 80), (1, 2, 5, some 82)] ?_
             repeat ((apply tag1; refine run_t (v := ?_) (a' := ?_) rfl rfl (take_ofW HT_.out HW_.out (by kernel_rfl)) (fun _ _ _ h => h) (by rfl) ?_ hHeld ?_ ?_; rotate_left 2; (rintro w' ⟨s0, s1, s2, s3, s4⟩; go_simp; with_reducible rfl); (first | (simp only [Act.put, List.setIfInBounds_toArray, List.set_cons_zero, List.set_cons_succ, i64_w, i32_w]; rfl) | rfl)))
             refine run_nil ?_
             refine join_ (σ := Value × Value × Nat) 2 (bz 11 511) (fun s_ => [(81, .agg #[.int .i64 t238, s_.1]), (83, .agg #[.int .i64 t242, .int .i64 t243, .int .i64 t244]), (84, .tuple #[.agg #[.int .i64 t245, s_.2.1], .bool t249]), (14, .pointer (some ⟨s_.2.2, 0, none⟩)), (79, .tuple #[.agg #[.int .i64 t245, s_.2.1], .bool t249]), (85, .agg #[.int .i64 t245, s_.2.1]), (86, .bool t249)]) (fun s_ w' => (w'.cell? ⟨gb196, 0, none⟩ = some (.int .i64 a0_0) ∧ w'.cell? ⟨gb196, 1, none⟩ = some (.slice A0_1 l0_1.length c0_1) ∧ w'.cell? ⟨gb197, 0, none⟩ = some (.int .i64 a1_0) ∧ w'.cell? ⟨gb197, 1, none⟩ = some (.int .i64 a1_1) ∧ w'.cell? ⟨gb197, 2, none⟩ = some (.int .i64 a1_2)) ∧ (Kd.R k25 25 w' w.heap.size (fun k_ => some k_ ≠ (.slice Ao52 t207.length co52 : Value).ownBlock ∧ some k_ ≠ (.slice Ao62 t213.length co62 : Value).ownBlock ∧ some k_ ≠ (.slice Ao70 t221.length co70 : Value).ownBlock ∧ some k_ ≠ (.slice Ao82 t228.length co82 : Value).ownBlock ∧ some k_ ≠ (s_.1 : Value).ownBlock ∧ some k_ ≠ (s_.2.1 : Value).ownBlock) v201 t200) ∧ (Kd.R k25 25 w' w.heap.size (fun k_ => some k_ ≠ (v201 : Value).ownBlock ∧ some k_ ≠ (.slice Ao62 t213.length co62 : Value).ownBlock ∧ some k_ ≠ (.slice Ao70 t221.length co70 : Value).ownBlock ∧ some k_ ≠ (.slice Ao82 t228.length co82 : Value).ownBlock ∧ some k_ ≠ (s_.1 : Value).ownBlock ∧ some k_ ≠ (s_.2.1 : Value).ownBlock) (.slice Ao52 t207.length co52) t207) ∧ (Kd.R k25 25 w' w.heap.size (fun k_ => some k_ ≠ (v201 : Value).ownBlock ∧ some k_ ≠ (.slice Ao52 t207.length co52 : Value).ownBlock ∧ some k_ ≠ (.slice Ao70 t221.length co70 : Value).ownBlock ∧ some k_ ≠ (.slice Ao82 t228.length co82 : Value).ownBlock ∧ some k_ ≠ (s_.1 : Value).ownBlock ∧ some k_ ≠ (s_.2.1 : Value).ownBlock) (.slice Ao62 t213.length co62) t233) ∧ (Kd.R k25 25 w' w.heap.size (fun k_ => some k_ ≠ (v201 : Value).ownBlock ∧ some k_ ≠ (.slice Ao52 t207.length co52 : Value).ownBlock ∧ some k_ ≠ (.slice Ao62 t213.length co62 : Value).ownBlock ∧ some k_ ≠ (.slice Ao82 t228.length co82 : Value).ownBlock ∧ some k_ ≠ (s_.1 : Value).ownBlock ∧ some k_ ≠ (s_.2.1 : Value).ownBlock) (.slice Ao70 t221.length co70) t236) ∧ (Kd.R k25 25 w' w.heap.size (fun k_ => some k_ ≠ (v201 : Value).ownBlock ∧ some k_ ≠ (.slice Ao52 t207.length co52 : Value).ownBlock ∧ some k_ ≠ (.slice Ao62 t213.length co62 : Value).ownBlock ∧ some k_ ≠ (.slice Ao70 t221.length co70 : Value).ownBlock ∧ some k_ ≠ (s_.1 : Value).ownBlock ∧ some k_ ≠ (s_.2.1 : Value).ownBlock) (.slice Ao82 t228.length co82) t228) ∧ (Kd.R k25 25 w' w.heap.size (fun k_ => some k_ ≠ (v201 : Value).ownBlock ∧ some k_ ≠ (.slice Ao52 t207.length co52 : Value).ownBlock ∧ some k_ ≠ (.slice Ao62 t213.length co62 : Value).ownBlock ∧ some k_ ≠ (.slice Ao70 t221.length co70 : Value).ownBlock ∧ some k_ ≠ (.slice Ao82 t228.length co82 : Value).ownBlock ∧ some k_ ≠ (s_.2.1 : Value).ownBlock) s_.1 t239) ∧ (Kd.R k25 25 w' w.heap.size (fun k_ => some k_ ≠ (v201 : Value).ownBlock ∧ some k_ ≠ (.slice Ao52 t207.length co52 : Value).ownBlock ∧ some k_ ≠ (.slice Ao62 t213.length co62 : Value).ownBlock ∧ some k_ ≠ (.slice Ao70 t221.length co70 : Value).ownBlock ∧ some k_ ≠ (.slice Ao82 t228.length co82 : Value).ownBlock ∧ some k_ ≠ (s_.1 : Value).ownBlock) s_.2.1 t246) ∧ (w'.heap[gb196]? = some (.cells #[.int .i64 a0_0, .slice A0_1 l0_1.length c0_1] 30 (0, 0))) ∧ (w'.heap[gb197]? = some (.cells #[.int .i64 a1_0, .int .i64 a1_1, .int .i64 a1_2] 23 (0, 0))) ∧ (w'.heap[gb211]? = some (.cells #[.int .i64 t206, .slice Ao52 t207.length co52] 35 (0, 0))) ∧ (w'.heap[gb216]? = some (.cells #[.int .i64 t212, .slice Ao62 t213.length co62] 35 (0, 0))) ∧ (w'.heap[gb225]? = some (.cells #[.int .i64 t220, .slice Ao70 t221.length co70] 35 (0, 0))) ∧ (w'.heap[s_.2.2]? = some (.cells #[.int .i64 0, .slice none 0 0] 35 (0, 0))) ∧ (w.heap.size ≤ s_.2.2) ∧ (w.heap.size ≤ s_.2.2) ∧ (gb196 ≠ s_.2.2) ∧ (s_.2.2 ≠ gb196) ∧ (gb197 ≠ s_.2.2) ∧ (s_.2.2 ≠ gb197) ∧ (gb211 ≠ s_.2.2) ∧ (s_.2.2 ≠ gb211) ∧ (gb216 ≠ s_.2.2) ∧ (s_.2.2 ≠ gb216) ∧ (gb225 ≠ s_.2.2) ∧ (s_.2.2 ≠ gb225) ∧ (Below w.heap.size w w')) ?_ ?_
             rotate_left
             ·intro hCont
              refine two_ (i := 1) (j := 8) (Ni := some 81) (Nj := some 14) (bz 11 7) (bz 11 261) rfl rfl rfl rfl (two_of HT_.out (by kernel_rfl)) (by decide) (by decide) (fun K hK => ?_) (fun K hK => ?_)
              ·skip
               refine goes_ Try.func12 (by kernel_rfl) rfl #[.agg #[.int .i64 a0_0, .slice A0_1 l0_1.length c0_1]] (by rfl) rfl rfl mapT ?_
               with_reducible refine (laws_toPuzzle.calls k a0_0 _ _ l0_1 t238 t239 _ ?side1 ?side2 A30.out).mono ?_
               (case side1 => repeat (first | exact (Kd.C_below HR0_1.out HB.out) | (with_reducible refine Kd.C_alloc ?_ _) | (with_reducible refine Kd.C_drewN ?_ _) | (with_reducible refine Kd.C_drew ?_)))
               (case side2 => exact HC0_1.out)
               rintro e w94 ⟨v240, rfl, ho0, hb⟩
               refine ⟨_, rfl, ?_⟩
               have n0_ := Aside0.mk (Kd.R_elder' (by (with_reducible repeat (first | apply Kd.R_alloc | apply Kd.R_drewN | apply Kd.R_drew)); exact HO202.out) (Kd.R_base ho0) hb)
               have n1_ := Aside0.mk (Kd.R_elder' (by (with_reducible repeat (first | apply Kd.R_alloc | apply Kd.R_drewN | apply Kd.R_drew)); exact HO209.out) (Kd.R_base ho0) hb)
               have n2_ := Aside0.mk (Kd.R_elder' (by (with_reducible repeat (first | apply Kd.R_alloc | apply Kd.R_drewN | apply Kd.R_drew)); exact HO215.out) (Kd.R_base ho0) hb)
               have n3_ := Aside0.mk (Kd.R_elder' (by (with_reducible repeat (first | apply Kd.R_alloc | apply Kd.R_drewN | apply Kd.R_drew)); exact HO223.out) (Kd.R_base ho0) hb)
               have n4_ := Aside0.mk (Kd.R_elder' (by (with_reducible repeat (first | apply Kd.R_alloc | apply Kd.R_drewN | apply Kd.R_drew)); exact HO230.out) (Kd.R_base ho0) hb)
               have n5_ := Aside0.mk (Kd.R_lower (Kd.R_new' (Kd.R_new' (Kd.R_new' (Kd.R_new' (Kd.R_new' ho0 (Kd.R_lt (by (with_reducible repeat (first | apply Kd.R_alloc | apply Kd.R_drewN | apply Kd.R_drew)); exact HO202.out))) (Kd.R_lt (by (with_reducible repeat (first | apply Kd.R_alloc | apply Kd.R_drewN | apply Kd.R_drew)); exact HO209.out))) (Kd.R_lt (by (with_reducible repeat (first | apply Kd.R_alloc | apply Kd.R_drewN | apply Kd.R_drew)); exact HO215.out))) (Kd.R_lt (by (with_reducible repeat (first | apply Kd.R_alloc | apply Kd.R_drewN | apply Kd.R_drew)); exact HO223.out))) (Kd.R_lt (by (with_reducible repeat (first | apply Kd.R_alloc | apply Kd.R_drewN | apply Kd.R_drew)); exact HO230.out))) (below_size hB))
               have n6_ := bS BK196 hb
               have n7_ := bS BK197 hb
               have n8_ := bS BK211 hb
               have n9_ := bS BK216 hb
               have n10_ := bS BK225 hb
               have n11_ := hS HB hb
               clear HO202
               clear HO209
               clear HO215
               clear HO223
               clear HO230
               clear BK196
               clear BK197
               clear BK211
               clear BK216
               clear BK225
               clear HB
               have HO202 := n0_
               have HO209 := n1_
               have HO215 := n2_
               have HO223 := n3_
               have HO230 := n4_
               have HO241 := n5_
               have BK196 := n6_
               have BK197 := n7_
               have BK211 := n8_
               have BK216 := n9_
               have BK225 := n10_
               have HB := n11_
               clear n0_ n1_ n2_ n3_ n4_ n5_ n6_ n7_ n8_ n9_ n10_ n11_
               (try clear hb)
               (try clear hb2)
               (try clear hk)
               (try clear hi)
               (try clear ho0)
               refine hK.out _ _ ⟨(blk_cell BK196.out 0).trans rfl, (blk_cell BK196.out 1).trans rfl, (blk_cell BK197.out 0).trans rfl, (blk_cell BK197.out 1).trans rfl, (blk_cell BK197.out 2).trans rfl⟩ (fun hHeld => ?_)
               clear hK K
               refine norm_ (a' := ?_) ?_ ?_
               rotate_left
               ·show Act.put _ (some 81) _ = _
                simp only [Act.put, List.setIfInBounds_toArray, List.set_cons_zero, List.set_cons_succ, i64_w, i32_w]
                rfl
               refine two_ (i := 3) (j := 8) (Ni := some 83) (Nj := some 14) (bz 11 15) (bz 11 263) rfl rfl rfl rfl (two_of HT_.out (by kernel_rfl)) (by decide) (by decide) (fun K hK => ?_) (fun K hK => ?_)
               ·skip
                refine goes_ Try.func8 (by kernel_rfl) rfl #[.agg #[.int .i64 a1_0, .int .i64 a1_1, .int .i64 a1_2]] (by rfl) rfl rfl mapT ?_
                with_reducible refine (laws_toClue.calls a1_0 a1_1 a1_2 t242 t243 t244 _ A31.out).mono ?_
                rintro e w95 ⟨rfl, hb⟩
                refine ⟨_, rfl, ?_⟩
                have n0_ := Aside0.mk (Kd.R_below (by (with_reducible repeat (first | apply Kd.R_alloc | apply Kd.R_drewN | apply Kd.R_drew)); exact HO202.out) hb)
                have n1_ := Aside0.mk (Kd.R_below (by (with_reducible repeat (first | apply Kd.R_alloc | apply Kd.R_drewN | apply Kd.R_drew)); exact HO209.out) hb)
                have n2_ := Aside0.mk (Kd.R_below (by (with_reducible repeat (first | apply Kd.R_alloc | apply Kd.R_drewN | apply Kd.R_drew)); exact HO215.out) hb)
                have n3_ := Aside0.mk (Kd.R_below (by (with_reducible repeat (first | apply Kd.R_alloc | apply Kd.R_drewN | apply Kd.R_drew)); exact HO223.out) hb)
                have n4_ := Aside0.mk (Kd.R_below (by (with_reducible repeat (first | apply Kd.R_alloc | apply Kd.R_drewN | apply Kd.R_drew)); exact HO230.out) hb)
                have n5_ := Aside0.mk (Kd.R_below (by (with_reducible repeat (first | apply Kd.R_alloc | apply Kd.R_drewN | apply Kd.R_drew)); exact HO241.out) hb)
                have n6_ := bS BK196 hb
                have n7_ := bS BK197 hb
                have n8_ := bS BK211 hb
                have n9_ := bS BK216 hb
                have n10_ := bS BK225 hb
                have n11_ := hS HB hb
                clear HO202
                clear HO209
                clear HO215
                clear HO223
                clear HO230
                clear HO241
                clear BK196
                clear BK197
                clear BK211
                clear BK216
                clear BK225
                clear HB
                have HO202 := n0_
                have HO209 := n1_
                have HO215 := n2_
                have HO223 := n3_
                have HO230 := n4_
                have HO241 := n5_
                have BK196 := n6_
                have BK197 := n7_
                have BK211 := n8_
                have BK216 := n9_
                have BK225 := n10_
                have HB := n11_
                clear n0_ n1_ n2_ n3_ n4_ n5_ n6_ n7_ n8_ n9_ n10_ n11_
                (try clear hb)
                (try clear hb2)
                (try clear hk)
                (try clear hi)
                obtain ⟨Ao96, co96, eo96⟩ := Kd.R_slice HO241.out
                (first | subst eo96 | (injection eo96 with f1_ f2_ f3_; have f4_ := f1_.symm; have f5_ := f3_.symm; clear f1_ f2_ f3_; subst f4_; subst f5_))
                refine hK.out _ _ ⟨(blk_cell BK196.out 0).trans rfl, (blk_cell BK196.out 1).trans rfl, (blk_cell BK197.out 0).trans rfl, (blk_cell BK197.out 1).trans rfl, (blk_cell BK197.out 2).trans rfl⟩ (fun hHeld => ?_)
                clear hK K
                refine norm_ (a' := ?_) ?_ ?_
                rotate_left
                ·show Act.put _ (some 83) _ = _
                 simp only [Act.put, List.setIfInBounds_toArray, List.set_cons_zero, List.set_cons_succ, i64_w, i32_w]
                 rfl
                refine two_ (i := 4) (j := 8) (Ni := some 84) (Nj := some 14) (bz 11 31) (bz 11 271) rfl rfl rfl rfl (two_of HT_.out (by kernel_rfl)) (by decide) (by decide) (fun K hK => ?_) (fun K hK => ?_)
                ·skip
                 refine goes_ Try.func21 (by kernel_rfl) rfl #[.agg #[.int .i64 t238, .slice Ao96 t239.length co96], .agg #[.int .i64 t242, .int .i64 t243, .int .i64 t244]] (by rfl) rfl rfl mapT ?_
                 with_reducible refine (impl_AddClue.calls k t238 _ _ t239 t242 t243 t244 t245 t246 t249 _ ?side1 ?side2 A32.out).mono ?_
                 (case side1 => repeat (first | exact (Kd.R_reads' HO241.out).2.2 | (with_reducible refine Kd.C_alloc ?_ _) | (with_reducible refine Kd.C_drewN ?_ _) | (with_reducible refine Kd.C_drew ?_)))
                 (case side2 => exact (Kd.R_reads' HO241.out).2.1)
                 rintro e w97 ⟨v247, rfl, ho0, hb⟩
                 refine ⟨_, rfl, ?_⟩
                 have n0_ := Aside0.mk (Kd.R_elder' (by (with_reducible repeat (first | apply Kd.R_alloc | apply Kd.R_drewN | apply Kd.R_drew)); exact HO202.out) (Kd.R_base ho0) hb)
                 have n1_ := Aside0.mk (Kd.R_elder' (by (with_reducible repeat (first | apply Kd.R_alloc | apply Kd.R_drewN | apply Kd.R_drew)); exact HO209.out) (Kd.R_base ho0) hb)
                 have n2_ := Aside0.mk (Kd.R_elder' (by (with_reducible repeat (first | apply Kd.R_alloc | apply Kd.R_drewN | apply Kd.R_drew)); exact HO215.out) (Kd.R_base ho0) hb)
                 have n3_ := Aside0.mk (Kd.R_elder' (by (with_reducible repeat (first | apply Kd.R_alloc | apply Kd.R_drewN | apply Kd.R_drew)); exact HO223.out) (Kd.R_base ho0) hb)
                 have n4_ := Aside0.mk (Kd.R_elder' (by (with_reducible repeat (first | apply Kd.R_alloc | apply Kd.R_drewN | apply Kd.R_drew)); exact HO230.out) (Kd.R_base ho0) hb)
                 have n5_ := Aside0.mk (Kd.R_elder' (by (with_reducible repeat (first | apply Kd.R_alloc | apply Kd.R_drewN | apply Kd.R_drew)); exact HO241.out) (Kd.R_base ho0) hb)
                 have n6_ := Aside0.mk (Kd.R_lower (Kd.R_new' (Kd.R_new' (Kd.R_new' (Kd.R_new' (Kd.R_new' (Kd.R_new' ho0 (Kd.R_lt (by (with_reducible repeat (first | apply Kd.R_alloc | apply Kd.R_drewN | apply Kd.R_drew)); exact HO202.out))) (Kd.R_lt (by (with_reducible repeat (first | apply Kd.R_alloc | apply Kd.R_drewN | apply Kd.R_drew)); exact HO209.out))) (Kd.R_lt (by (with_reducible repeat (first | apply Kd.R_alloc | apply Kd.R_drewN | apply Kd.R_drew)); exact HO215.out))) (Kd.R_lt (by (with_reducible repeat (first | apply Kd.R_alloc | apply Kd.R_drewN | apply Kd.R_drew)); exact HO223.out))) (Kd.R_lt (by (with_reducible repeat (first | apply Kd.R_alloc | apply Kd.R_drewN | apply Kd.R_drew)); exact HO230.out))) (Kd.R_lt (by (with_reducible repeat (first | apply Kd.R_alloc | apply Kd.R_drewN | apply Kd.R_drew)); exact HO241.out))) (below_size hB))
                 have n7_ := bS BK196 hb
                 have n8_ := bS BK197 hb
                 have n9_ := bS BK211 hb
                 have n10_ := bS BK216 hb
                 have n11_ := bS BK225 hb
                 have n12_ := hS HB hb
                 clear HO202
                 clear HO209
                 clear HO215
                 clear HO223
                 clear HO230
                 clear HO241
                 clear BK196
                 clear BK197
                 clear BK211
                 clear BK216
                 clear BK225
                 clear HB
                 have HO202 := n0_
                 have HO209 := n1_
                 have HO215 := n2_
                 have HO223 := n3_
                 have HO230 := n4_
                 have HO241 := n5_
                 have HO248 := n6_
                 have BK196 := n7_
                 have BK197 := n8_
                 have BK211 := n9_
                 have BK216 := n10_
                 have BK225 := n11_
                 have HB := n12_
                 clear n0_ n1_ n2_ n3_ n4_ n5_ n6_ n7_ n8_ n9_ n10_ n11_ n12_
                 (try clear hb)
                 (try clear hb2)
                 (try clear hk)
                 (try clear hi)
                 (try clear ho0)
                 refine hK.out _ _ ⟨(blk_cell BK196.out 0).trans rfl, (blk_cell BK196.out 1).trans rfl, (blk_cell BK197.out 0).trans rfl, (blk_cell BK197.out 1).trans rfl, (blk_cell BK197.out 2).trans rfl⟩ (fun hHeld => ?_)
                 clear hK K
                 refine norm_ (a' := ?_) ?_ ?_
                 rotate_left
                 ·show Act.put _ (some 84) _ = _
                  simp only [Act.put, List.setIfInBounds_toArray, List.set_cons_zero, List.set_cons_succ, i64_w, i32_w]
                  rfl
                 refine run_ [(0, 5, 63, some 79), (0, 6, 127, some 85), (0, 7, 255, some 86)] ?_
                 repeat ((apply tag0; refine run_p (v := ?_) (a' := ?_) rfl rfl (any_of HT_.out (by kernel_rfl)) (fun _ _ _ h => h) (by rfl) ?_ ?_ ?_; rotate_left 2; (intro w'; go_simp; with_reducible rfl); (first | (simp only [Act.put, List.setIfInBounds_toArray, List.set_cons_zero, List.set_cons_succ, i64_w, i32_w]; rfl) | rfl)))
                 refine run_nil ?_
                 refine one_ (i := 8) (N := some 14) (bz 11 511) rfl rfl (one_of HT_.out (by kernel_rfl)) (by decide) (fun K hK => ?_)
                 refine box_step ?hg (N := 14) ?hd (cs := #[.int .i64 0, .slice none 0 0]) (t := 35) ?hr ?_; (case hd => rfl); (case hg => rfl); (case hr => first | (go_simp; done) | (go_simp; rfl))
                 intro gb250 hg w98 hbox hb
                 have n0_ := Aside0.mk (Kd.R_below (by (with_reducible repeat (first | apply Kd.R_alloc | apply Kd.R_drewN | apply Kd.R_drew)); exact HO202.out) hb)
                 have n1_ := Aside0.mk (Kd.R_below (by (with_reducible repeat (first | apply Kd.R_alloc | apply Kd.R_drewN | apply Kd.R_drew)); exact HO209.out) hb)
                 have n2_ := Aside0.mk (Kd.R_below (by (with_reducible repeat (first | apply Kd.R_alloc | apply Kd.R_drewN | apply Kd.R_drew)); exact HO215.out) hb)
                 have n3_ := Aside0.mk (Kd.R_below (by (with_reducible repeat (first | apply Kd.R_alloc | apply Kd.R_drewN | apply Kd.R_drew)); exact HO223.out) hb)
                 have n4_ := Aside0.mk (Kd.R_below (by (with_reducible repeat (first | apply Kd.R_alloc | apply Kd.R_drewN | apply Kd.R_drew)); exact HO230.out) hb)
                 have n5_ := Aside0.mk (Kd.R_below (by (with_reducible repeat (first | apply Kd.R_alloc | apply Kd.R_drewN | apply Kd.R_drew)); exact HO241.out) hb)
                 have n6_ := Aside0.mk (Kd.R_below (by (with_reducible repeat (first | apply Kd.R_alloc | apply Kd.R_drewN | apply Kd.R_drew)); exact HO248.out) hb)
                 have n7_ := bS BK196 hb
                 have n8_ := bS BK197 hb
                 have n9_ := bS BK211 hb
                 have n10_ := bS BK216 hb
                 have n11_ := bS BK225 hb
                 have n12_ := hS HB hb
                 have n13_ := Aside0.mk (hbox)
                 have n14_ := gS HB hg
                 have n15_ := gS HB hg
                 have n16_ := nL BK196 hg
                 have n17_ := nG BK196 hg
                 have n18_ := nL BK197 hg
                 have n19_ := nG BK197 hg
                 have n20_ := nL BK211 hg
                 have n21_ := nG BK211 hg
                 have n22_ := nL BK216 hg
                 have n23_ := nG BK216 hg
                 have n24_ := nL BK225 hg
                 have n25_ := nG BK225 hg
                 clear HO202
                 clear HO209
                 clear HO215
                 clear HO223
                 clear HO230
                 clear HO241
                 clear HO248
                 clear BK196
                 clear BK197
                 clear BK211
                 clear BK216
                 clear BK225
                 clear HB
                 have HO202 := n0_
                 have HO209 := n1_
                 have HO215 := n2_
                 have HO223 := n3_
                 have HO230 := n4_
                 have HO241 := n5_
                 have HO248 := n6_
                 have BK196 := n7_
                 have BK197 := n8_
                 have BK211 := n9_
                 have BK216 := n10_
                 have BK225 := n11_
                 have HB := n12_
                 have BK250 := n13_
                 have GW250 := n14_
                 have GE250 := n15_
                 have NB196_250 := n16_
                 have NB250_196 := n17_
                 have NB197_250 := n18_
                 have NB250_197 := n19_
                 have NB211_250 := n20_
                 have NB250_211 := n21_
                 have NB216_250 := n22_
                 have NB250_216 := n23_
                 have NB225_250 := n24_
                 have NB250_225 := n25_
                 clear n0_ n1_ n2_ n3_ n4_ n5_ n6_ n7_ n8_ n9_ n10_ n11_ n12_ n13_ n14_ n15_ n16_ n17_ n18_ n19_ n20_ n21_ n22_ n23_ n24_ n25_
                 clear hb hbox hg
                 refine hK.out _ _ ⟨(blk_cell BK196.out 0).trans rfl, (blk_cell BK196.out 1).trans rfl, (blk_cell BK197.out 0).trans rfl, (blk_cell BK197.out 1).trans rfl, (blk_cell BK197.out 2).trans rfl⟩ (fun hHeld => ?_)
                 clear hK K
                 refine norm_ (a' := ?_) ?_ ?_
                 rotate_left
                 ·show Act.put _ (some 14) _ = _
                  simp only [Act.put, List.setIfInBounds_toArray, List.set_cons_zero, List.set_cons_succ, i64_w, i32_w]
                  rfl
                 exact norm_ (by simp only [putAll, Act.put, List.setIfInBounds_toArray, List.set_cons_zero, List.set_cons_succ]) (hCont (.slice Ao96 t239.length co96, v247, gb250) _ ⟨hHeld, (by (with_reducible repeat (first | apply Kd.R_alloc | apply Kd.R_drewN | apply Kd.R_drew)); exact Kd.R_mono HO202.out (fun _ hk => ⟨hk.1.1.1, ⟨hk.1.1.2.1, ⟨hk.1.1.2.2.1, ⟨hk.1.1.2.2.2, ⟨hk.1.2, hk.2⟩⟩⟩⟩⟩)), (by (with_reducible repeat (first | apply Kd.R_alloc | apply Kd.R_drewN | apply Kd.R_drew)); exact Kd.R_mono HO209.out (fun _ hk => ⟨hk.1.1.1, ⟨hk.1.1.2.1, ⟨hk.1.1.2.2.1, ⟨hk.1.1.2.2.2, ⟨hk.1.2, hk.2⟩⟩⟩⟩⟩)), (by (with_reducible repeat (first | apply Kd.R_alloc | apply Kd.R_drewN | apply Kd.R_drew)); exact Kd.R_mono HO215.out (fun _ hk => ⟨hk.1.1.1, ⟨hk.1.1.2.1, ⟨hk.1.1.2.2.1, ⟨hk.1.1.2.2.2, ⟨hk.1.2, hk.2⟩⟩⟩⟩⟩)), (by (with_reducible repeat (first | apply Kd.R_alloc | apply Kd.R_drewN | apply Kd.R_drew)); exact Kd.R_mono HO223.out (fun _ hk => ⟨hk.1.1.1, ⟨hk.1.1.2.1, ⟨hk.1.1.2.2.1, ⟨hk.1.1.2.2.2, ⟨hk.1.2, hk.2⟩⟩⟩⟩⟩)), (by (with_reducible repeat (first | apply Kd.R_alloc | apply Kd.R_drewN | apply Kd.R_drew)); exact Kd.R_mono HO230.out (fun _ hk => ⟨hk.1.1.1, ⟨hk.1.1.2.1, ⟨hk.1.1.2.2.1, ⟨hk.1.1.2.2.2, ⟨hk.1.2, hk.2⟩⟩⟩⟩⟩)), (by (with_reducible repeat (first | apply Kd.R_alloc | apply Kd.R_drewN | apply Kd.R_drew)); exact Kd.R_mono HO241.out (fun _ hk => ⟨hk.1.1.1.1.1.2, ⟨hk.1.1.1.1.2, ⟨hk.1.1.1.2, ⟨hk.1.1.2, ⟨hk.1.2, hk.2⟩⟩⟩⟩⟩)), (by (with_reducible repeat (first | apply Kd.R_alloc | apply Kd.R_drewN | apply Kd.R_drew)); exact Kd.R_mono HO248.out (fun _ hk => ⟨hk.1.1.1.1.1.2, ⟨hk.1.1.1.1.2, ⟨hk.1.1.1.2, ⟨hk.1.1.2, ⟨hk.1.2, hk.2⟩⟩⟩⟩⟩)), bK, bK, bK, bK, bK, bK, GW250.out, GE250.out, NB196_250.out, NB250_196.out, NB197_250.out, NB250_197.out, NB211_250.out, NB250_211.out, NB216_250.out, NB250_216.out, NB225_250.out, NB250_225.out, hB⟩)
                ·skip
                 refine box_step ?hg (N := 14) ?hd (cs := #[.int .i64 0, .slice none 0 0]) (t := 35) ?hr ?_; (case hd => rfl); (case hg => rfl); (case hr => first | (go_simp; done) | (go_simp; rfl))
                 intro gb250 hg w96 hbox hb
                 have n0_ := Aside0.mk (Kd.R_below (by (with_reducible repeat (first | apply Kd.R_alloc | apply Kd.R_drewN | apply Kd.R_drew)); exact HO202.out) hb)
                 have n1_ := Aside0.mk (Kd.R_below (by (with_reducible repeat (first | apply Kd.R_alloc | apply Kd.R_drewN | apply Kd.R_drew)); exact HO209.out) hb)
                 have n2_ := Aside0.mk (Kd.R_below (by (with_reducible repeat (first | apply Kd.R_alloc | apply Kd.R_drewN | apply Kd.R_drew)); exact HO215.out) hb)
                 have n3_ := Aside0.mk (Kd.R_below (by (with_reducible repeat (first | apply Kd.R_alloc | apply Kd.R_drewN | apply Kd.R_drew)); exact HO223.out) hb)
                 have n4_ := Aside0.mk (Kd.R_below (by (with_reducible repeat (first | apply Kd.R_alloc | apply Kd.R_drewN | apply Kd.R_drew)); exact HO230.out) hb)
                 have n5_ := Aside0.mk (Kd.R_below (by (with_reducible repeat (first | apply Kd.R_alloc | apply Kd.R_drewN | apply Kd.R_drew)); exact HO241.out) hb)
                 have n6_ := bS BK196 hb
                 have n7_ := bS BK197 hb
                 have n8_ := bS BK211 hb
                 have n9_ := bS BK216 hb
                 have n10_ := bS BK225 hb
                 have n11_ := hS HB hb
                 have n12_ := Aside0.mk (hbox)
                 have n13_ := gS HB hg
                 have n14_ := gS HB hg
                 have n15_ := nL BK196 hg
                 have n16_ := nG BK196 hg
                 have n17_ := nL BK197 hg
                 have n18_ := nG BK197 hg
                 have n19_ := nL BK211 hg
                 have n20_ := nG BK211 hg
                 have n21_ := nL BK216 hg
                 have n22_ := nG BK216 hg
                 have n23_ := nL BK225 hg
                 have n24_ := nG BK225 hg
                 clear HO202
                 clear HO209
                 clear HO215
                 clear HO223
                 clear HO230
                 clear HO241
                 clear BK196
                 clear BK197
                 clear BK211
                 clear BK216
                 clear BK225
                 clear HB
                 have HO202 := n0_
                 have HO209 := n1_
                 have HO215 := n2_
                 have HO223 := n3_
                 have HO230 := n4_
                 have HO241 := n5_
                 have BK196 := n6_
                 have BK197 := n7_
                 have BK211 := n8_
                 have BK216 := n9_
                 have BK225 := n10_
                 have HB := n11_
                 have BK250 := n12_
                 have GW250 := n13_
                 have GE250 := n14_
                 have NB196_250 := n15_
                 have NB250_196 := n16_
                 have NB197_250 := n17_
                 have NB250_197 := n18_
                 have NB211_250 := n19_
                 have NB250_211 := n20_
                 have NB216_250 := n21_
                 have NB250_216 := n22_
                 have NB225_250 := n23_
                 have NB250_225 := n24_
                 clear n0_ n1_ n2_ n3_ n4_ n5_ n6_ n7_ n8_ n9_ n10_ n11_ n12_ n13_ n14_ n15_ n16_ n17_ n18_ n19_ n20_ n21_ n22_ n23_ n24_
                 clear hb hbox hg
                 obtain ⟨Ao97, co97, eo97⟩ := Kd.R_slice HO241.out
                 (first | subst eo97 | (injection eo97 with f1_ f2_ f3_; have f4_ := f1_.symm; have f5_ := f3_.symm; clear f1_ f2_ f3_; subst f4_; subst f5_))
                 refine hK.out _ _ ⟨(blk_cell BK196.out 0).trans rfl, (blk_cell BK196.out 1).trans rfl, (blk_cell BK197.out 0).trans rfl, (blk_cell BK197.out 1).trans rfl, (blk_cell BK197.out 2).trans rfl⟩ (fun hHeld => ?_)
                 clear hK K
                 refine norm_ (a' := ?_) ?_ ?_
                 rotate_left
                 ·show Act.put _ (some 14) _ = _
                  simp only [Act.put, List.setIfInBounds_toArray, List.set_cons_zero, List.set_cons_succ, i64_w, i32_w]
                  rfl
                 refine one_ (i := 4) (N := some 84) (bz 11 287) rfl rfl (one_of HT_.out (by kernel_rfl)) (by decide) (fun K hK => ?_)
                 refine goes_ Try.func21 (by kernel_rfl) rfl #[.agg #[.int .i64 t238, .slice Ao97 t239.length co97], .agg #[.int .i64 t242, .int .i64 t243, .int .i64 t244]] (by rfl) rfl rfl mapT ?_
                 with_reducible refine (impl_AddClue.calls k t238 _ _ t239 t242 t243 t244 t245 t246 t249 _ ?side1 ?side2 A32.out).mono ?_
                 (case side1 => repeat (first | exact (Kd.R_reads' HO241.out).2.2 | (with_reducible refine Kd.C_alloc ?_ _) | (with_reducible refine Kd.C_drewN ?_ _) | (with_reducible refine Kd.C_drew ?_)))
                 (case side2 => exact (Kd.R_reads' HO241.out).2.1)
                 rintro e w98 ⟨v247, rfl, ho0, hb⟩
                 refine ⟨_, rfl, ?_⟩
                 have n0_ := Aside0.mk (Kd.R_elder' (by (with_reducible repeat (first | apply Kd.R_alloc | apply Kd.R_drewN | apply Kd.R_drew)); exact HO202.out) (Kd.R_base ho0) hb)
                 have n1_ := Aside0.mk (Kd.R_elder' (by (with_reducible repeat (first | apply Kd.R_alloc | apply Kd.R_drewN | apply Kd.R_drew)); exact HO209.out) (Kd.R_base ho0) hb)
                 have n2_ := Aside0.mk (Kd.R_elder' (by (with_reducible repeat (first | apply Kd.R_alloc | apply Kd.R_drewN | apply Kd.R_drew)); exact HO215.out) (Kd.R_base ho0) hb)
                 have n3_ := Aside0.mk (Kd.R_elder' (by (with_reducible repeat (first | apply Kd.R_alloc | apply Kd.R_drewN | apply Kd.R_drew)); exact HO223.out) (Kd.R_base ho0) hb)
                 have n4_ := Aside0.mk (Kd.R_elder' (by (with_reducible repeat (first | apply Kd.R_alloc | apply Kd.R_drewN | apply Kd.R_drew)); exact HO230.out) (Kd.R_base ho0) hb)
                 have n5_ := Aside0.mk (Kd.R_elder' (by (with_reducible repeat (first | apply Kd.R_alloc | apply Kd.R_drewN | apply Kd.R_drew)); exact HO241.out) (Kd.R_base ho0) hb)
                 have n6_ := Aside0.mk (Kd.R_lower (Kd.R_new' (Kd.R_new' (Kd.R_new' (Kd.R_new' (Kd.R_new' (Kd.R_new' ho0 (Kd.R_lt (by (with_reducible repeat (first | apply Kd.R_alloc | apply Kd.R_drewN | apply Kd.R_drew)); exact HO202.out))) (Kd.R_lt (by (with_reducible repeat (first | apply Kd.R_alloc | apply Kd.R_drewN | apply Kd.R_drew)); exact HO209.out))) (Kd.R_lt (by (with_reducible repeat (first | apply Kd.R_alloc | apply Kd.R_drewN | apply Kd.R_drew)); exact HO215.out))) (Kd.R_lt (by (with_reducible repeat (first | apply Kd.R_alloc | apply Kd.R_drewN | apply Kd.R_drew)); exact HO223.out))) (Kd.R_lt (by (with_reducible repeat (first | apply Kd.R_alloc | apply Kd.R_drewN | apply Kd.R_drew)); exact HO230.out))) (Kd.R_lt (by (with_reducible repeat (first | apply Kd.R_alloc | apply Kd.R_drewN | apply Kd.R_drew)); exact HO241.out))) (below_size hB))
                 have n7_ := bS BK196 hb
                 have n8_ := bS BK197 hb
                 have n9_ := bS BK211 hb
                 have n10_ := bS BK216 hb
                 have n11_ := bS BK225 hb
                 have n12_ := bS BK250 hb
                 have n13_ := hS HB hb
                 clear HO202
                 clear HO209
                 clear HO215
                 clear HO223
                 clear HO230
                 clear HO241
                 clear BK196
                 clear BK197
                 clear BK211
                 clear BK216
                 clear BK225
                 clear BK250
                 clear HB
                 have HO202 := n0_
                 have HO209 := n1_
                 have HO215 := n2_
                 have HO223 := n3_
                 have HO230 := n4_
                 have HO241 := n5_
                 have HO248 := n6_
                 have BK196 := n7_
                 have BK197 := n8_
                 have BK211 := n9_
                 have BK216 := n10_
                 have BK225 := n11_
                 have BK250 := n12_
                 have HB := n13_
                 clear n0_ n1_ n2_ n3_ n4_ n5_ n6_ n7_ n8_ n9_ n10_ n11_ n12_ n13_
                 (try clear hb)
                 (try clear hb2)
                 (try clear hk)
                 (try clear hi)
                 (try clear ho0)
                 refine hK.out _ _ ⟨(blk_cell BK196.out 0).trans rfl, (blk_cell BK196.out 1).trans rfl, (blk_cell BK197.out 0).trans rfl, (blk_cell BK197.out 1).trans rfl, (blk_cell BK197.out 2).trans rfl⟩ (fun hHeld => ?_)
                 clear hK K
                 refine norm_ (a' := ?_) ?_ ?_
                 rotate_left
                 ·show Act.put _ (some 84) _ = _
                  simp only [Act.put, List.setIfInBounds_toArray, List.set_cons_zero, List.set_cons_succ, i64_w, i32_w]
                  rfl
                 refine run_ [(0, 5, 319, some 79), (0, 6, 383, some 85), (0, 7, 511, some 86)] ?_
                 repeat ((apply tag0; refine run_p (v := ?_) (a' := ?_) rfl rfl (any_of HT_.out (by kernel_rfl)) (fun _ _ _ h => h) (by rfl) ?_ ?_ ?_; rotate_left 2; (intro w'; go_simp; with_reducible rfl); (first | (simp only [Act.put, List.setIfInBounds_toArray, List.set_cons_zero, List.set_cons_succ, i64_w, i32_w]; rfl) | rfl)))
                 refine run_nil ?_
                 exact norm_ (by simp only [putAll, Act.put, List.setIfInBounds_toArray, List.set_cons_zero, List.set_cons_succ]) (hCont (.slice Ao97 t239.length co97, v247, gb250) _ ⟨hHeld, (by (with_reducible repeat (first | apply Kd.R_alloc | apply Kd.R_drewN | apply Kd.R_drew)); exact Kd.R_mono HO202.out (fun _ hk => ⟨hk.1.1.1, ⟨hk.1.1.2.1, ⟨hk.1.1.2.2.1, ⟨hk.1.1.2.2.2, ⟨hk.1.2, hk.2⟩⟩⟩⟩⟩)), (by (with_reducible repeat (first | apply Kd.R_alloc | apply Kd.R_drewN | apply Kd.R_drew)); exact Kd.R_mono HO209.out (fun _ hk => ⟨hk.1.1.1, ⟨hk.1.1.2.1, ⟨hk.1.1.2.2.1, ⟨hk.1.1.2.2.2, ⟨hk.1.2, hk.2⟩⟩⟩⟩⟩)), (by (with_reducible repeat (first | apply Kd.R_alloc | apply Kd.R_drewN | apply Kd.R_drew)); exact Kd.R_mono HO215.out (fun _ hk => ⟨hk.1.1.1, ⟨hk.1.1.2.1, ⟨hk.1.1.2.2.1, ⟨hk.1.1.2.2.2, ⟨hk.1.2, hk.2⟩⟩⟩⟩⟩)), (by (with_reducible repeat (first | apply Kd.R_alloc | apply Kd.R_drewN | apply Kd.R_drew)); exact Kd.R_mono HO223.out (fun _ hk => ⟨hk.1.1.1, ⟨hk.1.1.2.1, ⟨hk.1.1.2.2.1, ⟨hk.1.1.2.2.2, ⟨hk.1.2, hk.2⟩⟩⟩⟩⟩)), (by (with_reducible repeat (first | apply Kd.R_alloc | apply Kd.R_drewN | apply Kd.R_drew)); exact Kd.R_mono HO230.out (fun _ hk => ⟨hk.1.1.1, ⟨hk.1.1.2.1, ⟨hk.1.1.2.2.1, ⟨hk.1.1.2.2.2, ⟨hk.1.2, hk.2⟩⟩⟩⟩⟩)), (by (with_reducible repeat (first | apply Kd.R_alloc | apply Kd.R_drewN | apply Kd.R_drew)); exact Kd.R_mono HO241.out (fun _ hk => ⟨hk.1.1.1.1.1.2, ⟨hk.1.1.1.1.2, ⟨hk.1.1.1.2, ⟨hk.1.1.2, ⟨hk.1.2, hk.2⟩⟩⟩⟩⟩)), (by (with_reducible repeat (first | apply Kd.R_alloc | apply Kd.R_drewN | apply Kd.R_drew)); exact Kd.R_mono HO248.out (fun _ hk => ⟨hk.1.1.1.1.1.2, ⟨hk.1.1.1.1.2, ⟨hk.1.1.1.2, ⟨hk.1.1.2, ⟨hk.1.2, hk.2⟩⟩⟩⟩⟩)), bK, bK, bK, bK, bK, bK, GW250.out, GE250.out, NB196_250.out, NB250_196.out, NB197_250.out, NB250_197.out, NB211_250.out, NB250_211.out, NB216_250.out, NB250_216.out, NB225_250.out, NB250_225.out, hB⟩)
               ·skip
                refine box_step ?hg (N := 14) ?hd (cs := #[.int .i64 0, .slice none 0 0]) (t := 35) ?hr ?_; (case hd => rfl); (case hg => rfl); (case hr => first | (go_simp; done) | (go_simp; rfl))
                intro gb250 hg w95 hbox hb
                have n0_ := Aside0.mk (Kd.R_below (by (with_reducible repeat (first | apply Kd.R_alloc | apply Kd.R_drewN | apply Kd.R_drew)); exact HO202.out) hb)
                have n1_ := Aside0.mk (Kd.R_below (by (with_reducible repeat (first | apply Kd.R_alloc | apply Kd.R_drewN | apply Kd.R_drew)); exact HO209.out) hb)
                have n2_ := Aside0.mk (Kd.R_below (by (with_reducible repeat (first | apply Kd.R_alloc | apply Kd.R_drewN | apply Kd.R_drew)); exact HO215.out) hb)
                have n3_ := Aside0.mk (Kd.R_below (by (with_reducible repeat (first | apply Kd.R_alloc | apply Kd.R_drewN | apply Kd.R_drew)); exact HO223.out) hb)
                have n4_ := Aside0.mk (Kd.R_below (by (with_reducible repeat (first | apply Kd.R_alloc | apply Kd.R_drewN | apply Kd.R_drew)); exact HO230.out) hb)
                have n5_ := Aside0.mk (Kd.R_below (by (with_reducible repeat (first | apply Kd.R_alloc | apply Kd.R_drewN | apply Kd.R_drew)); exact HO241.out) hb)
                have n6_ := bS BK196 hb
                have n7_ := bS BK197 hb
                have n8_ := bS BK211 hb
                have n9_ := bS BK216 hb
                have n10_ := bS BK225 hb
                have n11_ := hS HB hb
                have n12_ := Aside0.mk (hbox)
                have n13_ := gS HB hg
                have n14_ := gS HB hg
                have n15_ := nL BK196 hg
                have n16_ := nG BK196 hg
                have n17_ := nL BK197 hg
                have n18_ := nG BK197 hg
                have n19_ := nL BK211 hg
                have n20_ := nG BK211 hg
                have n21_ := nL BK216 hg
                have n22_ := nG BK216 hg
                have n23_ := nL BK225 hg
                have n24_ := nG BK225 hg
                clear HO202
                clear HO209
                clear HO215
                clear HO223
                clear HO230
                clear HO241
                clear BK196
                clear BK197
                clear BK211
                clear BK216
                clear BK225
                clear HB
                have HO202 := n0_
                have HO209 := n1_
                have HO215 := n2_
                have HO223 := n3_
                have HO230 := n4_
                have HO241 := n5_
                have BK196 := n6_
                have BK197 := n7_
                have BK211 := n8_
                have BK216 := n9_
                have BK225 := n10_
                have HB := n11_
                have BK250 := n12_
                have GW250 := n13_
                have GE250 := n14_
                have NB196_250 := n15_
                have NB250_196 := n16_
                have NB197_250 := n17_
                have NB250_197 := n18_
                have NB211_250 := n19_
                have NB250_211 := n20_
                have NB216_250 := n21_
                have NB250_216 := n22_
                have NB225_250 := n23_
                have NB250_225 := n24_
                clear n0_ n1_ n2_ n3_ n4_ n5_ n6_ n7_ n8_ n9_ n10_ n11_ n12_ n13_ n14_ n15_ n16_ n17_ n18_ n19_ n20_ n21_ n22_ n23_ n24_
                clear hb hbox hg
                refine hK.out _ _ ⟨(blk_cell BK196.out 0).trans rfl, (blk_cell BK196.out 1).trans rfl, (blk_cell BK197.out 0).trans rfl, (blk_cell BK197.out 1).trans rfl, (blk_cell BK197.out 2).trans rfl⟩ (fun hHeld => ?_)
                clear hK K
                refine norm_ (a' := ?_) ?_ ?_
                rotate_left
                ·show Act.put _ (some 14) _ = _
                 simp only [Act.put, List.setIfInBounds_toArray, List.set_cons_zero, List.set_cons_succ, i64_w, i32_w]
                 rfl
                refine one_ (i := 3) (N := some 83) (bz 11 271) rfl rfl (one_of HT_.out (by kernel_rfl)) (by decide) (fun K hK => ?_)
                refine goes_ Try.func8 (by kernel_rfl) rfl #[.agg #[.int .i64 a1_0, .int .i64 a1_1, .int .i64 a1_2]] (by rfl) rfl rfl mapT ?_
                with_reducible refine (laws_toClue.calls a1_0 a1_1 a1_2 t242 t243 t244 _ A31.out).mono ?_
                rintro e w96 ⟨rfl, hb⟩
                refine ⟨_, rfl, ?_⟩
                have n0_ := Aside0.mk (Kd.R_below (by (with_reducible repeat (first | apply Kd.R_alloc | apply Kd.R_drewN | apply Kd.R_drew)); exact HO202.out) hb)
                have n1_ := Aside0.mk (Kd.R_below (by (with_reducible repeat (first | apply Kd.R_alloc | apply Kd.R_drewN | apply Kd.R_drew)); exact HO209.out) hb)
                have n2_ := Aside0.mk (Kd.R_below (by (with_reducible repeat (first | apply Kd.R_alloc | apply Kd.R_drewN | apply Kd.R_drew)); exact HO215.out) hb)
                have n3_ := Aside0.mk (Kd.R_below (by (with_reducible repeat (first | apply Kd.R_alloc | apply Kd.R_drewN | apply Kd.R_drew)); exact HO223.out) hb)
                have n4_ := Aside0.mk (Kd.R_below (by (with_reducible repeat (first | apply Kd.R_alloc | apply Kd.R_drewN | apply Kd.R_drew)); exact HO230.out) hb)
                have n5_ := Aside0.mk (Kd.R_below (by (with_reducible repeat (first | apply Kd.R_alloc | apply Kd.R_drewN | apply Kd.R_drew)); exact HO241.out) hb)
                have n6_ := bS BK196 hb
                have n7_ := bS BK197 hb
                have n8_ := bS BK211 hb
                have n9_ := bS BK216 hb
                have n10_ := bS BK225 hb
                have n11_ := bS BK250 hb
                have n12_ := hS HB hb
                clear HO202
                clear HO209
                clear HO215
                clear HO223
                clear HO230
                clear HO241
                clear BK196
                clear BK197
                clear BK211
                clear BK216
                clear BK225
                clear BK250
                clear HB
                have HO202 := n0_
                have HO209 := n1_
                have HO215 := n2_
                have HO223 := n3_
                have HO230 := n4_
                have HO241 := n5_
                have BK196 := n6_
                have BK197 := n7_
                have BK211 := n8_
                have BK216 := n9_
                have BK225 := n10_
                have BK250 := n11_
                have HB := n12_
                clear n0_ n1_ n2_ n3_ n4_ n5_ n6_ n7_ n8_ n9_ n10_ n11_ n12_
                (try clear hb)
                (try clear hb2)
                (try clear hk)
                (try clear hi)
                obtain ⟨Ao97, co97, eo97⟩ := Kd.R_slice HO241.out
                (first | subst eo97 | (injection eo97 with f1_ f2_ f3_; have f4_ := f1_.symm; have f5_ := f3_.symm; clear f1_ f2_ f3_; subst f4_; subst f5_))
                refine hK.out _ _ ⟨(blk_cell BK196.out 0).trans rfl, (blk_cell BK196.out 1).trans rfl, (blk_cell BK197.out 0).trans rfl, (blk_cell BK197.out 1).trans rfl, (blk_cell BK197.out 2).trans rfl⟩ (fun hHeld => ?_)
                clear hK K
                refine norm_ (a' := ?_) ?_ ?_
                rotate_left
                ·show Act.put _ (some 83) _ = _
                 simp only [Act.put, List.setIfInBounds_toArray, List.set_cons_zero, List.set_cons_succ, i64_w, i32_w]
                 rfl
                refine one_ (i := 4) (N := some 84) (bz 11 287) rfl rfl (one_of HT_.out (by kernel_rfl)) (by decide) (fun K hK => ?_)
                refine goes_ Try.func21 (by kernel_rfl) rfl #[.agg #[.int .i64 t238, .slice Ao97 t239.length co97], .agg #[.int .i64 t242, .int .i64 t243, .int .i64 t244]] (by rfl) rfl rfl mapT ?_
                with_reducible refine (impl_AddClue.calls k t238 _ _ t239 t242 t243 t244 t245 t246 t249 _ ?side1 ?side2 A32.out).mono ?_
                (case side1 => repeat (first | exact (Kd.R_reads' HO241.out).2.2 | (with_reducible refine Kd.C_alloc ?_ _) | (with_reducible refine Kd.C_drewN ?_ _) | (with_reducible refine Kd.C_drew ?_)))
                (case side2 => exact (Kd.R_reads' HO241.out).2.1)
                rintro e w98 ⟨v247, rfl, ho0, hb⟩
                refine ⟨_, rfl, ?_⟩
                have n0_ := Aside0.mk (Kd.R_elder' (by (with_reducible repeat (first | apply Kd.R_alloc | apply Kd.R_drewN | apply Kd.R_drew)); exact HO202.out) (Kd.R_base ho0) hb)
                have n1_ := Aside0.mk (Kd.R_elder' (by (with_reducible repeat (first | apply Kd.R_alloc | apply Kd.R_drewN | apply Kd.R_drew)); exact HO209.out) (Kd.R_base ho0) hb)
                have n2_ := Aside0.mk (Kd.R_elder' (by (with_reducible repeat (first | apply Kd.R_alloc | apply Kd.R_drewN | apply Kd.R_drew)); exact HO215.out) (Kd.R_base ho0) hb)
                have n3_ := Aside0.mk (Kd.R_elder' (by (with_reducible repeat (first | apply Kd.R_alloc | apply Kd.R_drewN | apply Kd.R_drew)); exact HO223.out) (Kd.R_base ho0) hb)
                have n4_ := Aside0.mk (Kd.R_elder' (by (with_reducible repeat (first | apply Kd.R_alloc | apply Kd.R_drewN | apply Kd.R_drew)); exact HO230.out) (Kd.R_base ho0) hb)
                have n5_ := Aside0.mk (Kd.R_elder' (by (with_reducible repeat (first | apply Kd.R_alloc | apply Kd.R_drewN | apply Kd.R_drew)); exact HO241.out) (Kd.R_base ho0) hb)
                have n6_ := Aside0.mk (Kd.R_lower (Kd.R_new' (Kd.R_new' (Kd.R_new' (Kd.R_new' (Kd.R_new' (Kd.R_new' ho0 (Kd.R_lt (by (with_reducible repeat (first | apply Kd.R_alloc | apply Kd.R_drewN | apply Kd.R_drew)); exact HO202.out))) (Kd.R_lt (by (with_reducible repeat (first | apply Kd.R_alloc | apply Kd.R_drewN | apply Kd.R_drew)); exact HO209.out))) (Kd.R_lt (by (with_reducible repeat (first | apply Kd.R_alloc | apply Kd.R_drewN | apply Kd.R_drew)); exact HO215.out))) (Kd.R_lt (by (with_reducible repeat (first | apply Kd.R_alloc | apply Kd.R_drewN | apply Kd.R_drew)); exact HO223.out))) (Kd.R_lt (by (with_reducible repeat (first | apply Kd.R_alloc | apply Kd.R_drewN | apply Kd.R_drew)); exact HO230.out))) (Kd.R_lt (by (with_reducible repeat (first | apply Kd.R_alloc | apply Kd.R_drewN | apply Kd.R_drew)); exact HO241.out))) (below_size hB))
                have n7_ := bS BK196 hb
                have n8_ := bS BK197 hb
                have n9_ := bS BK211 hb
                have n10_ := bS BK216 hb
                have n11_ := bS BK225 hb
                have n12_ := bS BK250 hb
                have n13_ := hS HB hb
                clear HO202
                clear HO209
                clear HO215
                clear HO223
                clear HO230
                clear HO241
                clear BK196
                clear BK197
                clear BK211
                clear BK216
                clear BK225
                clear BK250
                clear HB
                have HO202 := n0_
                have HO209 := n1_
                have HO215 := n2_
                have HO223 := n3_
                have HO230 := n4_
                have HO241 := n5_
                have HO248 := n6_
                have BK196 := n7_
                have BK197 := n8_
                have BK211 := n9_
                have BK216 := n10_
                have BK225 := n11_
                have BK250 := n12_
                have HB := n13_
                clear n0_ n1_ n2_ n3_ n4_ n5_ n6_ n7_ n8_ n9_ n10_ n11_ n12_ n13_
                (try clear hb)
                (try clear hb2)
                (try clear hk)
                (try clear hi)
                (try clear ho0)
                refine hK.out _ _ ⟨(blk_cell BK196.out 0).trans rfl, (blk_cell BK196.out 1).trans rfl, (blk_cell BK197.out 0).trans rfl, (blk_cell BK197.out 1).trans rfl, (blk_cell BK197.out 2).trans rfl⟩ (fun hHeld => ?_)
                clear hK K
                refine norm_ (a' := ?_) ?_ ?_
                rotate_left
                ·show Act.put _ (some 84) _ = _
                 simp only [Act.put, List.setIfInBounds_toArray, List.set_cons_zero, List.set_cons_succ, i64_w, i32_w]
                 rfl
                refine run_ [(0, 5, 319, some 79), (0, 6, 383, some 85), (0, 7, 511, some 86)] ?_
                repeat ((apply tag0; refine run_p (v := ?_) (a' := ?_) rfl rfl (any_of HT_.out (by kernel_rfl)) (fun _ _ _ h => h) (by rfl) ?_ ?_ ?_; rotate_left 2; (intro w'; go_simp; with_reducible rfl); (first | (simp only [Act.put, List.setIfInBounds_toArray, List.set_cons_zero, List.set_cons_succ, i64_w, i32_w]; rfl) | rfl)))
                refine run_nil ?_
                exact norm_ (by simp only [putAll, Act.put, List.setIfInBounds_toArray, List.set_cons_zero, List.set_cons_succ]) (hCont (.slice Ao97 t239.length co97, v247, gb250) _ ⟨hHeld, (by (with_reducible repeat (first | apply Kd.R_alloc | apply Kd.R_drewN | apply Kd.R_drew)); exact Kd.R_mono HO202.out (fun _ hk => ⟨hk.1.1.1, ⟨hk.1.1.2.1, ⟨hk.1.1.2.2.1, ⟨hk.1.1.2.2.2, ⟨hk.1.2, hk.2⟩⟩⟩⟩⟩)), (by (with_reducible repeat (first | apply Kd.R_alloc | apply Kd.R_drewN | apply Kd.R_drew)); exact Kd.R_mono HO209.out (fun _ hk => ⟨hk.1.1.1, ⟨hk.1.1.2.1, ⟨hk.1.1.2.2.1, ⟨hk.1.1.2.2.2, ⟨hk.1.2, hk.2⟩⟩⟩⟩⟩)), (by (with_reducible repeat (first | apply Kd.R_alloc | apply Kd.R_drewN | apply Kd.R_drew)); exact Kd.R_mono HO215.out (fun _ hk => ⟨hk.1.1.1, ⟨hk.1.1.2.1, ⟨hk.1.1.2.2.1, ⟨hk.1.1.2.2.2, ⟨hk.1.2, hk.2⟩⟩⟩⟩⟩)), (by (with_reducible repeat (first | apply Kd.R_alloc | apply Kd.R_drewN | apply Kd.R_drew)); exact Kd.R_mono HO223.out (fun _ hk => ⟨hk.1.1.1, ⟨hk.1.1.2.1, ⟨hk.1.1.2.2.1, ⟨hk.1.1.2.2.2, ⟨hk.1.2, hk.2⟩⟩⟩⟩⟩)), (by (with_reducible repeat (first | apply Kd.R_alloc | apply Kd.R_drewN | apply Kd.R_drew)); exact Kd.R_mono HO230.out (fun _ hk => ⟨hk.1.1.1, ⟨hk.1.1.2.1, ⟨hk.1.1.2.2.1, ⟨hk.1.1.2.2.2, ⟨hk.1.2, hk.2⟩⟩⟩⟩⟩)), (by (with_reducible repeat (first | apply Kd.R_alloc | apply Kd.R_drewN | apply Kd.R_drew)); exact Kd.R_mono HO241.out (fun _ hk => ⟨hk.1.1.1.1.1.2, ⟨hk.1.1.1.1.2, ⟨hk.1.1.1.2, ⟨hk.1.1.2, ⟨hk.1.2, hk.2⟩⟩⟩⟩⟩)), (by (with_reducible repeat (first | apply Kd.R_alloc | apply Kd.R_drewN | apply Kd.R_drew)); exact Kd.R_mono HO248.out (fun _ hk => ⟨hk.1.1.1.1.1.2, ⟨hk.1.1.1.1.2, ⟨hk.1.1.1.2, ⟨hk.1.1.2, ⟨hk.1.2, hk.2⟩⟩⟩⟩⟩)), bK, bK, bK, bK, bK, bK, GW250.out, GE250.out, NB196_250.out, NB250_196.out, NB197_250.out, NB250_197.out, NB211_250.out, NB250_211.out, NB216_250.out, NB250_216.out, NB225_250.out, NB250_225.out, hB⟩)
              ·skip
               refine box_step ?hg (N := 14) ?hd (cs := #[.int .i64 0, .slice none 0 0]) (t := 35) ?hr ?_; (case hd => rfl); (case hg => rfl); (case hr => first | (go_simp; done) | (go_simp; rfl))
               intro gb250 hg w94 hbox hb
               have n0_ := Aside0.mk (Kd.R_below (by (with_reducible repeat (first | apply Kd.R_alloc | apply Kd.R_drewN | apply Kd.R_drew)); exact HO202.out) hb)
               have n1_ := Aside0.mk (Kd.R_below (by (with_reducible repeat (first | apply Kd.R_alloc | apply Kd.R_drewN | apply Kd.R_drew)); exact HO209.out) hb)
               have n2_ := Aside0.mk (Kd.R_below (by (with_reducible repeat (first | apply Kd.R_alloc | apply Kd.R_drewN | apply Kd.R_drew)); exact HO215.out) hb)
               have n3_ := Aside0.mk (Kd.R_below (by (with_reducible repeat (first | apply Kd.R_alloc | apply Kd.R_drewN | apply Kd.R_drew)); exact HO223.out) hb)
               have n4_ := Aside0.mk (Kd.R_below (by (with_reducible repeat (first | apply Kd.R_alloc | apply Kd.R_drewN | apply Kd.R_drew)); exact HO230.out) hb)
               have n5_ := bS BK196 hb
               have n6_ := bS BK197 hb
               have n7_ := bS BK211 hb
               have n8_ := bS BK216 hb
               have n9_ := bS BK225 hb
               have n10_ := hS HB hb
               have n11_ := Aside0.mk (hbox)
               have n12_ := gS HB hg
               have n13_ := gS HB hg
               have n14_ := nL BK196 hg
               have n15_ := nG BK196 hg
               have n16_ := nL BK197 hg
               have n17_ := nG BK197 hg
               have n18_ := nL BK211 hg
               have n19_ := nG BK211 hg
               have n20_ := nL BK216 hg
               have n21_ := nG BK216 hg
               have n22_ := nL BK225 hg
               have n23_ := nG BK225 hg
               clear HO202
               clear HO209
               clear HO215
               clear HO223
               clear HO230
               clear BK196
               clear BK197
               clear BK211
               clear BK216
               clear BK225
               clear HB
               have HO202 := n0_
               have HO209 := n1_
               have HO215 := n2_
               have HO223 := n3_
               have HO230 := n4_
               have BK196 := n5_
               have BK197 := n6_
               have BK211 := n7_
               have BK216 := n8_
               have BK225 := n9_
               have HB := n10_
               have BK250 := n11_
               have GW250 := n12_
               have GE250 := n13_
               have NB196_250 := n14_
               have NB250_196 := n15_
               have NB197_250 := n16_
               have NB250_197 := n17_
               have NB211_250 := n18_
               have NB250_211 := n19_
               have NB216_250 := n20_
               have NB250_216 := n21_
               have NB225_250 := n22_
               have NB250_225 := n23_
               clear n0_ n1_ n2_ n3_ n4_ n5_ n6_ n7_ n8_ n9_ n10_ n11_ n12_ n13_ n14_ n15_ n16_ n17_ n18_ n19_ n20_ n21_ n22_ n23_
               clear hb hbox hg
               refine hK.out _ _ ⟨(blk_cell BK196.out 0).trans rfl, (blk_cell BK196.out 1).trans rfl, (blk_cell BK197.out 0).trans rfl, (blk_cell BK197.out 1).trans rfl, (blk_cell BK197.out 2).trans rfl⟩ (fun hHeld => ?_)
               clear hK K
               refine norm_ (a' := ?_) ?_ ?_
               rotate_left
               ·show Act.put _ (some 14) _ = _
                simp only [Act.put, List.setIfInBounds_toArray, List.set_cons_zero, List.set_cons_succ, i64_w, i32_w]
                rfl
               refine one_ (i := 1) (N := some 81) (bz 11 263) rfl rfl (one_of HT_.out (by kernel_rfl)) (by decide) (fun K hK => ?_)
               refine goes_ Try.func12 (by kernel_rfl) rfl #[.agg #[.int .i64 a0_0, .slice A0_1 l0_1.length c0_1]] (by rfl) rfl rfl mapT ?_
               with_reducible refine (laws_toPuzzle.calls k a0_0 _ _ l0_1 t238 t239 _ ?side1 ?side2 A30.out).mono ?_
               (case side1 => repeat (first | exact (Kd.C_below HR0_1.out HB.out) | (with_reducible refine Kd.C_alloc ?_ _) | (with_reducible refine Kd.C_drewN ?_ _) | (with_reducible refine Kd.C_drew ?_)))
               (case side2 => exact HC0_1.out)
               rintro e w95 ⟨v240, rfl, ho0, hb⟩
               refine ⟨_, rfl, ?_⟩
               have n0_ := Aside0.mk (Kd.R_elder' (by (with_reducible repeat (first | apply Kd.R_alloc | apply Kd.R_drewN | apply Kd.R_drew)); exact HO202.out) (Kd.R_base ho0) hb)
               have n1_ := Aside0.mk (Kd.R_elder' (by (with_reducible repeat (first | apply Kd.R_alloc | apply Kd.R_drewN | apply Kd.R_drew)); exact HO209.out) (Kd.R_base ho0) hb)
               have n2_ := Aside0.mk (Kd.R_elder' (by (with_reducible repeat (first | apply Kd.R_alloc | apply Kd.R_drewN | apply Kd.R_drew)); exact HO215.out) (Kd.R_base ho0) hb)
               have n3_ := Aside0.mk (Kd.R_elder' (by (with_reducible repeat (first | apply Kd.R_alloc | apply Kd.R_drewN | apply Kd.R_drew)); exact HO223.out) (Kd.R_base ho0) hb)
               have n4_ := Aside0.mk (Kd.R_elder' (by (with_reducible repeat (first | apply Kd.R_alloc | apply Kd.R_drewN | apply Kd.R_drew)); exact HO230.out) (Kd.R_base ho0) hb)
               have n5_ := Aside0.mk (Kd.R_lower (Kd.R_new' (Kd.R_new' (Kd.R_new' (Kd.R_new' (Kd.R_new' ho0 (Kd.R_lt (by (with_reducible repeat (first | apply Kd.R_alloc | apply Kd.R_drewN | apply Kd.R_drew)); exact HO202.out))) (Kd.R_lt (by (with_reducible repeat (first | apply Kd.R_alloc | apply Kd.R_drewN | apply Kd.R_drew)); exact HO209.out))) (Kd.R_lt (by (with_reducible repeat (first | apply Kd.R_alloc | apply Kd.R_drewN | apply Kd.R_drew)); exact HO215.out))) (Kd.R_lt (by (with_reducible repeat (first | apply Kd.R_alloc | apply Kd.R_drewN | apply Kd.R_drew)); exact HO223.out))) (Kd.R_lt (by (with_reducible repeat (first | apply Kd.R_alloc | apply Kd.R_drewN | apply Kd.R_drew)); exact HO230.out))) (below_size hB))
               have n6_ := bS BK196 hb
               have n7_ := bS BK197 hb
               have n8_ := bS BK211 hb
               have n9_ := bS BK216 hb
               have n10_ := bS BK225 hb
               have n11_ := bS BK250 hb
               have n12_ := hS HB hb
               clear HO202
               clear HO209
               clear HO215
               clear HO223
               clear HO230
               clear BK196
               clear BK197
               clear BK211
               clear BK216
               clear BK225
               clear BK250
               clear HB
               have HO202 := n0_
               have HO209 := n1_
               have HO215 := n2_
               have HO223 := n3_
               have HO230 := n4_
               have HO241 := n5_
               have BK196 := n6_
               have BK197 := n7_
               have BK211 := n8_
               have BK216 := n9_
               have BK225 := n10_
               have BK250 := n11_
               have HB := n12_
               clear n0_ n1_ n2_ n3_ n4_ n5_ n6_ n7_ n8_ n9_ n10_ n11_ n12_
               (try clear hb)
               (try clear hb2)
               (try clear hk)
               (try clear hi)
               (try clear ho0)
               refine hK.out _ _ ⟨(blk_cell BK196.out 0).trans rfl, (blk_cell BK196.out 1).trans rfl, (blk_cell BK197.out 0).trans rfl, (blk_cell BK197.out 1).trans rfl, (blk_cell BK197.out 2).trans rfl⟩ (fun hHeld => ?_)
               clear hK K
               refine norm_ (a' := ?_) ?_ ?_
               rotate_left
               ·show Act.put _ (some 81) _ = _
                simp only [Act.put, List.setIfInBounds_toArray, List.set_cons_zero, List.set_cons_succ, i64_w, i32_w]
                rfl
               refine one_ (i := 3) (N := some 83) (bz 11 271) rfl rfl (one_of HT_.out (by kernel_rfl)) (by decide) (fun K hK => ?_)
               refine goes_ Try.func8 (by kernel_rfl) rfl #[.agg #[.int .i64 a1_0, .int .i64 a1_1, .int .i64 a1_2]] (by rfl) rfl rfl mapT ?_
               with_reducible refine (laws_toClue.calls a1_0 a1_1 a1_2 t242 t243 t244 _ A31.out).mono ?_
               rintro e w96 ⟨rfl, hb⟩
               refine ⟨_, rfl, ?_⟩
               have n0_ := Aside0.mk (Kd.R_below (by (with_reducible repeat (first | apply Kd.R_alloc | apply Kd.R_drewN | apply Kd.R_drew)); exact HO202.out) hb)
               have n1_ := Aside0.mk (Kd.R_below (by (with_reducible repeat (first | apply Kd.R_alloc | apply Kd.R_drewN | apply Kd.R_drew)); exact HO209.out) hb)
               have n2_ := Aside0.mk (Kd.R_below (by (with_reducible repeat (first | apply Kd.R_alloc | apply Kd.R_drewN | apply Kd.R_drew)); exact HO215.out) hb)
               have n3_ := Aside0.mk (Kd.R_below (by (with_reducible repeat (first | apply Kd.R_alloc | apply Kd.R_drewN | apply Kd.R_drew)); exact HO223.out) hb)
               have n4_ := Aside0.mk (Kd.R_below (by (with_reducible repeat (first | apply Kd.R_alloc | apply Kd.R_drewN | apply Kd.R_drew)); exact HO230.out) hb)
               have n5_ := Aside0.mk (Kd.R_below (by (with_reducible repeat (first | apply Kd.R_alloc | apply Kd.R_drewN | apply Kd.R_drew)); exact HO241.out) hb)
               have n6_ := bS BK196 hb
               have n7_ := bS BK197 hb
               have n8_ := bS BK211 hb
               have n9_ := bS BK216 hb
               have n10_ := bS BK225 hb
               have n11_ := bS BK250 hb
               have n12_ := hS HB hb
               clear HO202
               clear HO209
               clear HO215
               clear HO223
               clear HO230
               clear HO241
               clear BK196
               clear BK197
               clear BK211
               clear BK216
               clear BK225
               clear BK250
               clear HB
               have HO202 := n0_
               have HO209 := n1_
               have HO215 := n2_
               have HO223 := n3_
               have HO230 := n4_
               have HO241 := n5_
               have BK196 := n6_
               have BK197 := n7_
               have BK211 := n8_
               have BK216 := n9_
               have BK225 := n10_
               have BK250 := n11_
               have HB := n12_
               clear n0_ n1_ n2_ n3_ n4_ n5_ n6_ n7_ n8_ n9_ n10_ n11_ n12_
               (try clear hb)
               (try clear hb2)
               (try clear hk)
               (try clear hi)
               obtain ⟨Ao97, co97, eo97⟩ := Kd.R_slice HO241.out
               (first | subst eo97 | (injection eo97 with f1_ f2_ f3_; have f4_ := f1_.symm; have f5_ := f3_.symm; clear f1_ f2_ f3_; subst f4_; subst f5_))
               refine hK.out _ _ ⟨(blk_cell BK196.out 0).trans rfl, (blk_cell BK196.out 1).trans rfl, (blk_cell BK197.out 0).trans rfl, (blk_cell BK197.out 1).trans rfl, (blk_cell BK197.out 2).trans rfl⟩ (fun hHeld => ?_)
               clear hK K
               refine norm_ (a' := ?_) ?_ ?_
               rotate_left
               ·show Act.put _ (some 83) _ = _
                simp only [Act.put, List.setIfInBounds_toArray, List.set_cons_zero, List.set_cons_succ, i64_w, i32_w]
                rfl
               refine one_ (i := 4) (N := some 84) (bz 11 287) rfl rfl (one_of HT_.out (by kernel_rfl)) (by decide) (fun K hK => ?_)
               refine goes_ Try.func21 (by kernel_rfl) rfl #[.agg #[.int .i64 t238, .slice Ao97 t239.length co97], .agg #[.int .i64 t242, .int .i64 t243, .int .i64 t244]] (by rfl) rfl rfl mapT ?_
               with_reducible refine (impl_AddClue.calls k t238 _ _ t239 t242 t243 t244 t245 t246 t249 _ ?side1 ?side2 A32.out).mono ?_
               (case side1 => repeat (first | exact (Kd.R_reads' HO241.out).2.2 | (with_reducible refine Kd.C_alloc ?_ _) | (with_reducible refine Kd.C_drewN ?_ _) | (with_reducible refine Kd.C_drew ?_)))
               (case side2 => exact (Kd.R_reads' HO241.out).2.1)
               rintro e w98 ⟨v247, rfl, ho0, hb⟩
               refine ⟨_, rfl, ?_⟩
               have n0_ := Aside0.mk (Kd.R_elder' (by (with_reducible repeat (first | apply Kd.R_alloc | apply Kd.R_drewN | apply Kd.R_drew)); exact HO202.out) (Kd.R_base ho0) hb)
               have n1_ := Aside0.mk (Kd.R_elder' (by (with_reducible repeat (first | apply Kd.R_alloc | apply Kd.R_drewN | apply Kd.R_drew)); exact HO209.out) (Kd.R_base ho0) hb)
               have n2_ := Aside0.mk (Kd.R_elder' (by (with_reducible repeat (first | apply Kd.R_alloc | apply Kd.R_drewN | apply Kd.R_drew)); exact HO215.out) (Kd.R_base ho0) hb)
               have n3_ := Aside0.mk (Kd.R_elder' (by (with_reducible repeat (first | apply Kd.R_alloc | apply Kd.R_drewN | apply Kd.R_drew)); exact HO223.out) (Kd.R_base ho0) hb)
               have n4_ := Aside0.mk (Kd.R_elder' (by (with_reducible repeat (first | apply Kd.R_alloc | apply Kd.R_drewN | apply Kd.R_drew)); exact HO230.out) (Kd.R_base ho0) hb)
               have n5_ := Aside0.mk (Kd.R_elder' (by (with_reducible repeat (first | apply Kd.R_alloc | apply Kd.R_drewN | apply Kd.R_drew)); exact HO241.out) (Kd.R_base ho0) hb)
               have n6_ := Aside0.mk (Kd.R_lower (Kd.R_new' (Kd.R_new' (Kd.R_new' (Kd.R_new' (Kd.R_new' (Kd.R_new' ho0 (Kd.R_lt (by (with_reducible repeat (first | apply Kd.R_alloc | apply Kd.R_drewN | apply Kd.R_drew)); exact HO202.out))) (Kd.R_lt (by (with_reducible repeat (first | apply Kd.R_alloc | apply Kd.R_drewN | apply Kd.R_drew)); exact HO209.out))) (Kd.R_lt (by (with_reducible repeat (first | apply Kd.R_alloc | apply Kd.R_drewN | apply Kd.R_drew)); exact HO215.out))) (Kd.R_lt (by (with_reducible repeat (first | apply Kd.R_alloc | apply Kd.R_drewN | apply Kd.R_drew)); exact HO223.out))) (Kd.R_lt (by (with_reducible repeat (first | apply Kd.R_alloc | apply Kd.R_drewN | apply Kd.R_drew)); exact HO230.out))) (Kd.R_lt (by (with_reducible repeat (first | apply Kd.R_alloc | apply Kd.R_drewN | apply Kd.R_drew)); exact HO241.out))) (below_size hB))
               have n7_ := bS BK196 hb
               have n8_ := bS BK197 hb
               have n9_ := bS BK211 hb
               have n10_ := bS BK216 hb
               have n11_ := bS BK225 hb
               have n12_ := bS BK250 hb
               have n13_ := hS HB hb
               clear HO202
               clear HO209
               clear HO215
               clear HO223
               clear HO230
               clear HO241
               clear BK196
               clear BK197
               clear BK211
               clear BK216
               clear BK225
               clear BK250
               clear HB
               have HO202 := n0_
               have HO209 := n1_
               have HO215 := n2_
               have HO223 := n3_
               have HO230 := n4_
               have HO241 := n5_
               have HO248 := n6_
               have BK196 := n7_
               have BK197 := n8_
               have BK211 := n9_
               have BK216 := n10_
               have BK225 := n11_
               have BK250 := n12_
               have HB := n13_
               clear n0_ n1_ n2_ n3_ n4_ n5_ n6_ n7_ n8_ n9_ n10_ n11_ n12_ n13_
               (try clear hb)
               (try clear hb2)
               (try clear hk)
               (try clear hi)
               (try clear ho0)
               refine hK.out _ _ ⟨(blk_cell BK196.out 0).trans rfl, (blk_cell BK196.out 1).trans rfl, (blk_cell BK197.out 0).trans rfl, (blk_cell BK197.out 1).trans rfl, (blk_cell BK197.out 2).trans rfl⟩ (fun hHeld => ?_)
               clear hK K
               refine norm_ (a' := ?_) ?_ ?_
               rotate_left
               ·show Act.put _ (some 84) _ = _
                simp only [Act.put, List.setIfInBounds_toArray, List.set_cons_zero, List.set_cons_succ, i64_w, i32_w]
                rfl
               refine run_ [(0, 5, 319, some 79), (0, 6, 383, some 85), (0, 7, 511, some 86)] ?_
               repeat ((apply tag0; refine run_p (v := ?_) (a' := ?_) rfl rfl (any_of HT_.out (by kernel_rfl)) (fun _ _ _ h => h) (by rfl) ?_ ?_ ?_; rotate_left 2; (intro w'; go_simp; with_reducible rfl); (first | (simp only [Act.put, List.setIfInBounds_toArray, List.set_cons_zero, List.set_cons_succ, i64_w, i32_w]; rfl) | rfl)))
               refine run_nil ?_
               exact norm_ (by simp only [putAll, Act.put, List.setIfInBounds_toArray, List.set_cons_zero, List.set_cons_succ]) (hCont (.slice Ao97 t239.length co97, v247, gb250) _ ⟨hHeld, (by (with_reducible repeat (first | apply Kd.R_alloc | apply Kd.R_drewN | apply Kd.R_drew)); exact Kd.R_mono HO202.out (fun _ hk => ⟨hk.1.1.1, ⟨hk.1.1.2.1, ⟨hk.1.1.2.2.1, ⟨hk.1.1.2.2.2, ⟨hk.1.2, hk.2⟩⟩⟩⟩⟩)), (by (with_reducible repeat (first | apply Kd.R_alloc | apply Kd.R_drewN | apply Kd.R_drew)); exact Kd.R_mono HO209.out (fun _ hk => ⟨hk.1.1.1, ⟨hk.1.1.2.1, ⟨hk.1.1.2.2.1, ⟨hk.1.1.2.2.2, ⟨hk.1.2, hk.2⟩⟩⟩⟩⟩)), (by (with_reducible repeat (first | apply Kd.R_alloc | apply Kd.R_drewN | apply Kd.R_drew)); exact Kd.R_mono HO215.out (fun _ hk => ⟨hk.1.1.1, ⟨hk.1.1.2.1, ⟨hk.1.1.2.2.1, ⟨hk.1.1.2.2.2, ⟨hk.1.2, hk.2⟩⟩⟩⟩⟩)), (by (with_reducible repeat (first | apply Kd.R_alloc | apply Kd.R_drewN | apply Kd.R_drew)); exact Kd.R_mono HO223.out (fun _ hk => ⟨hk.1.1.1, ⟨hk.1.1.2.1, ⟨hk.1.1.2.2.1, ⟨hk.1.1.2.2.2, ⟨hk.1.2, hk.2⟩⟩⟩⟩⟩)), (by (with_reducible repeat (first | apply Kd.R_alloc | apply Kd.R_drewN | apply Kd.R_drew)); exact Kd.R_mono HO230.out (fun _ hk => ⟨hk.1.1.1, ⟨hk.1.1.2.1, ⟨hk.1.1.2.2.1, ⟨hk.1.1.2.2.2, ⟨hk.1.2, hk.2⟩⟩⟩⟩⟩)), (by (with_reducible repeat (first | apply Kd.R_alloc | apply Kd.R_drewN | apply Kd.R_drew)); exact Kd.R_mono HO241.out (fun _ hk => ⟨hk.1.1.1.1.1.2, ⟨hk.1.1.1.1.2, ⟨hk.1.1.1.2, ⟨hk.1.1.2, ⟨hk.1.2, hk.2⟩⟩⟩⟩⟩)), (by (with_reducible repeat (first | apply Kd.R_alloc | apply Kd.R_drewN | apply Kd.R_drew)); exact Kd.R_mono HO248.out (fun _ hk => ⟨hk.1.1.1.1.1.2, ⟨hk.1.1.1.1.2, ⟨hk.1.1.1.2, ⟨hk.1.1.2, ⟨hk.1.2, hk.2⟩⟩⟩⟩⟩)), bK, bK, bK, bK, bK, bK, GW250.out, GE250.out, NB196_250.out, NB250_196.out, NB197_250.out, NB250_197.out, NB211_250.out, NB250_211.out, NB216_250.out, NB250_216.out, NB225_250.out, NB250_225.out, hB⟩)
             rintro ⟨v240, v247, gb250⟩ w99 ⟨hS_, h0_, h1_, h2_, h3_, h4_, h5_, h6_, h7_, h8_, h9_, h10_, h11_, h12_, h13_, h14_, h15_, h16_, h17_, h18_, h19_, h20_, h21_, h22_, h23_, h24_, h25_⟩
             have n0_ : Aside0 (Kd.R k25 25 w99 w.heap.size (fun k_ => some k_ ≠ (.slice Ao52 t207.length co52 : Value).ownBlock ∧ some k_ ≠ (.slice Ao62 t213.length co62 : Value).ownBlock ∧ some k_ ≠ (.slice Ao70 t221.length co70 : Value).ownBlock ∧ some k_ ≠ (.slice Ao82 t228.length co82 : Value).ownBlock ∧ some k_ ≠ (v240 : Value).ownBlock ∧ some k_ ≠ (v247 : Value).ownBlock) v201 t200) := ⟨h0_⟩
             have n1_ : Aside0 (Kd.R k25 25 w99 w.heap.size (fun k_ => some k_ ≠ (v201 : Value).ownBlock ∧ some k_ ≠ (.slice Ao62 t213.length co62 : Value).ownBlock ∧ some k_ ≠ (.slice Ao70 t221.length co70 : Value).ownBlock ∧ some k_ ≠ (.slice Ao82 t228.length co82 : Value).ownBlock ∧ some k_ ≠ (v240 : Value).ownBlock ∧ some k_ ≠ (v247 : Value).ownBlock) (.slice Ao52 t207.length co52) t207) := ⟨h1_⟩
             have n2_ : Aside0 (Kd.R k25 25 w99 w.heap.size (fun k_ => some k_ ≠ (v201 : Value).ownBlock ∧ some k_ ≠ (.slice Ao52 t207.length co52 : Value).ownBlock ∧ some k_ ≠ (.slice Ao70 t221.length co70 : Value).ownBlock ∧ some k_ ≠ (.slice Ao82 t228.length co82 : Value).ownBlock ∧ some k_ ≠ (v240 : Value).ownBlock ∧ some k_ ≠ (v247 : Value).ownBlock) (.slice Ao62 t213.length co62) t233) := ⟨h2_⟩
             have n3_ : Aside0 (Kd.R k25 25 w99 w.heap.size (fun k_ => some k_ ≠ (v201 : Value).ownBlock ∧ some k_ ≠ (.slice Ao52 t207.length co52 : Value).ownBlock ∧ some k_ ≠ (.slice Ao62 t213.length co62 : Value).ownBlock ∧ some k_ ≠ (.slice Ao82 t228.length co82 : Value).ownBlock ∧ some k_ ≠ (v240 : Value).ownBlock ∧ some k_ ≠ (v247 : Value).ownBlock) (.slice Ao70 t221.length co70) t236) := ⟨h3_⟩
             have n4_ : Aside0 (Kd.R k25 25 w99 w.heap.size (fun k_ => some k_ ≠ (v201 : Value).ownBlock ∧ some k_ ≠ (.slice Ao52 t207.length co52 : Value).ownBlock ∧ some k_ ≠ (.slice Ao62 t213.length co62 : Value).ownBlock ∧ some k_ ≠ (.slice Ao70 t221.length co70 : Value).ownBlock ∧ some k_ ≠ (v240 : Value).ownBlock ∧ some k_ ≠ (v247 : Value).ownBlock) (.slice Ao82 t228.length co82) t228) := ⟨h4_⟩
             have n5_ : Aside0 (Kd.R k25 25 w99 w.heap.size (fun k_ => some k_ ≠ (v201 : Value).ownBlock ∧ some k_ ≠ (.slice Ao52 t207.length co52 : Value).ownBlock ∧ some k_ ≠ (.slice Ao62 t213.length co62 : Value).ownBlock ∧ some k_ ≠ (.slice Ao70 t221.length co70 : Value).ownBlock ∧ some k_ ≠ (.slice Ao82 t228.length co82 : Value).ownBlock ∧ some k_ ≠ (v247 : Value).ownBlock) v240 t239) := ⟨h5_⟩
             have n6_ : Aside0 (Kd.R k25 25 w99 w.heap.size (fun k_ => some k_ ≠ (v201 : Value).ownBlock ∧ some k_ ≠ (.slice Ao52 t207.length co52 : Value).ownBlock ∧ some k_ ≠ (.slice Ao62 t213.length co62 : Value).ownBlock ∧ some k_ ≠ (.slice Ao70 t221.length co70 : Value).ownBlock ∧ some k_ ≠ (.slice Ao82 t228.length co82 : Value).ownBlock ∧ some k_ ≠ (v240 : Value).ownBlock) v247 t246) := ⟨h6_⟩
             have n7_ : Aside0 (w99.heap[gb196]? = some (.cells #[.int .i64 a0_0, .slice A0_1 l0_1.length c0_1] 30 (0, 0))) := ⟨h7_⟩
             have n8_ : Aside0 (w99.heap[gb197]? = some (.cells #[.int .i64 a1_0, .int .i64 a1_1, .int .i64 a1_2] 23 (0, 0))) := ⟨h8_⟩
             have n9_ : Aside0 (w99.heap[gb211]? = some (.cells #[.int .i64 t206, .slice Ao52 t207.length co52] 35 (0, 0))) := ⟨h9_⟩
             have n10_ : Aside0 (w99.heap[gb216]? = some (.cells #[.int .i64 t212, .slice Ao62 t213.length co62] 35 (0, 0))) := ⟨h10_⟩
             have n11_ : Aside0 (w99.heap[gb225]? = some (.cells #[.int .i64 t220, .slice Ao70 t221.length co70] 35 (0, 0))) := ⟨h11_⟩
             have n12_ : Aside0 (w99.heap[gb250]? = some (.cells #[.int .i64 0, .slice none 0 0] 35 (0, 0))) := ⟨h12_⟩
             have n13_ : Aside0 (w.heap.size ≤ gb250) := ⟨h13_⟩
             have n14_ : Aside0 (w.heap.size ≤ gb250) := ⟨h14_⟩
             have n15_ : Aside0 (gb196 ≠ gb250) := ⟨h15_⟩
             have n16_ : Aside0 (gb250 ≠ gb196) := ⟨h16_⟩
             have n17_ : Aside0 (gb197 ≠ gb250) := ⟨h17_⟩
             have n18_ : Aside0 (gb250 ≠ gb197) := ⟨h18_⟩
             have n19_ : Aside0 (gb211 ≠ gb250) := ⟨h19_⟩
             have n20_ : Aside0 (gb250 ≠ gb211) := ⟨h20_⟩
             have n21_ : Aside0 (gb216 ≠ gb250) := ⟨h21_⟩
             have n22_ : Aside0 (gb250 ≠ gb216) := ⟨h22_⟩
             have n23_ : Aside0 (gb225 ≠ gb250) := ⟨h23_⟩
             have n24_ : Aside0 (gb250 ≠ gb225) := ⟨h24_⟩
             have n25_ : Aside0 (Below w.heap.size w w99) := ⟨h25_⟩
             clear HO202
             clear HO209
             clear HO215
             clear HO223
             clear HO230
             clear BK196
             clear BK197
             clear BK211
             clear BK216
             clear BK225
             clear HB
             clear h0_ h1_ h2_ h3_ h4_ h5_ h6_ h7_ h8_ h9_ h10_ h11_ h12_ h13_ h14_ h15_ h16_ h17_ h18_ h19_ h20_ h21_ h22_ h23_ h24_ h25_
             have HO202 := n0_
             have HO209 := n1_
             have HO215 := n2_
             have HO223 := n3_
             have HO230 := n4_
             have HO241 := n5_
             have HO248 := n6_
             have BK196 := n7_
             have BK197 := n8_
             have BK211 := n9_
             have BK216 := n10_
             have BK225 := n11_
             have BK250 := n12_
             have GW250 := n13_
             have GE250 := n14_
             have NB196_250 := n15_
             have NB250_196 := n16_
             have NB197_250 := n17_
             have NB250_197 := n18_
             have NB211_250 := n19_
             have NB250_211 := n20_
             have NB216_250 := n21_
             have NB250_216 := n22_
             have NB225_250 := n23_
             have NB250_225 := n24_
             have HB := n25_
             clear n0_ n1_ n2_ n3_ n4_ n5_ n6_ n7_ n8_ n9_ n10_ n11_ n12_ n13_ n14_ n15_ n16_ n17_ n18_ n19_ n20_ n21_ n22_ n23_ n24_ n25_
             have hHeld : w99.cell? ⟨gb196, 0, none⟩ = some (.int .i64 a0_0) ∧ w99.cell? ⟨gb196, 1, none⟩ = some (.slice A0_1 l0_1.length c0_1) ∧ w99.cell? ⟨gb197, 0, none⟩ = some (.int .i64 a1_0) ∧ w99.cell? ⟨gb197, 1, none⟩ = some (.int .i64 a1_1) ∧ w99.cell? ⟨gb197, 2, none⟩ = some (.int .i64 a1_2) := hS_
             obtain ⟨Ao101, co101, eo101⟩ := Kd.R_slice HO248.out
             (first | subst eo101 | (injection eo101 with f1_ f2_ f3_; have f4_ := f1_.symm; have f5_ := f3_.symm; clear f1_ f2_ f3_; subst f4_; subst f5_))
             refine norm_ (a' := ?_) ?_ ?_
             rotate_left
             ·simp only [putAll, Act.put, List.setIfInBounds_toArray, List.set_cons_zero, List.set_cons_succ]
              rfl
             refine one_ (i := 9) (N := none) (bz 11 1023) rfl rfl (one_of HT_.out (by kernel_rfl)) (by decide) (fun K hK => ?_)
             have hs100 : w99.cell? ⟨gb250, 0, none⟩ = some (.int .i64 0) := (blk_cell BK250.out 0).trans rfl
             have hfs100 := blk_frozen BK250.out 0
             have hns100_0 := NB196_250.out
             have hns100_1 := NB197_250.out
             have hns100_2 := NB211_250.out
             have hns100_3 := NB216_250.out
             have hns100_4 := NB225_250.out
             have hms100_0 := NB250_196.out
             have hms100_1 := NB250_197.out
             have hms100_2 := NB250_211.out
             have hms100_3 := NB250_216.out
             have hms100_4 := NB250_225.out
             have hs102 : w99.cell? ⟨gb250, 1, none⟩ = some (.slice none 0 0) := (blk_cell BK250.out 1).trans rfl
             have hfs102 := blk_frozen BK250.out 1
             have hns102_0 := NB196_250.out
             have hns102_1 := NB197_250.out
             have hns102_2 := NB211_250.out
             have hns102_3 := NB216_250.out
             have hns102_4 := NB225_250.out
             have hms102_0 := NB250_196.out
             have hms102_1 := NB250_197.out
             have hms102_2 := NB250_211.out
             have hms102_3 := NB250_216.out
             have hms102_4 := NB250_225.out
             refine skip_ (w1 := ?_) (by rfl) rfl ?_ ?_
             rotate_left
             ·go_simp
              rfl
             refine hK.out _ _ ⟨((cell_far (p := ⟨gb250, _, none⟩) NB196_250.out _).trans (((cell_far (p := ⟨gb250, _, none⟩) NB196_250.out _).trans (hHeld.1)))), ((cell_far (p := ⟨gb250, _, none⟩) NB196_250.out _).trans (((cell_far (p := ⟨gb250, _, none⟩) NB196_250.out _).trans (hHeld.2.1)))), ((cell_far (p := ⟨gb250, _, none⟩) NB197_250.out _).trans (((cell_far (p := ⟨gb250, _, none⟩) NB197_250.out _).trans (hHeld.2.2.1)))), ((cell_far (p := ⟨gb250, _, none⟩) NB197_250.out _).trans (((cell_far (p := ⟨gb250, _, none⟩) NB197_250.out _).trans (hHeld.2.2.2.1)))), ((cell_far (p := ⟨gb250, _, none⟩) NB197_250.out _).trans (((cell_far (p := ⟨gb250, _, none⟩) NB197_250.out _).trans (hHeld.2.2.2.2))))⟩ (fun hHeld => ?_)
             clear hK K
             refine run_ [(0, 10, 2047, some 15)] ?_
             repeat ((apply tag0; refine run_p (v := ?_) (a' := ?_) rfl rfl (any_of HT_.out (by kernel_rfl)) (fun _ _ _ h => h) (by rfl) ?_ ?_ ?_; rotate_left 2; (intro w'; go_simp; with_reducible rfl); (first | (simp only [Act.put, List.setIfInBounds_toArray, List.set_cons_zero, List.set_cons_succ, i64_w, i32_w]; rfl) | rfl)))
             refine run_nil ?_
             refine done_ (done_of HT_.out (by kernel_rfl)) ?_
             have hnb103 := NB250_196.out
             have hnc103 := NB196_250.out
             have hnb104 := NB250_197.out
             have hnc104 := NB197_250.out
             have hnb105 := NB250_211.out
             have hnc105 := NB211_250.out
             have hnb106 := NB250_216.out
             have hnc106 := NB216_250.out
             have hnb107 := NB250_225.out
             have hnc107 := NB225_250.out
             have hcz108_0 : w99.cell? ⟨gb250, 0, none⟩ = some (.int .i64 0) := (blk_cell BK250.out 0).trans rfl
             have hcz108_1 : w99.cell? ⟨gb250, 1, none⟩ = some (.slice none 0 0) := (blk_cell BK250.out 1).trans rfl
             have hfz108_0 := blk_frozen BK250.out 0
             have hfz108_1 := blk_frozen BK250.out 1
             have hcz109_0 : w99.cell? ⟨gb211, 0, none⟩ = some (.int .i64 t206) := (blk_cell BK211.out 0).trans rfl
             have hcz109_1 : w99.cell? ⟨gb211, 1, none⟩ = some (.slice Ao52 t207.length co52) := (blk_cell BK211.out 1).trans rfl
             have hfz109_0 := blk_frozen BK211.out 0
             have hfz109_1 := blk_frozen BK211.out 1
             try go_wp2_with (first | ((with_reducible refine gate_callee (f := 14) rfl ?_); refine goesL_ (some 89) rfl rfl Try.func14 (by kernel_rfl) rfl #[.agg #[.int .i64 t245, .slice Ao101 t246.length co101], .agg #[.int .i64 t206, .slice Ao52 t207.length co52]] rfl mapT ?_; (with_reducible refine (laws_eqPuzzle.calls k t245 _ _ t246 t206 _ _ t207 true _ ?side1 ?side2 ?side3 ?side4 A33.out).mono ?_); (case side1 => refine (Kd.R_reads' (e := 25) (base := w.heap.size) (ok := fun k_ => (some k_ ≠ (v201 : Value).ownBlock ∧ (some k_ ≠ (.slice Ao52 t207.length co52 : Value).ownBlock ∧ (some k_ ≠ (.slice Ao62 t213.length co62 : Value).ownBlock ∧ (some k_ ≠ (.slice Ao70 t221.length co70 : Value).ownBlock ∧ (some k_ ≠ (.slice Ao82 t228.length co82 : Value).ownBlock ∧ some k_ ≠ (v240 : Value).ownBlock)))))) (n := t246.length) (c := co101) ?_).2.2; exact (by (with_reducible repeat (first | apply Kd.R_alloc | apply Kd.R_drewN | apply Kd.R_drew)); exact (Kd.R_mono (Kd.R_far (p := ⟨gb250, 1, none⟩) (Kd.R_far (p := ⟨gb250, 0, none⟩) (Kd.R_types HO248.out BK250.out (by decide)) (fun _ hk => hk.2) (.int .i64 t245)) (fun _ hk => hk.2) (.slice Ao101 t246.length co101)) (fun _ h_ => h_.1)))); (case side2 => exact (Kd.R_reads' HO248.out).2.1); (case side3 => refine (Kd.R_reads' (e := 25) (base := w.heap.size) (ok := fun k_ => (some k_ ≠ (v201 : Value).ownBlock ∧ (some k_ ≠ (.slice Ao62 t213.length co62 : Value).ownBlock ∧ (some k_ ≠ (.slice Ao70 t221.length co70 : Value).ownBlock ∧ (some k_ ≠ (.slice Ao82 t228.length co82 : Value).ownBlock ∧ (some k_ ≠ (v240 : Value).ownBlock ∧ some k_ ≠ (.slice Ao101 t246.length co101 : Value).ownBlock)))))) (n := t207.length) (c := co52) ?_).2.2; exact (by (with_reducible repeat (first | apply Kd.R_alloc | apply Kd.R_drewN | apply Kd.R_drew)); exact (Kd.R_mono (Kd.R_far (p := ⟨gb250, 1, none⟩) (Kd.R_far (p := ⟨gb250, 0, none⟩) (Kd.R_types HO209.out BK250.out (by decide)) (fun _ hk => hk.2) (.int .i64 t245)) (fun _ hk => hk.2) (.slice Ao101 t246.length co101)) (fun _ h_ => h_.1)))); (case side4 => exact (Kd.R_reads' HO209.out).2.1); rintro e w110 ⟨rfl, hb⟩; refine ⟨_, rfl, ?_⟩; have n0_ := Aside0.mk (Kd.R_below (by (with_reducible repeat (first | apply Kd.R_alloc | apply Kd.R_drewN | apply Kd.R_drew)); exact (Kd.R_mono (Kd.R_far (p := ⟨gb250, 1, none⟩) (Kd.R_far (p := ⟨gb250, 0, none⟩) (Kd.R_types HO202.out BK250.out (by decide)) (fun _ hk => hk.2) (.int .i64 t245)) (fun _ hk => hk.2) (.slice Ao101 t246.length co101)) (fun _ h_ => h_.1))) hb); have n1_ := Aside0.mk (Kd.R_below (by (with_reducible repeat (first | apply Kd.R_alloc | apply Kd.R_drewN | apply Kd.R_drew)); exact (Kd.R_mono (Kd.R_far (p := ⟨gb250, 1, none⟩) (Kd.R_far (p := ⟨gb250, 0, none⟩) (Kd.R_types HO209.out BK250.out (by decide)) (fun _ hk => hk.2) (.int .i64 t245)) (fun _ hk => hk.2) (.slice Ao101 t246.length co101)) (fun _ h_ => h_.1))) hb); have n2_ := Aside0.mk (Kd.R_below (by (with_reducible repeat (first | apply Kd.R_alloc | apply Kd.R_drewN | apply Kd.R_drew)); exact (Kd.R_mono (Kd.R_far (p := ⟨gb250, 1, none⟩) (Kd.R_far (p := ⟨gb250, 0, none⟩) (Kd.R_types HO215.out BK250.out (by decide)) (fun _ hk => hk.2) (.int .i64 t245)) (fun _ hk => hk.2) (.slice Ao101 t246.length co101)) (fun _ h_ => h_.1))) hb); have n3_ := Aside0.mk (Kd.R_below (by (with_reducible repeat (first | apply Kd.R_alloc | apply Kd.R_drewN | apply Kd.R_drew)); exact (Kd.R_mono (Kd.R_far (p := ⟨gb250, 1, none⟩) (Kd.R_far (p := ⟨gb250, 0, none⟩) (Kd.R_types HO223.out BK250.out (by decide)) (fun _ hk => hk.2) (.int .i64 t245)) (fun _ hk => hk.2) (.slice Ao101 t246.length co101)) (fun _ h_ => h_.1))) hb); have n4_ := Aside0.mk (Kd.R_below (by (with_reducible repeat (first | apply Kd.R_alloc | apply Kd.R_drewN | apply Kd.R_drew)); exact (Kd.R_mono (Kd.R_far (p := ⟨gb250, 1, none⟩) (Kd.R_far (p := ⟨gb250, 0, none⟩) (Kd.R_types HO230.out BK250.out (by decide)) (fun _ hk => hk.2) (.int .i64 t245)) (fun _ hk => hk.2) (.slice Ao101 t246.length co101)) (fun _ h_ => h_.1))) hb); have n5_ := Aside0.mk (Kd.R_below (by (with_reducible repeat (first | apply Kd.R_alloc | apply Kd.R_drewN | apply Kd.R_drew)); exact (Kd.R_mono (Kd.R_far (p := ⟨gb250, 1, none⟩) (Kd.R_far (p := ⟨gb250, 0, none⟩) (Kd.R_types HO241.out BK250.out (by decide)) (fun _ hk => hk.2) (.int .i64 t245)) (fun _ hk => hk.2) (.slice Ao101 t246.length co101)) (fun _ h_ => h_.1))) hb); have n6_ := Aside0.mk (Kd.R_below (by (with_reducible repeat (first | apply Kd.R_alloc | apply Kd.R_drewN | apply Kd.R_drew)); exact (Kd.R_mono (Kd.R_far (p := ⟨gb250, 1, none⟩) (Kd.R_far (p := ⟨gb250, 0, none⟩) (Kd.R_types HO248.out BK250.out (by decide)) (fun _ hk => hk.2) (.int .i64 t245)) (fun _ hk => hk.2) (.slice Ao101 t246.length co101)) (fun _ h_ => h_.1))) hb); have n7_ := Aside0.mk (blk_below (g := gb196) (o := .cells #[.int .i64 a0_0, .slice A0_1 l0_1.length c0_1] 30 (0, 0)) (by (with_reducible repeat (first | refine blk_drewN ?_ _ | refine blk_drew ?_ | refine blk_alloc ?_ _)); refine blk_far ?_ NB196_250.out _; (with_reducible repeat (first | refine blk_drewN ?_ _ | refine blk_drew ?_ | refine blk_alloc ?_ _)); refine blk_far ?_ NB196_250.out _; (with_reducible repeat (first | refine blk_drewN ?_ _ | refine blk_drew ?_ | refine blk_alloc ?_ _)); exact BK196.out) hb); have n8_ := Aside0.mk (blk_below (g := gb197) (o := .cells #[.int .i64 a1_0, .int .i64 a1_1, .int .i64 a1_2] 23 (0, 0)) (by (with_reducible repeat (first | refine blk_drewN ?_ _ | refine blk_drew ?_ | refine blk_alloc ?_ _)); refine blk_far ?_ NB197_250.out _; (with_reducible repeat (first | refine blk_drewN ?_ _ | refine blk_drew ?_ | refine blk_alloc ?_ _)); refine blk_far ?_ NB197_250.out _; (with_reducible repeat (first | refine blk_drewN ?_ _ | refine blk_drew ?_ | refine blk_alloc ?_ _)); exact BK197.out) hb); have n9_ := Aside0.mk (blk_below (g := gb211) (o := .cells #[.int .i64 t206, .slice Ao52 t207.length co52] 35 (0, 0)) (by (with_reducible repeat (first | refine blk_drewN ?_ _ | refine blk_drew ?_ | refine blk_alloc ?_ _)); refine blk_far ?_ NB211_250.out _; (with_reducible repeat (first | refine blk_drewN ?_ _ | refine blk_drew ?_ | refine blk_alloc ?_ _)); refine blk_far ?_ NB211_250.out _; (with_reducible repeat (first | refine blk_drewN ?_ _ | refine blk_drew ?_ | refine blk_alloc ?_ _)); exact BK211.out) hb); have n10_ := Aside0.mk (blk_below (g := gb216) (o := .cells #[.int .i64 t212, .slice Ao62 t213.length co62] 35 (0, 0)) (by (with_reducible repeat (first | refine blk_drewN ?_ _ | refine blk_drew ?_ | refine blk_alloc ?_ _)); refine blk_far ?_ NB216_250.out _; (with_reducible repeat (first | refine blk_drewN ?_ _ | refine blk_drew ?_ | refine blk_alloc ?_ _)); refine blk_far ?_ NB216_250.out _; (with_reducible repeat (first | refine blk_drewN ?_ _ | refine blk_drew ?_ | refine blk_alloc ?_ _)); exact BK216.out) hb); have n11_ := Aside0.mk (blk_below (g := gb225) (o := .cells #[.int .i64 t220, .slice Ao70 t221.length co70] 35 (0, 0)) (by (with_reducible repeat (first | refine blk_drewN ?_ _ | refine blk_drew ?_ | refine blk_alloc ?_ _)); refine blk_far ?_ NB225_250.out _; (with_reducible repeat (first | refine blk_drewN ?_ _ | refine blk_drew ?_ | refine blk_alloc ?_ _)); refine blk_far ?_ NB225_250.out _; (with_reducible repeat (first | refine blk_drewN ?_ _ | refine blk_drew ?_ | refine blk_alloc ?_ _)); exact BK225.out) hb); have n12_ := Aside0.mk (blk_below (g := gb250) (o := .cells #[.int .i64 t245, .slice Ao101 t246.length co101] 35 (0, 0)) (by (with_reducible repeat (first | refine blk_drewN ?_ _ | refine blk_drew ?_ | refine blk_alloc ?_ _)); refine blk_put (cs := #[.int .i64 t245, .slice none 0 0]) ?_ 1 _ rfl; (with_reducible repeat (first | refine blk_drewN ?_ _ | refine blk_drew ?_ | refine blk_alloc ?_ _)); refine blk_put (cs := #[.int .i64 0, .slice none 0 0]) ?_ 0 _ rfl; (with_reducible repeat (first | refine blk_drewN ?_ _ | refine blk_drew ?_ | refine blk_alloc ?_ _)); exact BK250.out) hb); have n13_ := hS HB hb; clear HO202; clear HO209; clear HO215; clear HO223; clear HO230; clear HO241; clear HO248; clear BK196; clear BK197; clear BK211; clear BK216; clear BK225; clear BK250; clear HB; have HO202 := n0_; have HO209 := n1_; have HO215 := n2_; have HO223 := n3_; have HO230 := n4_; have HO241 := n5_; have HO248 := n6_; have BK196 := n7_; have BK197 := n8_; have BK211 := n9_; have BK216 := n10_; have BK225 := n11_; have BK250 := n12_; have HB := n13_; clear n0_ n1_ n2_ n3_ n4_ n5_ n6_ n7_ n8_ n9_ n10_ n11_ n12_ n13_; (try clear hb); (try clear hb2); (try clear hk); (try clear hi); have hcz111_0 : w110.cell? ⟨gb225, 0, none⟩ = some (.int .i64 t220) := (blk_cell BK225.out 0).trans rfl; have hcz111_1 : w110.cell? ⟨gb225, 1, none⟩ = some (.slice Ao70 t221.length co70) := (blk_cell BK225.out 1).trans rfl; have hfz111_0 := blk_frozen BK225.out 0; have hfz111_1 := blk_frozen BK225.out 1) | ((with_reducible refine gate_callee (f := 23) rfl ?_); refine goesL_ (some 98) rfl rfl Try.func23 (by kernel_rfl) rfl #[.agg #[.int .i64 t220, .slice Ao70 t236.length co70], .int .i64 1] rfl (by (try simp only [List.map_toArray, List.map_cons, List.map_nil]); first | done | (rw [show t236.length = t221.length from (Kd.R_reads' HO223.out).1.symm] <;> rfl) | rfl | (simp only [List.length_drop, List.length_take]; rfl)) ?_; (with_reducible refine (laws_heldPuzzle.calls k t220 _ _ t236 1 t252 _ ?side1 ?side2 A36.out).mono ?_); (case side1 => repeat (first | exact (Kd.R_reads' HO223.out).2.2 | (with_reducible refine Kd.C_alloc ?_ _) | (with_reducible refine Kd.C_drewN ?_ _) | (with_reducible refine Kd.C_drew ?_))); (case side2 => rw [show t236.length = t221.length from (Kd.R_reads' HO223.out).1.symm]; exact (Kd.R_reads' HO223.out).2.1); rintro e w112 ⟨rfl, hb⟩; refine ⟨_, rfl, ?_⟩; have n0_ := Aside0.mk (Kd.R_below (by (with_reducible repeat (first | apply Kd.R_alloc | apply Kd.R_drewN | apply Kd.R_drew)); exact HO202.out) hb); have n1_ := Aside0.mk (Kd.R_below (by (with_reducible repeat (first | apply Kd.R_alloc | apply Kd.R_drewN | apply Kd.R_drew)); exact HO209.out) hb); have n2_ := Aside0.mk (Kd.R_below (by (with_reducible repeat (first | apply Kd.R_alloc | apply Kd.R_drewN | apply Kd.R_drew)); exact HO215.out) hb); have n3_ := Aside0.mk (Kd.R_below (by (with_reducible repeat (first | apply Kd.R_alloc | apply Kd.R_drewN | apply Kd.R_drew)); exact HO223.out) hb); have n4_ := Aside0.mk (Kd.R_below (by (with_reducible repeat (first | apply Kd.R_alloc | apply Kd.R_drewN | apply Kd.R_drew)); exact HO230.out) hb); have n5_ := Aside0.mk (Kd.R_below (by (with_reducible repeat (first | apply Kd.R_alloc | apply Kd.R_drewN | apply Kd.R_drew)); exact HO241.out) hb); have n6_ := Aside0.mk (Kd.R_below (by (with_reducible repeat (first | apply Kd.R_alloc | apply Kd.R_drewN | apply Kd.R_drew)); exact HO248.out) hb); have n7_ := bS BK196 hb; have n8_ := bS BK197 hb; have n9_ := bS BK211 hb; have n10_ := bS BK216 hb; have n11_ := bS BK225 hb; have n12_ := bS BK250 hb; have n13_ := hS HB hb; clear HO202; clear HO209; clear HO215; clear HO223; clear HO230; clear HO241; clear HO248; clear BK196; clear BK197; clear BK211; clear BK216; clear BK225; clear BK250; clear HB; have HO202 := n0_; have HO209 := n1_; have HO215 := n2_; have HO223 := n3_; have HO230 := n4_; have HO241 := n5_; have HO248 := n6_; have BK196 := n7_; have BK197 := n8_; have BK211 := n9_; have BK216 := n10_; have BK225 := n11_; have BK250 := n12_; have HB := n13_; clear n0_ n1_ n2_ n3_ n4_ n5_ n6_ n7_ n8_ n9_ n10_ n11_ n12_ n13_; (try clear hb); (try clear hb2); (try clear hk); (try clear hi)))
             go_ret
             exact ⟨by first | rfl | (simp [errW_none, errW_some] <;> rfl) | (simp [*, errW_none, errW_some] <;> rfl), hB⟩
            ·rw [if_neg c38] at H
             exact absurd H (by simp)
         ·replace c34 := Bool.eq_false_iff.mpr c34
          subst c34
          have H1 : (none) = some r := by rw [if_neg (show ¬ (false = true) by decide)] at H; exact H
          clear H
          have H := H1
          clear H1
          exact absurd H (by simp)
        ·rw [if_neg c29] at H
         exact absurd H (by simp)
      ·replace c25 := Bool.eq_false_iff.mpr c25
       subst c25
       have H1 : (none) = some r := by rw [if_neg (show ¬ (false = true) by decide)] at H; exact H
       clear H
       have H := H1
       clear H1
       exact absurd H (by simp)
    ·replace c21 := Bool.eq_false_iff.mpr c21
     subst c21
     have H1 : (none) = some r := by rw [if_neg (show ¬ (false = true) by decide)] at H; exact H
     clear H
     have H := H1
     clear H1
     exact absurd H (by simp)
  ·replace c17 := Bool.eq_false_iff.mpr c17
   subst c17
   have H1 : (none) = some r := by rw [if_neg (show ¬ (false = true) by decide)] at H; exact H
   clear H
   have H := H1
   clear H1
   exact absurd H (by simp)

end Go.Proofs.Ytgonmfmgonfdcaa.PFnExactAddClue
