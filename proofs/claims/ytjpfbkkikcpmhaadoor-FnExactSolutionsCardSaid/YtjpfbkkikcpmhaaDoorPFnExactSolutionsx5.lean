-- Of this session's own program wip/gen/gen.py (it drives the kit's print): contracts of the functions that the law reaches.
import Derived.Test.YtjpfbkkikcpmhaaDoorPFnExactSolutionsx0
import Derived.Test.YtjpfbkkikcpmhaaDoorPFnExactSolutionsx3
import Derived.Test.YtjpfbkkikcpmhaaDoorPFnExactSolutionsx4
namespace Go.Proofs.YtjpfbkkikcpmhaaDoor.PFnExactSolutions
open Go.RowKit Go.Proofs.YtjpfbkkikcpmhaaDoorW.PrintWords Go.Proofs.YtjpfbkkikcpmhaaDoorW.PrintLast Go.Proofs.YtjpfbkkikcpmhaaDoorW.PrintMore Go.Proofs.YtjpfbkkikcpmhaaDoor.Base
attribute [local go_sem] max2_int min2_int max_two min_two max_three min_three max_four min_four   -- for this text's walks alone
set_option linter.unusedVariables false
set_option linter.unusedSimpArgs false

/-! ### spec_pzParties: function 111 -/
mutual
def spec_pzParties.l0 : Nat → Int → List (S105) → Int → Option ((List (S33)))
 | 0, _, _, _ => none
 | k + 1, x0, x4, x5 => if x5 < x0 then (spec_pzParties.l1 k x0 x4 x5 (wrap64 (x5 + 1))) else (spec_pzParties.l2 k x0 ([] : List (S33)) x4 0)
def spec_pzParties.l1 : Nat → Int → List (S105) → Int → Int → Option ((List (S33)))
 | 0, _, _, _, _ => none
 | k + 1, x0, x4, x5, x6 => if x6 < x0 then (if x4.length < 8796093022208 then (spec_pzParties.l1 k x0 (x4 ++ [(⟨x5, x6⟩ : S105)]) x5 (wrap64 (x6 + 1))) else (none)) else (spec_pzParties.l0 k x0 x4 (wrap64 (x5 + 1)))
def spec_pzParties.l2 : Nat → Int → List (S33) → List (S105) → Int → Option ((List (S33)))
 | 0, _, _, _, _ => none
 | k + 1, x0, x3, x4, x7 => if x7 < (shl .i64 1 (x4.length : Int)) then (spec_pzParties.l3 k x0 x3 x4 x7 x4 (x4.length : Int) 0 x0 ([] : List (S105))) else (spec_pzParties.l4 k x3 1)
def spec_pzParties.l3 : Nat → Int → List (S33) → List (S105) → Int → List (S105) → Int → Int → Int → List (S105) → Option ((List (S33)))
 | 0, _, _, _, _, _, _, _, _, _ => none
 | k + 1, x0, x3, x4, x7, x45, x46, x47, x144000, x144001 => if x47 < x46 then (if 0 ≤ x47 then (if x47 < (x45.length : Int) then (if (Int.tmod (shr .i64 x7 x47) 2) = 1 then (if x144001.length < 8796093022208 then (spec_pzParties.l3 k x0 x3 x4 x7 x45 x46 (wrap64 (x47 + 1)) x144000 (x144001 ++ [(⟨(rd_T105 x45 x47).f0, (rd_T105 x45 x47).f1⟩ : S105)])) else (none)) else (spec_pzParties.l3 k x0 x3 x4 x7 x45 x46 (wrap64 (x47 + 1)) x144000 x144001)) else (none)) else (none)) else (if x3.length < 4398046511104 then (spec_pzParties.l2 k x0 (x3 ++ [(⟨x144000, x144001⟩ : S33)]) x4 (wrap64 (x7 + 1))) else (none))
def spec_pzParties.l4 : Nat → List (S33) → Int → Option ((List (S33)))
 | 0, _, _ => none
 | k + 1, x3, x11 => if x11 < (x3.length : Int) then (spec_pzParties.l5 k x3 x11 ([] : List (S33)) 0) else (some x3)
def spec_pzParties.l5 : Nat → List (S33) → Int → List (S33) → Int → Option ((List (S33)))
 | 0, _, _, _, _ => none
 | k + 1, x3, x11, x12, x13 => if x13 < (x3.length : Int) then ((spec_l1Least.f (wrap64 (x13 + x11)) (x3.length : Int)).bind fun t152 => ((spec_l1Least.f (wrap64 (x13 + (wrap64 (2 * x11)))) (x3.length : Int)).bind fun t153 => (spec_pzParties.l6 k x3 x11 x12 x13 t152 t153 x13 t152))) else (spec_pzParties.l4 k x12 (wrap64 (x11 * 2)))
def spec_pzParties.l6 : Nat → List (S33) → Int → List (S33) → Int → Int → Int → Int → Int → Option ((List (S33)))
 | 0, _, _, _, _, _, _, _, _ => none
 | k + 1, x3, x11, x12, x13, x14, x15, x16, x17 => if x16 < x14 then (spec_pzParties.j7 k x3 x11 x12 x13 x14 x15 x16 x17 true) else (spec_pzParties.j7 k x3 x11 x12 x13 x14 x15 x16 x17 (decide (x17 < x15)))
def spec_pzParties.j7 : Nat → List (S33) → Int → List (S33) → Int → Int → Int → Int → Int → Bool → Option ((List (S33)))
 | 0, _, _, _, _, _, _, _, _, _ => none
 | k + 1, x3, x11, x12, x13, x14, x15, x16, x17, x104 => if x104 = true then (if x17 = x15 then (if 0 ≤ x16 then (if x16 < (x3.length : Int) then (if x12.length < 4398046511104 then (spec_pzParties.l6 k x3 x11 (x12 ++ [(⟨(rd_T33 x3 x16).f0, (rd_T33 x3 x16).f1⟩ : S33)]) x13 x14 x15 (wrap64 (x16 + 1)) x17) else (none)) else (none)) else (none)) else (if x16 < x14 then (if 0 ≤ x16 then (if x16 < (x3.length : Int) then (if 0 ≤ x17 then (if x17 < (x3.length : Int) then ((spec_paBefore.f k ((rd_T33 x3 x16).f0) ((rd_T33 x3 x16).f1) ((rd_T33 x3 x17).f0) ((rd_T33 x3 x17).f1)).bind fun t160 => (if t160 = true then (if x12.length < 4398046511104 then (spec_pzParties.l6 k x3 x11 (x12 ++ [(⟨(rd_T33 x3 x16).f0, (rd_T33 x3 x16).f1⟩ : S33)]) x13 x14 x15 (wrap64 (x16 + 1)) x17) else (none)) else (if x12.length < 4398046511104 then (spec_pzParties.l6 k x3 x11 (x12 ++ [(⟨(rd_T33 x3 x17).f0, (rd_T33 x3 x17).f1⟩ : S33)]) x13 x14 x15 x16 (wrap64 (x17 + 1))) else (none)))) else (none)) else (none)) else (none)) else (none)) else (if 0 ≤ x17 then (if x17 < (x3.length : Int) then (if x12.length < 4398046511104 then (spec_pzParties.l6 k x3 x11 (x12 ++ [(⟨(rd_T33 x3 x17).f0, (rd_T33 x3 x17).f1⟩ : S33)]) x13 x14 x15 x16 (wrap64 (x17 + 1))) else (none)) else (none)) else (none)))) else (spec_pzParties.l5 k x3 x11 x12 (wrap64 (x13 + (wrap64 (2 * x11)))))
end
def spec_pzParties.f (k : Nat) (a0 : Int) : Option ((List (S33))) := spec_pzParties.l0 k a0 ([] : List (S105)) 0
theorem spec_pzParties.mono_l : ∀ k, (∀ y0 y1 y2, LeO (spec_pzParties.l0 k y0 y1 y2) (spec_pzParties.l0 (k + 1) y0 y1 y2)) ∧ (∀ y0 y1 y2 y3, LeO (spec_pzParties.l1 k y0 y1 y2 y3) (spec_pzParties.l1 (k + 1) y0 y1 y2 y3)) ∧ (∀ y0 y1 y2 y3, LeO (spec_pzParties.l2 k y0 y1 y2 y3) (spec_pzParties.l2 (k + 1) y0 y1 y2 y3)) ∧ (∀ y0 y1 y2 y3 y4 y5 y6 y7 y8, LeO (spec_pzParties.l3 k y0 y1 y2 y3 y4 y5 y6 y7 y8) (spec_pzParties.l3 (k + 1) y0 y1 y2 y3 y4 y5 y6 y7 y8)) ∧ (∀ y0 y1, LeO (spec_pzParties.l4 k y0 y1) (spec_pzParties.l4 (k + 1) y0 y1)) ∧ (∀ y0 y1 y2 y3, LeO (spec_pzParties.l5 k y0 y1 y2 y3) (spec_pzParties.l5 (k + 1) y0 y1 y2 y3)) ∧ (∀ y0 y1 y2 y3 y4 y5 y6 y7, LeO (spec_pzParties.l6 k y0 y1 y2 y3 y4 y5 y6 y7) (spec_pzParties.l6 (k + 1) y0 y1 y2 y3 y4 y5 y6 y7)) ∧ (∀ y0 y1 y2 y3 y4 y5 y6 y7 y8, LeO (spec_pzParties.j7 k y0 y1 y2 y3 y4 y5 y6 y7 y8) (spec_pzParties.j7 (k + 1) y0 y1 y2 y3 y4 y5 y6 y7 y8))
 | 0 => ⟨fun _ _ _ r h => by simp [spec_pzParties.l0] at h, fun _ _ _ _ r h => by simp [spec_pzParties.l1] at h, fun _ _ _ _ r h => by simp [spec_pzParties.l2] at h, fun _ _ _ _ _ _ _ _ _ r h => by simp [spec_pzParties.l3] at h, fun _ _ r h => by simp [spec_pzParties.l4] at h, fun _ _ _ _ r h => by simp [spec_pzParties.l5] at h, fun _ _ _ _ _ _ _ _ r h => by simp [spec_pzParties.l6] at h, fun _ _ _ _ _ _ _ _ _ r h => by simp [spec_pzParties.j7] at h⟩
 | k + 1 => by
  obtain ⟨ih0, ih1, ih2, ih3, ih4, ih5, ih6, ih7⟩ := spec_pzParties.mono_l k
  refine ⟨?_, ?_, ?_, ?_, ?_, ?_, ?_, ?_⟩
  ·intro y0 y1 y2
   unfold spec_pzParties.l0
   repeat' first
   | (with_reducible exact ih0 _ _ _)
   | (with_reducible exact ih1 _ _ _ _)
   | (with_reducible exact ih2 _ _ _ _)
   | (with_reducible exact ih3 _ _ _ _ _ _ _ _ _)
   | (with_reducible exact ih4 _ _)
   | (with_reducible exact ih5 _ _ _ _)
   | (with_reducible exact ih6 _ _ _ _ _ _ _ _)
   | (with_reducible exact ih7 _ _ _ _ _ _ _ _ _)
   | (with_reducible exact spec_paBefore.mono _ _ _ _ _)
   | (with_reducible exact LeO.refl _)
   | (with_reducible exact LeO.none _)
   | (with_reducible refine LeO.ite ?_ ?_)
   | (with_reducible refine LeO.bind ?_ (fun _ => ?_))
   | exact ih0 _ _ _
   | exact ih1 _ _ _ _
   | exact ih2 _ _ _ _
   | exact ih3 _ _ _ _ _ _ _ _ _
   | exact ih4 _ _
   | exact ih5 _ _ _ _
   | exact ih6 _ _ _ _ _ _ _ _
   | exact ih7 _ _ _ _ _ _ _ _ _
   | exact spec_paBefore.mono _ _ _ _ _
   | exact LeO.none _
   | refine LeO.ite ?_ ?_
   | refine LeO.bind ?_ (fun _ => ?_)
  ·intro y0 y1 y2 y3
   unfold spec_pzParties.l1
   repeat' first
   | (with_reducible exact ih0 _ _ _)
   | (with_reducible exact ih1 _ _ _ _)
   | (with_reducible exact ih2 _ _ _ _)
   | (with_reducible exact ih3 _ _ _ _ _ _ _ _ _)
   | (with_reducible exact ih4 _ _)
   | (with_reducible exact ih5 _ _ _ _)
   | (with_reducible exact ih6 _ _ _ _ _ _ _ _)
   | (with_reducible exact ih7 _ _ _ _ _ _ _ _ _)
   | (with_reducible exact spec_paBefore.mono _ _ _ _ _)
   | (with_reducible exact LeO.refl _)
   | (with_reducible exact LeO.none _)
   | (with_reducible refine LeO.ite ?_ ?_)
   | (with_reducible refine LeO.bind ?_ (fun _ => ?_))
   | exact ih0 _ _ _
   | exact ih1 _ _ _ _
   | exact ih2 _ _ _ _
   | exact ih3 _ _ _ _ _ _ _ _ _
   | exact ih4 _ _
   | exact ih5 _ _ _ _
   | exact ih6 _ _ _ _ _ _ _ _
   | exact ih7 _ _ _ _ _ _ _ _ _
   | exact spec_paBefore.mono _ _ _ _ _
   | exact LeO.none _
   | refine LeO.ite ?_ ?_
   | refine LeO.bind ?_ (fun _ => ?_)
  ·intro y0 y1 y2 y3
   unfold spec_pzParties.l2
   repeat' first
   | (with_reducible exact ih0 _ _ _)
   | (with_reducible exact ih1 _ _ _ _)
   | (with_reducible exact ih2 _ _ _ _)
   | (with_reducible exact ih3 _ _ _ _ _ _ _ _ _)
   | (with_reducible exact ih4 _ _)
   | (with_reducible exact ih5 _ _ _ _)
   | (with_reducible exact ih6 _ _ _ _ _ _ _ _)
   | (with_reducible exact ih7 _ _ _ _ _ _ _ _ _)
   | (with_reducible exact spec_paBefore.mono _ _ _ _ _)
   | (with_reducible exact LeO.refl _)
   | (with_reducible exact LeO.none _)
   | (with_reducible refine LeO.ite ?_ ?_)
   | (with_reducible refine LeO.bind ?_ (fun _ => ?_))
   | exact ih0 _ _ _
   | exact ih1 _ _ _ _
   | exact ih2 _ _ _ _
   | exact ih3 _ _ _ _ _ _ _ _ _
   | exact ih4 _ _
   | exact ih5 _ _ _ _
   | exact ih6 _ _ _ _ _ _ _ _
   | exact ih7 _ _ _ _ _ _ _ _ _
   | exact spec_paBefore.mono _ _ _ _ _
   | exact LeO.none _
   | refine LeO.ite ?_ ?_
   | refine LeO.bind ?_ (fun _ => ?_)
  ·intro y0 y1 y2 y3 y4 y5 y6 y7 y8
   unfold spec_pzParties.l3
   repeat' first
   | (with_reducible exact ih0 _ _ _)
   | (with_reducible exact ih1 _ _ _ _)
   | (with_reducible exact ih2 _ _ _ _)
   | (with_reducible exact ih3 _ _ _ _ _ _ _ _ _)
   | (with_reducible exact ih4 _ _)
   | (with_reducible exact ih5 _ _ _ _)
   | (with_reducible exact ih6 _ _ _ _ _ _ _ _)
   | (with_reducible exact ih7 _ _ _ _ _ _ _ _ _)
   | (with_reducible exact spec_paBefore.mono _ _ _ _ _)
   | (with_reducible exact LeO.refl _)
   | (with_reducible exact LeO.none _)
   | (with_reducible refine LeO.ite ?_ ?_)
   | (with_reducible refine LeO.bind ?_ (fun _ => ?_))
   | exact ih0 _ _ _
   | exact ih1 _ _ _ _
   | exact ih2 _ _ _ _
   | exact ih3 _ _ _ _ _ _ _ _ _
   | exact ih4 _ _
   | exact ih5 _ _ _ _
   | exact ih6 _ _ _ _ _ _ _ _
   | exact ih7 _ _ _ _ _ _ _ _ _
   | exact spec_paBefore.mono _ _ _ _ _
   | exact LeO.none _
   | refine LeO.ite ?_ ?_
   | refine LeO.bind ?_ (fun _ => ?_)
  ·intro y0 y1
   unfold spec_pzParties.l4
   repeat' first
   | (with_reducible exact ih0 _ _ _)
   | (with_reducible exact ih1 _ _ _ _)
   | (with_reducible exact ih2 _ _ _ _)
   | (with_reducible exact ih3 _ _ _ _ _ _ _ _ _)
   | (with_reducible exact ih4 _ _)
   | (with_reducible exact ih5 _ _ _ _)
   | (with_reducible exact ih6 _ _ _ _ _ _ _ _)
   | (with_reducible exact ih7 _ _ _ _ _ _ _ _ _)
   | (with_reducible exact spec_paBefore.mono _ _ _ _ _)
   | (with_reducible exact LeO.refl _)
   | (with_reducible exact LeO.none _)
   | (with_reducible refine LeO.ite ?_ ?_)
   | (with_reducible refine LeO.bind ?_ (fun _ => ?_))
   | exact ih0 _ _ _
   | exact ih1 _ _ _ _
   | exact ih2 _ _ _ _
   | exact ih3 _ _ _ _ _ _ _ _ _
   | exact ih4 _ _
   | exact ih5 _ _ _ _
   | exact ih6 _ _ _ _ _ _ _ _
   | exact ih7 _ _ _ _ _ _ _ _ _
   | exact spec_paBefore.mono _ _ _ _ _
   | exact LeO.none _
   | refine LeO.ite ?_ ?_
   | refine LeO.bind ?_ (fun _ => ?_)
  ·intro y0 y1 y2 y3
   unfold spec_pzParties.l5
   repeat' first
   | (with_reducible exact ih0 _ _ _)
   | (with_reducible exact ih1 _ _ _ _)
   | (with_reducible exact ih2 _ _ _ _)
   | (with_reducible exact ih3 _ _ _ _ _ _ _ _ _)
   | (with_reducible exact ih4 _ _)
   | (with_reducible exact ih5 _ _ _ _)
   | (with_reducible exact ih6 _ _ _ _ _ _ _ _)
   | (with_reducible exact ih7 _ _ _ _ _ _ _ _ _)
   | (with_reducible exact spec_paBefore.mono _ _ _ _ _)
   | (with_reducible exact LeO.refl _)
   | (with_reducible exact LeO.none _)
   | (with_reducible refine LeO.ite ?_ ?_)
   | (with_reducible refine LeO.bind ?_ (fun _ => ?_))
   | exact ih0 _ _ _
   | exact ih1 _ _ _ _
   | exact ih2 _ _ _ _
   | exact ih3 _ _ _ _ _ _ _ _ _
   | exact ih4 _ _
   | exact ih5 _ _ _ _
   | exact ih6 _ _ _ _ _ _ _ _
   | exact ih7 _ _ _ _ _ _ _ _ _
   | exact spec_paBefore.mono _ _ _ _ _
   | exact LeO.none _
   | refine LeO.ite ?_ ?_
   | refine LeO.bind ?_ (fun _ => ?_)
  ·intro y0 y1 y2 y3 y4 y5 y6 y7
   unfold spec_pzParties.l6
   repeat' first
   | (with_reducible exact ih0 _ _ _)
   | (with_reducible exact ih1 _ _ _ _)
   | (with_reducible exact ih2 _ _ _ _)
   | (with_reducible exact ih3 _ _ _ _ _ _ _ _ _)
   | (with_reducible exact ih4 _ _)
   | (with_reducible exact ih5 _ _ _ _)
   | (with_reducible exact ih6 _ _ _ _ _ _ _ _)
   | (with_reducible exact ih7 _ _ _ _ _ _ _ _ _)
   | (with_reducible exact spec_paBefore.mono _ _ _ _ _)
   | (with_reducible exact LeO.refl _)
   | (with_reducible exact LeO.none _)
   | (with_reducible refine LeO.ite ?_ ?_)
   | (with_reducible refine LeO.bind ?_ (fun _ => ?_))
   | exact ih0 _ _ _
   | exact ih1 _ _ _ _
   | exact ih2 _ _ _ _
   | exact ih3 _ _ _ _ _ _ _ _ _
   | exact ih4 _ _
   | exact ih5 _ _ _ _
   | exact ih6 _ _ _ _ _ _ _ _
   | exact ih7 _ _ _ _ _ _ _ _ _
   | exact spec_paBefore.mono _ _ _ _ _
   | exact LeO.none _
   | refine LeO.ite ?_ ?_
   | refine LeO.bind ?_ (fun _ => ?_)
  ·intro y0 y1 y2 y3 y4 y5 y6 y7 y8
   unfold spec_pzParties.j7
   repeat' first
   | (with_reducible exact ih0 _ _ _)
   | (with_reducible exact ih1 _ _ _ _)
   | (with_reducible exact ih2 _ _ _ _)
   | (with_reducible exact ih3 _ _ _ _ _ _ _ _ _)
   | (with_reducible exact ih4 _ _)
   | (with_reducible exact ih5 _ _ _ _)
   | (with_reducible exact ih6 _ _ _ _ _ _ _ _)
   | (with_reducible exact ih7 _ _ _ _ _ _ _ _ _)
   | (with_reducible exact spec_paBefore.mono _ _ _ _ _)
   | (with_reducible exact LeO.refl _)
   | (with_reducible exact LeO.none _)
   | (with_reducible refine LeO.ite ?_ ?_)
   | (with_reducible refine LeO.bind ?_ (fun _ => ?_))
   | exact ih0 _ _ _
   | exact ih1 _ _ _ _
   | exact ih2 _ _ _ _
   | exact ih3 _ _ _ _ _ _ _ _ _
   | exact ih4 _ _
   | exact ih5 _ _ _ _
   | exact ih6 _ _ _ _ _ _ _ _
   | exact ih7 _ _ _ _ _ _ _ _ _
   | exact spec_paBefore.mono _ _ _ _ _
   | exact LeO.none _
   | refine LeO.ite ?_ ?_
   | refine LeO.bind ?_ (fun _ => ?_)
theorem spec_pzParties.mono : ∀ a0 k, LeO (spec_pzParties.f k a0) (spec_pzParties.f (k + 1) a0) := by
 intro a0 k
 obtain ⟨ih0, ih1, ih2, ih3, ih4, ih5, ih6, ih7⟩ := spec_pzParties.mono_l k
 unfold spec_pzParties.f
 repeat' first
   | (with_reducible exact ih0 _ _ _)
   | (with_reducible exact ih1 _ _ _ _)
   | (with_reducible exact ih2 _ _ _ _)
   | (with_reducible exact ih3 _ _ _ _ _ _ _ _ _)
   | (with_reducible exact ih4 _ _)
   | (with_reducible exact ih5 _ _ _ _)
   | (with_reducible exact ih6 _ _ _ _ _ _ _ _)
   | (with_reducible exact ih7 _ _ _ _ _ _ _ _ _)
   | (with_reducible exact spec_paBefore.mono _ _ _ _ _)
   | (with_reducible exact LeO.refl _)
   | (with_reducible exact LeO.none _)
   | (with_reducible refine LeO.ite ?_ ?_)
   | (with_reducible refine LeO.bind ?_ (fun _ => ?_))
   | exact ih0 _ _ _
   | exact ih1 _ _ _ _
   | exact ih2 _ _ _ _
   | exact ih3 _ _ _ _ _ _ _ _ _
   | exact ih4 _ _
   | exact ih5 _ _ _ _
   | exact ih6 _ _ _ _ _ _ _ _
   | exact ih7 _ _ _ _ _ _ _ _ _
   | exact spec_paBefore.mono _ _ _ _ _
   | exact LeO.none _
   | refine LeO.ite ?_ ?_
   | refine LeO.bind ?_ (fun _ => ?_)
def spec_pzParties.T31 : Bool × List (List Nat × List Nat) := (true, [([], []), ([], []), ([0, 1], [0, 1]), ([2], [2]), ([3], [3]), ([3], [3]), ([4, 5, 3], [3, 4, 5]), ([6, 3, 3], [3, 6]), ([7], [7]), ([7], [7]), ([8, 9, 7], [7, 8, 9]), ([10, 7], [7, 10]), ([7], [7]), ([7], [7]), ([12, 13, 7], [7, 12, 13]), ([14, 7], [7, 14]), ([11, 15, 7, 7], [7, 11, 15]), ([7, 16, 3], [3, 7, 16]), ([3, 17], [3, 17])])
def spec_pzParties.B31 : List Nat := [0, 0, 3, 7, 15, 15, 63, 127, 255, 255, 1023, 2047, 255, 255, 12543, 28927, 65535, 131071, 262143]
theorem spec_pzParties.tab31 : rtab .any (opsOf Tryd.f111 31) = spec_pzParties.T31 := by kernel_rfl
theorem spec_pzParties.bits31 : waitsOk spec_pzParties.T31.2 spec_pzParties.B31 = true := by kernel_rfl
set_option maxHeartbeats 8000000 in
set_option maxRecDepth 100000 in
theorem spec_pzParties.calls (k : Nat) (a0 : Int) (r : List (S33)) (w : World) (h : spec_pzParties.f k a0 = some r) :
  Calls Tryd.prog 111 #[.int .i64 a0] w fun e w' => ∃ v0_ : Value, e = .returned (v0_) ∧ Kd.N k33 33 w' w.heap.size (fun k_ => (w.heap.size ≤ k_)) v0_ r ∧ Below w.heap.size w w' := by
 have hu105 := Tryd.underlying105
 have hu33 := Tryd.underlying33
 have HB := Aside0.mk (Below.refl w.heap.size w)
 have H : (spec_pzParties.l0 k a0 ([] : List (S105)) 0) = some r := h
 clear h
 have H' := Aside0.mk H
 clear H
 go_enter Tryd.func111, Tryd.ntmps111
 go_wp2
 go_loopg [4, 5] k (fun kq v4 v5 w' => ∃ (x4_1 : List (S105)) (x5_1 : Int), v5 = .int .i64 x5_1 ∧ Aside0 (spec_pzParties.l0 kq a0 x4_1 x5_1 = some r) ∧ Aside0 (kq ≤ k) ∧ Aside0 (Kd.R k105 105 w' w.heap.size (fun k_ => (w.heap.size ≤ k_)) v4 x4_1) ∧ Aside0 (Below w.heap.size w w'))
 case atStart => exact ⟨(([] : List (S105))), (0), (by first | rfl | (simp; done) | (simp [*]; done)), H', ⟨Nat.le_refl _⟩, ⟨by first | exact Kd.R_nil _ _ _ _ _ | exact Kd.N_nil _ _ _ _ _ | exact Kd.V_nil _ _ _ _ _ | exact Kd.Q_nil _ _ _ _ _ | exact Kd.S_nil _ _ _ _ _⟩, ⟨hB⟩⟩
 case round =>
  clear H'
  try clear c1
  obtain ⟨x4_1, x5_1, rfl, HA, HK1, HO_4, HB⟩ := hrel
  cases gk with
  | zero => exact absurd HA.out (by simp [spec_pzParties.l0])
  | succ k1 =>
   have H := HA.out
   clear HA
   simp only [spec_pzParties.l0] at H
   by_cases c2 : x5_1 < a0
   ·rw [if_pos c2] at H
    have c2b0 : decide (x5_1 < a0) = true := decide_eq_true c2
    clear c2
    have H' := Aside0.mk H
    clear H
    go_wp2
    go_loopg [4, 6] k1 (fun kq v4 v6 w' => ∃ (x4_2 : List (S105)) (x6_2 : Int), v6 = .int .i64 x6_2 ∧ Aside0 (spec_pzParties.l1 kq a0 x4_2 x5_1 x6_2 = some r) ∧ Aside0 (kq ≤ k1) ∧ Aside0 (Kd.R k105 105 w' w.heap.size (fun k_ => (w.heap.size ≤ k_)) v4 x4_2) ∧ Aside0 (Below w.heap.size w w'))
    case atStart => exact ⟨(x4_1), (wrap64 (x5_1 + 1)), (by first | rfl | (simp; done) | (simp [*]; done)), H', ⟨Nat.le_refl _⟩, ⟨rU HO_4⟩, ⟨hB⟩⟩
    case round =>
     clear H'
     try clear c1
     try clear c2
     try clear c2b0
     try clear p2
     obtain ⟨x4_2, x6_2, rfl, HA, HK2, HO_4, HB⟩ := hrel
     cases gk with
     | zero => exact absurd HA.out (by simp [spec_pzParties.l1])
     | succ k2 =>
      have H := HA.out
      clear HA
      simp only [spec_pzParties.l1] at H
      by_cases c3 : x6_2 < a0
      ·rw [if_pos c3] at H
       have c3b0 : decide (x6_2 < a0) = true := decide_eq_true c3
       clear c3
       by_cases c4 : x4_2.length < 8796093022208
       ·rw [if_pos c4] at H
        have LMc4 := Aside0.mk c4
        clear c4
        obtain ⟨y140, hy140⟩ : ∃ y_ : List (S105), y_ = (x4_2 ++ [(⟨x5_1, x6_2⟩ : S105)]) := ⟨_, rfl⟩
        replace H : (spec_pzParties.l1 k2 a0 y140 x5_1 (wrap64 (x6_2 + 1))) = some r := by first | (rw [hy140]; with_reducible exact H) | (have H2_ := (Option.bind_some _ _).symm.trans H; rw [hy140]; with_reducible exact H2_) | (have H2_ := (Option.bind_some _ _).symm.trans H; with_reducible exact H2_) | with_reducible exact H | (rw [hy140]; exact H) | exact H
        have Ny140 := Aside0.mk hy140
        clear hy140
        have H' := Aside0.mk H
        clear H
        go_wp2_with (first | ((with_reducible refine gate_builtin (b := .append) (xs := #[.tmp 30, .tmp 34]) rfl ?_); at_builtin; refine Kd.R_append k105 (w0 := w) w.heap.size rfl (.tmp 30) (.tmp 34) 31 105 (.agg #[(.int .i64 0), (.int .i64 0)]) 16 rfl Tryd.underlying31 info105 rfl (by decide) (by omega) u4 x4_2 (⟨x5_1, x6_2⟩ : S105) [.int .i64 x5_1, .int .i64 x6_2] (fun k_ => (w.heap.size ≤ k_)) (fun _ => False) rfl rfl ?aP (fun _ hk => hk.elim) ?aF ?aO ?aB ?aS ?aL ?_; (case aP => exact k105_mkM _ _ _ (⟨x5_1, x6_2⟩ : S105)); (case aB => exact hB); (case aF => exact (fun k_ hk => (Nat.le_trans (below_size hB) hk))); (case aO => exact (rU HO_4)); (case aS => exact (below_size hB)); (case aL => have := LMc4.out; omega); intro v141 w5 ho hb hg hat; rw [← Ny140.out] at ho; have HO142 := Aside0.mk (ho); replace HB := Aside0.mk (hb); clear HO_4; clear ho hb hg hat))
        go_roundg k2
        case measure => have := HK1.out; have := HK2.out; omega
        case rel => exact ⟨(y140), (wrap64 (x6_2 + 1)), (by first | rfl | (simp; done) | (simp [*]; done)), H', ⟨by have := HK1.out; have := HK2.out; omega⟩, ⟨rU HO142⟩, ⟨hB⟩⟩
       ·rw [if_neg c4] at H
        exact absurd H (by simp)
      ·rw [if_neg c3] at H
       have c3b0 : decide (x6_2 < a0) = false := decide_eq_false c3
       clear c3
       have H' := Aside0.mk H
       clear H
       go_wp2
       go_roundg k2
       case measure => have := HK1.out; have := HK2.out; omega
       case rel => exact ⟨(x4_2), (wrap64 (x5_1 + 1)), (by first | rfl | (simp; done) | (simp [*]; done)), H', ⟨by have := HK1.out; have := HK2.out; omega⟩, ⟨rU HO_4⟩, ⟨hB⟩⟩
   ·rw [if_neg c2] at H
    have c2b0 : decide (x5_1 < a0) = false := decide_eq_false c2
    clear c2
    have H' := Aside0.mk H
    clear H
    go_wp2
    go_loopg [3, 7] k1 (fun kq v3 v7 w' => ∃ (x3_2 : List (S33)) (x7_2 : Int), v7 = .int .i64 x7_2 ∧ Aside0 (spec_pzParties.l2 kq a0 x3_2 x4_1 x7_2 = some r) ∧ Aside0 (kq ≤ k1) ∧ Aside0 (Kd.N k33 33 w' w.heap.size (fun k_ => (w.heap.size ≤ k_) ∧ some k_ ≠ (u4 : Value).ownBlock) v3 x3_2) ∧ Aside0 (Kd.R k105 105 w' w.heap.size (fun k_ => (w.heap.size ≤ k_)) u4 x4_1) ∧ Aside0 (Below w.heap.size w w'))
    case atStart => exact ⟨(([] : List (S33))), (0), (by first | rfl | (simp; done) | (simp [*]; done)), H', ⟨Nat.le_refl _⟩, ⟨by first | exact Kd.S_nil _ _ _ _ _ | exact Kd.N_nil _ _ _ _ _ | exact Kd.V_nil _ _ _ _ _ | exact Kd.Q_nil _ _ _ _ _ | exact Kd.R_nil _ _ _ _ _⟩, ⟨rU HO_4⟩, ⟨hB⟩⟩
    case round =>
     clear H'
     try clear c1
     try clear c2
     try clear c2b0
     try clear p2
     try clear c3
     try clear c3b0
     try clear c4
     try clear p2
     obtain ⟨x3_2, x7_2, rfl, HA, HK2, HO_3, HO_4, HB⟩ := hrel
     cases gk with
     | zero => exact absurd HA.out (by simp [spec_pzParties.l2])
     | succ k2 =>
      have H := HA.out
      clear HA
      simp only [spec_pzParties.l2] at H
      obtain ⟨ji6, hji6⟩ : ∃ j_ : Int, (shl .i64 1 (x4_1.length : Int)) = j_ := ⟨_, rfl⟩
      replace H : (if x7_2 < (ji6) then (spec_pzParties.l3 k2 a0 x3_2 x4_1 x7_2 x4_1 (x4_1.length : Int) 0 a0 ([] : List (S105))) else (spec_pzParties.l4 k2 x3_2 1)) = some r := by first | (rw [hji6] at H; exact H) | (simp only [hji6] at H ⊢; exact H)
      have hji6_ : (IntKind.i64.wrap (1 * 2 ^ min (x4_1.length : Int).toNat 64)) = ji6 := hji6
      have hji6z : (x4_1.length : Int) ≤ 64 → (IntKind.i64.wrap (1 * 2 ^ (x4_1.length : Int).toNat)) = ji6 := shl_small hji6
      have hji6p : (IntKind.i64.wrap (1 * 2 ^ min x4_1.length 64)) = ji6 := hji6_
      have hji6q : (x4_1.length : Int) ≤ 64 → (IntKind.i64.wrap (1 * 2 ^ x4_1.length)) = ji6 := hji6z
      have hji6r : (IntKind.i64.wrap (2 ^ min x4_1.length 64)) = ji6 := by have h_ := hji6p; rw [Int.one_mul] at h_; exact h_
      have hji6s : (x4_1.length : Int) ≤ 64 → (IntKind.i64.wrap (2 ^ x4_1.length)) = ji6 := fun hle_ => by have h_ := hji6q hle_; rw [Int.one_mul] at h_; exact h_
      have hji6u : (IntKind.i64.wrap (2 ^ min (x4_1.length : Int).toNat 64)) = ji6 := by have h_ := hji6_; rw [Int.one_mul] at h_; exact h_
      have hji6v : (x4_1.length : Int) ≤ 64 → (IntKind.i64.wrap (2 ^ (x4_1.length : Int).toNat)) = ji6 := fun hle_ => by have h_ := hji6z hle_; rw [Int.one_mul] at h_; exact h_
      have hji6y : (wrap64 (1 * 2 ^ min (x4_1.length : Int).toNat 64)) = ji6 := (i64_w _).symm.trans hji6_
      have hji6x : (x4_1.length : Int) ≤ 64 → (wrap64 (1 * 2 ^ (x4_1.length : Int).toNat)) = ji6 := fun h_ => (i64_w _).symm.trans (hji6z h_)
      by_cases c7 : x7_2 < (ji6)
      ·rw [if_pos c7] at H
       have c7b0 : decide (x7_2 < (ji6)) = true := decide_eq_true c7
       clear c7
       have H' := Aside0.mk H
       clear H
       obtain ⟨Ao8, co8, eo8⟩ := Kd.R_slice HO_4.out
       subst eo8
       go_wp2_with (first | ((with_reducible refine gate_dst (N := 8) rfl ?_); refine bxE 8 #[.int .i64 0, .slice none 0 0] 33 rfl ?_; intro gb143 hg w9 hbox hb; have BK143 := Aside0.mk (hbox); have GW143 := gS HB hg; have GE143 := gS HB hg; replace HO_3 := Aside0.mk (Kd.N_below (Kd.N_elderB (nU HO_3) gb143 (Nat.le_of_eq hg.symm)) hb); replace HO_4 := Aside0.mk (Kd.R_below (rU HO_4) hb); replace HB := hS HB hb; clear hb hbox hg; have hcz10_0 := cz BK143 0; have hcz10_1 := cz BK143 1; have hfz10_0 := fz BK143 0; have hfz10_1 := fz BK143 1))
       go_loopg [47] k2 (fun kq v47 w' => ∃ (x47_3 : Int) (x144001_3 : List (S105)) (u144001 : Value), v47 = .int .i64 x47_3 ∧ Aside0 (spec_pzParties.l3 kq a0 x3_2 x4_1 x7_2 x4_1 (x4_1.length : Int) x47_3 a0 x144001_3 = some r) ∧ Aside0 (kq ≤ k2) ∧ Aside0 (Kd.N k33 33 w' w.heap.size (fun k_ => (w.heap.size ≤ k_) ∧ some k_ ≠ ((.slice Ao8 x4_1.length co8) : Value).ownBlock ∧ some k_ ≠ ((.slice Ao8 x4_1.length co8) : Value).ownBlock ∧ some k_ ≠ (u144001 : Value).ownBlock ∧ k_ ≠ gb143) u3 x3_2) ∧ Aside0 (Kd.R k105 105 w' w.heap.size (fun k_ => (w.heap.size ≤ k_) ∧ some k_ ≠ (u144001 : Value).ownBlock) (.slice Ao8 x4_1.length co8) x4_1) ∧ Aside0 (Kd.R k105 105 w' w.heap.size (fun k_ => (w.heap.size ≤ k_) ∧ some k_ ≠ (u144001 : Value).ownBlock) (.slice Ao8 x4_1.length co8) x4_1) ∧ Aside0 (Kd.R k105 105 w' w.heap.size (fun k_ => (w.heap.size ≤ k_) ∧ some k_ ≠ ((.slice Ao8 x4_1.length co8) : Value).ownBlock ∧ some k_ ≠ ((.slice Ao8 x4_1.length co8) : Value).ownBlock) u144001 x144001_3) ∧ Aside0 (w'.heap[gb143]? = some (.cells #[.int .i64 a0, u144001] 33 (0, 0))) ∧ Aside0 (Below w.heap.size w w'))
       case atStart => exact ⟨(0), (([] : List (S105))), (.slice none 0 0), (by first | rfl | (simp; done) | (simp [*]; done)), H', ⟨Nat.le_refl _⟩, ⟨by (with_reducible repeat (first | apply Kd.N_alloc | apply Kd.N_drewN | apply Kd.N_drew)); exact Kd.N_mono (Kd.N_far (p := ⟨gb143, 1, none⟩) (Kd.N_far (p := ⟨gb143, 0, none⟩) (Kd.N_mono HO_3.out (fun k_ hk => (⟨hk, hk.2⟩ : _ ∧ k_ ≠ gb143))) (fun _ hk => hk.2) (.int .i64 a0)) (fun _ hk => hk.2) (.slice none 0 0)) (fun _ hk => ⟨hk.1.1.1, ⟨hk.1.1.2, ⟨hk.1.1.2, ⟨(by simp [Value.ownBlock]), hk.1.2⟩⟩⟩⟩)⟩, ⟨by (with_reducible repeat (first | apply Kd.R_alloc | apply Kd.R_drewN | apply Kd.R_drew)); exact Kd.R_mono (Kd.R_far (p := ⟨gb143, 1, none⟩) (Kd.R_far (p := ⟨gb143, 0, none⟩) (Kd.R_types HO_4.out BK143.out (by decide)) (fun _ hk => hk.2) (.int .i64 a0)) (fun _ hk => hk.2) (.slice none 0 0)) (fun _ hk => ⟨hk.1, (by simp [Value.ownBlock])⟩)⟩, ⟨by (with_reducible repeat (first | apply Kd.R_alloc | apply Kd.R_drewN | apply Kd.R_drew)); exact Kd.R_mono (Kd.R_far (p := ⟨gb143, 1, none⟩) (Kd.R_far (p := ⟨gb143, 0, none⟩) (Kd.R_types HO_4.out BK143.out (by decide)) (fun _ hk => hk.2) (.int .i64 a0)) (fun _ hk => hk.2) (.slice none 0 0)) (fun _ hk => ⟨hk.1, (by simp [Value.ownBlock])⟩)⟩, ⟨by first | exact Kd.R_nil _ _ _ _ _ | exact Kd.N_nil _ _ _ _ _ | exact Kd.V_nil _ _ _ _ _ | exact Kd.Q_nil _ _ _ _ _ | exact Kd.S_nil _ _ _ _ _⟩, ⟨by (with_reducible repeat (first | refine blk_drewN ?_ _ | refine blk_drew ?_ | refine blk_alloc ?_ _)); refine blk_put (cs := #[.int .i64 a0, .slice none 0 0]) ?_ 1 _ rfl; (with_reducible repeat (first | refine blk_drewN ?_ _ | refine blk_drew ?_ | refine blk_alloc ?_ _)); refine blk_put (cs := #[.int .i64 0, .slice none 0 0]) ?_ 0 _ rfl; (with_reducible repeat (first | refine blk_drewN ?_ _ | refine blk_drew ?_ | refine blk_alloc ?_ _)); exact BK143.out⟩, ⟨hB⟩⟩
       case round =>
        clear H'
        try clear c1
        try clear c2
        try clear c2b0
        try clear p2
        try clear c3
        try clear c3b0
        try clear c4
        try clear p6
        try clear c7
        try clear c7b0
        try clear hcz10_0
        try clear hcz10_1
        try clear hfz10_0
        try clear hfz10_1
        try clear p2
        obtain ⟨x47_3, x144001_3, u144001, rfl, HA, HK3, HO_3, HO_4, HO_45, HO_144001, BK143, HB⟩ := hrel
        cases gk with
        | zero => exact absurd HA.out (by simp [spec_pzParties.l3])
        | succ k3 =>
         have H := HA.out
         clear HA
         simp only [spec_pzParties.l3] at H
         by_cases c11 : x47_3 < (x4_1.length : Int)
         ·rw [if_pos c11] at H
          have c11b0 : decide (x47_3 < (x4_1.length : Int)) = true := decide_eq_true c11
          clear c11
          by_cases c12 : 0 ≤ x47_3
          ·rw [if_pos c12] at H
           have c12b0 : decide (0 ≤ x47_3) = true := decide_eq_true c12
           clear c12
           by_cases c13 : x47_3 < (x4_1.length : Int)
           ·rw [if_pos c13] at H
            have c13b0 : decide (x47_3 < (x4_1.length : Int)) = true := decide_eq_true c13
            clear c13
            have c14b0 := eq_true (of_decide_eq_true (by first | (with_reducible assumption) | assumption) : 0 ≤ x47_3)
            obtain ⟨ji15, hji15⟩ : ∃ j_ : Int, (shr .i64 x7_2 x47_3) = j_ := ⟨_, rfl⟩
            replace H : (if (Int.tmod (ji15) 2) = 1 then (if x144001_3.length < 8796093022208 then (spec_pzParties.l3 k3 a0 x3_2 x4_1 x7_2 x4_1 (x4_1.length : Int) (wrap64 (x47_3 + 1)) a0 (x144001_3 ++ [(⟨(rd_T105 x4_1 x47_3).f0, (rd_T105 x4_1 x47_3).f1⟩ : S105)])) else (none)) else (spec_pzParties.l3 k3 a0 x3_2 x4_1 x7_2 x4_1 (x4_1.length : Int) (wrap64 (x47_3 + 1)) a0 x144001_3)) = some r := by first | (rw [hji15] at H; exact H) | (simp only [hji15] at H ⊢; exact H)
            have hji15_ : (x7_2 / 2 ^ min x47_3.toNat 64) = ji15 := hji15
            have hji15z : x47_3 ≤ 64 → (x7_2 / 2 ^ x47_3.toNat) = ji15 := shr_small hji15
            by_cases c16 : (Int.tmod (ji15) 2) = 1
            ·rw [if_pos c16] at H
             have c16b0 : ((Int.tmod (ji15) 2) == 1) = true := beq_iff_eq.mpr c16
             have c16b1 : ((Int.tmod (ji15) 2) != 1) = false := bne_eq_false_iff_eq.mpr c16
             clear c16
             by_cases c17 : x144001_3.length < 8796093022208
             ·rw [if_pos c17] at H
              have LMc17 := Aside0.mk c17
              clear c17
              obtain ⟨y146, hy146⟩ : ∃ y_ : List (S105), y_ = (x144001_3 ++ [(⟨(rd_T105 x4_1 x47_3).f0, (rd_T105 x4_1 x47_3).f1⟩ : S105)]) := ⟨_, rfl⟩
              replace H : (spec_pzParties.l3 k3 a0 x3_2 x4_1 x7_2 x4_1 (x4_1.length : Int) (wrap64 (x47_3 + 1)) a0 y146) = some r := by first | (rw [hy146]; with_reducible exact H) | (have H2_ := (Option.bind_some _ _).symm.trans H; rw [hy146]; with_reducible exact H2_) | (have H2_ := (Option.bind_some _ _).symm.trans H; with_reducible exact H2_) | with_reducible exact H | (rw [hy146]; exact H) | exact H
              have Ny146 := Aside0.mk hy146
              clear hy146
              have H' := Aside0.mk H
              clear H
              have p144 : 0 ≤ (x47_3 : Int) := of_decide_eq_true (by first | (with_reducible assumption) | assumption)
              have q144 : x47_3 < (x4_1.length : Int) := of_decide_eq_true (by first | (with_reducible assumption) | assumption)
              obtain ⟨ad144, e144, hx144_0, hx144_1⟩ := at_T105 (Kd.R_reads' HO_45.out).2.2 x47_3 p144 q144
              cases e144
              replace p144 := eq_true p144
              replace q144 := eq_true q144
              go_wp2_with (first | ((with_reducible refine gate_dst (N := 10) rfl ?_); refine bxE 10 #[.int .i64 0, .int .i64 0] 105 rfl ?_; intro gb145 hg w18 hbox hb; have BK145 := Aside0.mk (hbox); have GW145 := gS HB hg; have GE145 := gS HB hg; have NB143_145 := nL BK143 hg; have NB145_143 := nG BK143 hg; replace HO_3 := Aside0.mk (Kd.N_below (Kd.N_elderB (nU HO_3) gb145 (Nat.le_of_eq hg.symm)) hb); replace HO_4 := Aside0.mk (Kd.R_below (Kd.R_elderB (rU HO_4) gb145 (Nat.le_of_eq hg.symm)) hb); replace HO_45 := Aside0.mk (Kd.R_below (Kd.R_elderB (rU HO_45) gb145 (Nat.le_of_eq hg.symm)) hb); replace HO_144001 := Aside0.mk (Kd.R_below (Kd.R_elderB (rU HO_144001) gb145 (Nat.le_of_eq hg.symm)) hb); replace BK143 := bS BK143 hb; replace HB := hS HB hb; clear hb hbox hg; have hnb19 := NB145_143.out; have hnc19 := NB143_145.out; have hcz20_0 := cz BK145 0; have hcz20_1 := cz BK145 1; have hfz20_0 := fz BK145 0; have hfz20_1 := fz BK145 1; have hcz21_0 := cz BK143 0; have hcz21_1 := cz BK143 1; have hfz21_0 := fz BK143 0; have hfz21_1 := fz BK143 1) | ((with_reducible refine gate_builtin (b := .append) (xs := #[.tmp 58, .tmp 60]) rfl ?_); at_builtin; refine Kd.R_append k105 (w0 := w) w.heap.size rfl (.tmp 58) (.tmp 60) 31 105 (.agg #[(.int .i64 0), (.int .i64 0)]) 16 rfl Tryd.underlying31 info105 rfl (by decide) (by omega) u144001 x144001_3 (⟨(rd_T105 x4_1 x47_3).f0, (rd_T105 x4_1 x47_3).f1⟩ : S105) [.int .i64 ((rd_T105 x4_1 x47_3).f0), .int .i64 ((rd_T105 x4_1 x47_3).f1)] (fun k_ => (w.heap.size ≤ k_) ∧ some k_ ≠ (.slice (some ad144) x4_1.length co8 : Value).ownBlock ∧ some k_ ≠ (.slice (some ad144) x4_1.length co8 : Value).ownBlock ∧ k_ ≠ gb145) (fun _ => False) rfl (by first | (go_simp; done) | (go_simp; rfl)) ?aP (fun _ hk => hk.elim) ?aF ?aO ?aB ?aS ?aL ?_; (case aP => exact k105_mkM _ _ _ (⟨(rd_T105 x4_1 x47_3).f0, (rd_T105 x4_1 x47_3).f1⟩ : S105)); (case aB => exact hB); (case aF => exact (fun k_ hk => ⟨(Nat.le_trans (below_size hB) hk), Kd.fresh' (Kd.R_lt (by (with_reducible repeat (first | apply Kd.R_alloc | apply Kd.R_drewN | apply Kd.R_drew)); exact (Kd.R_mono (Kd.R_far (p := ⟨gb145, 1, none⟩) (Kd.R_far (p := ⟨gb145, 0, none⟩) (Kd.R_mono HO_4.out (fun k_ hk => (⟨hk, hk.2⟩ : _ ∧ k_ ≠ gb145))) (fun _ hk => hk.2) (.int .i64 ((rd_T105 x4_1 x47_3).f0))) (fun _ hk => hk.2) (.int .i64 ((rd_T105 x4_1 x47_3).f1))) (fun _ h_ => h_.1)))) k_ hk, Kd.fresh' (Kd.R_lt (by (with_reducible repeat (first | apply Kd.R_alloc | apply Kd.R_drewN | apply Kd.R_drew)); exact (Kd.R_mono (Kd.R_far (p := ⟨gb145, 1, none⟩) (Kd.R_far (p := ⟨gb145, 0, none⟩) (Kd.R_mono HO_45.out (fun k_ hk => (⟨hk, hk.2⟩ : _ ∧ k_ ≠ gb145))) (fun _ hk => hk.2) (.int .i64 ((rd_T105 x4_1 x47_3).f0))) (fun _ hk => hk.2) (.int .i64 ((rd_T105 x4_1 x47_3).f1))) (fun _ h_ => h_.1)))) k_ hk, Kd.freshB (g := gb145) (o := .cells #[.int .i64 ((rd_T105 x4_1 x47_3).f0), .int .i64 ((rd_T105 x4_1 x47_3).f1)] 105 (0, 0)) (by (with_reducible repeat (first | refine blk_drewN ?_ _ | refine blk_drew ?_ | refine blk_alloc ?_ _)); refine blk_put (cs := #[.int .i64 ((rd_T105 x4_1 x47_3).f0), .int .i64 0]) ?_ 1 _ rfl; (with_reducible repeat (first | refine blk_drewN ?_ _ | refine blk_drew ?_ | refine blk_alloc ?_ _)); refine blk_put (cs := #[.int .i64 0, .int .i64 0]) ?_ 0 _ rfl; (with_reducible repeat (first | refine blk_drewN ?_ _ | refine blk_drew ?_ | refine blk_alloc ?_ _)); exact BK145.out) k_ hk⟩)); (case aO => exact (by (with_reducible repeat (first | apply Kd.R_alloc | apply Kd.R_drewN | apply Kd.R_drew)); exact Kd.R_mono (Kd.R_far (p := ⟨gb145, 1, none⟩) (Kd.R_far (p := ⟨gb145, 0, none⟩) (Kd.R_mono HO_144001.out (fun k_ hk => (⟨hk, hk.2⟩ : _ ∧ k_ ≠ gb145))) (fun _ hk => hk.2) (.int .i64 ((rd_T105 x4_1 x47_3).f0))) (fun _ hk => hk.2) (.int .i64 ((rd_T105 x4_1 x47_3).f1))) (fun _ hk => ⟨hk.1.1.1, ⟨hk.1.1.2.1, ⟨hk.1.1.2.2, hk.1.2⟩⟩⟩))); (case aS => exact (below_size hB)); (case aL => have := LMc17.out; omega); intro v147 w22 ho hb hg hat; rw [← Ny146.out] at ho; have HO148 := Aside0.mk (ho); replace HO_3 := Aside0.mk (Kd.N_afterv (ok := (fun k_ => (w.heap.size ≤ k_) ∧ some k_ ≠ (.slice (some ad144) x4_1.length co8 : Value).ownBlock ∧ some k_ ≠ (.slice (some ad144) x4_1.length co8 : Value).ownBlock ∧ k_ ≠ gb143 ∧ k_ ≠ gb145)) (by (with_reducible repeat (first | apply Kd.N_alloc | apply Kd.N_drewN | apply Kd.N_drew)); exact Kd.N_mono (Kd.N_far (p := ⟨gb145, 1, none⟩) (Kd.N_far (p := ⟨gb145, 0, none⟩) (Kd.N_mono HO_3.out (fun k_ hk => (⟨hk, hk.2⟩ : _ ∧ k_ ≠ gb145))) (fun _ hk => hk.2) (.int .i64 ((rd_T105 x4_1 x47_3).f0))) (fun _ hk => hk.2) (.int .i64 ((rd_T105 x4_1 x47_3).f1))) (fun _ hk => ⟨⟨hk.1.1.1, ⟨hk.1.1.2.1, ⟨hk.1.1.2.2.1, ⟨hk.1.1.2.2.2.2, hk.1.2⟩⟩⟩⟩, hk.1.1.2.2.2.1⟩)) hg hat); replace HO_4 := Aside0.mk (Kd.R_after (ok := (fun k_ => (w.heap.size ≤ k_) ∧ k_ ≠ gb145)) (by (with_reducible repeat (first | apply Kd.R_alloc | apply Kd.R_drewN | apply Kd.R_drew)); exact Kd.R_mono (Kd.R_far (p := ⟨gb145, 1, none⟩) (Kd.R_far (p := ⟨gb145, 0, none⟩) (Kd.R_mono HO_4.out (fun k_ hk => (⟨hk, hk.2⟩ : _ ∧ k_ ≠ gb145))) (fun _ hk => hk.2) (.int .i64 ((rd_T105 x4_1 x47_3).f0))) (fun _ hk => hk.2) (.int .i64 ((rd_T105 x4_1 x47_3).f1))) (fun _ hk => ⟨⟨hk.1.1.1, hk.1.2⟩, hk.1.1.2⟩)) hg hat); replace HO_45 := Aside0.mk (Kd.R_after (ok := (fun k_ => (w.heap.size ≤ k_) ∧ k_ ≠ gb145)) (by (with_reducible repeat (first | apply Kd.R_alloc | apply Kd.R_drewN | apply Kd.R_drew)); exact Kd.R_mono (Kd.R_far (p := ⟨gb145, 1, none⟩) (Kd.R_far (p := ⟨gb145, 0, none⟩) (Kd.R_mono HO_45.out (fun k_ hk => (⟨hk, hk.2⟩ : _ ∧ k_ ≠ gb145))) (fun _ hk => hk.2) (.int .i64 ((rd_T105 x4_1 x47_3).f0))) (fun _ hk => hk.2) (.int .i64 ((rd_T105 x4_1 x47_3).f1))) (fun _ hk => ⟨⟨hk.1.1.1, hk.1.2⟩, hk.1.1.2⟩)) hg hat); replace BK143 := Aside0.mk (blk_grown (g := gb143) (o := .cells #[.int .i64 a0, u144001] 33 (0, 0)) (by (with_reducible repeat (first | refine blk_drewN ?_ _ | refine blk_drew ?_ | refine blk_alloc ?_ _)); refine blk_far ?_ NB143_145.out _; (with_reducible repeat (first | refine blk_drewN ?_ _ | refine blk_drew ?_ | refine blk_alloc ?_ _)); refine blk_far ?_ NB143_145.out _; (with_reducible repeat (first | refine blk_drewN ?_ _ | refine blk_drew ?_ | refine blk_alloc ?_ _)); exact BK143.out) hg (Kd.R_ne HO_144001.out BK143.out (by decide))); replace BK145 := Aside0.mk (blk_grown (g := gb145) (o := .cells #[.int .i64 ((rd_T105 x4_1 x47_3).f0), .int .i64 ((rd_T105 x4_1 x47_3).f1)] 105 (0, 0)) (by (with_reducible repeat (first | refine blk_drewN ?_ _ | refine blk_drew ?_ | refine blk_alloc ?_ _)); refine blk_put (cs := #[.int .i64 ((rd_T105 x4_1 x47_3).f0), .int .i64 0]) ?_ 1 _ rfl; (with_reducible repeat (first | refine blk_drewN ?_ _ | refine blk_drew ?_ | refine blk_alloc ?_ _)); refine blk_put (cs := #[.int .i64 0, .int .i64 0]) ?_ 0 _ rfl; (with_reducible repeat (first | refine blk_drewN ?_ _ | refine blk_drew ?_ | refine blk_alloc ?_ _)); exact BK145.out) hg (Kd.R_away HO_144001.out (fun _ hk => hk.2))); replace HB := Aside0.mk (hb); clear HO_144001; clear ho hb hg hat; obtain ⟨Ao23, co23, eo23⟩ := Kd.R_slice HO148.out; subst eo23; have hcz24_0 := cz BK143 0; have hcz24_1 := cz BK143 1; have hfz24_0 := fz BK143 0; have hfz24_1 := fz BK143 1))
              go_roundg k3
              case measure => have := HK1.out; have := HK2.out; have := HK3.out; omega
              case rel => exact ⟨(wrap64 (x47_3 + 1)), (y146), (.slice Ao23 y146.length co23), (by first | rfl | (simp; done) | (simp [*]; done)), H', ⟨by have := HK1.out; have := HK2.out; have := HK3.out; omega⟩, ⟨by (with_reducible repeat (first | apply Kd.N_alloc | apply Kd.N_drewN | apply Kd.N_drew)); exact Kd.N_mono (Kd.N_far (p := ⟨gb143, 1, none⟩) (Kd.N_mono HO_3.out (fun k_ hk => (⟨hk, hk.1.2.2.2.1⟩ : _ ∧ k_ ≠ gb143))) (fun _ hk => hk.2) (.slice Ao23 y146.length co23)) (fun _ hk => ⟨hk.1.1.1, ⟨hk.1.1.2.1, ⟨hk.1.1.2.2.1, ⟨hk.1.2, hk.1.1.2.2.2.1⟩⟩⟩⟩)⟩, ⟨by (with_reducible repeat (first | apply Kd.R_alloc | apply Kd.R_drewN | apply Kd.R_drew)); exact Kd.R_mono (Kd.R_far (p := ⟨gb143, 1, none⟩) (Kd.R_types HO_4.out BK143.out (by decide)) (fun _ hk => hk.2) (.slice Ao23 y146.length co23)) (fun _ hk => ⟨hk.1.1.1, hk.1.2⟩)⟩, ⟨by (with_reducible repeat (first | apply Kd.R_alloc | apply Kd.R_drewN | apply Kd.R_drew)); exact Kd.R_mono (Kd.R_far (p := ⟨gb143, 1, none⟩) (Kd.R_types HO_45.out BK143.out (by decide)) (fun _ hk => hk.2) (.slice Ao23 y146.length co23)) (fun _ hk => ⟨hk.1.1.1, hk.1.2⟩)⟩, ⟨by (with_reducible repeat (first | apply Kd.R_alloc | apply Kd.R_drewN | apply Kd.R_drew)); exact Kd.R_mono (Kd.R_far (p := ⟨gb143, 1, none⟩) (Kd.R_types HO148.out BK143.out (by decide)) (fun _ hk => hk.2) (.slice Ao23 y146.length co23)) (fun _ hk => ⟨hk.1.1, ⟨hk.1.2.1, hk.1.2.2.1⟩⟩)⟩, ⟨by (with_reducible repeat (first | refine blk_drewN ?_ _ | refine blk_drew ?_ | refine blk_alloc ?_ _)); refine blk_put (cs := #[.int .i64 a0, u144001]) ?_ 1 _ rfl; (with_reducible repeat (first | refine blk_drewN ?_ _ | refine blk_drew ?_ | refine blk_alloc ?_ _)); exact BK143.out⟩, ⟨hB⟩⟩
             ·rw [if_neg c17] at H
              exact absurd H (by simp)
            ·rw [if_neg c16] at H
             have c16b0 : ((Int.tmod (ji15) 2) == 1) = false := beq_eq_false_iff_ne.mpr c16
             have c16b1 : ((Int.tmod (ji15) 2) != 1) = true := bne_iff_ne.mpr c16
             have H' := Aside0.mk H
             clear H
             have p144 : 0 ≤ (x47_3 : Int) := of_decide_eq_true (by first | (with_reducible assumption) | assumption)
             have q144 : x47_3 < (x4_1.length : Int) := of_decide_eq_true (by first | (with_reducible assumption) | assumption)
             obtain ⟨ad144, e144, hx144_0, hx144_1⟩ := at_T105 (Kd.R_reads' HO_45.out).2.2 x47_3 p144 q144
             cases e144
             replace p144 := eq_true p144
             replace q144 := eq_true q144
             go_wp2_with (first | ((with_reducible refine gate_dst (N := 10) rfl ?_); refine bxE 10 #[.int .i64 0, .int .i64 0] 105 rfl ?_; intro gb145 hg w25 hbox hb; have BK145 := Aside0.mk (hbox); have GW145 := gS HB hg; have GE145 := gS HB hg; have NB143_145 := nL BK143 hg; have NB145_143 := nG BK143 hg; replace HO_3 := Aside0.mk (Kd.N_below (Kd.N_elderB (nU HO_3) gb145 (Nat.le_of_eq hg.symm)) hb); replace HO_4 := Aside0.mk (Kd.R_below (Kd.R_elderB (rU HO_4) gb145 (Nat.le_of_eq hg.symm)) hb); replace HO_45 := Aside0.mk (Kd.R_below (Kd.R_elderB (rU HO_45) gb145 (Nat.le_of_eq hg.symm)) hb); replace HO_144001 := Aside0.mk (Kd.R_below (Kd.R_elderB (rU HO_144001) gb145 (Nat.le_of_eq hg.symm)) hb); replace BK143 := bS BK143 hb; replace HB := hS HB hb; clear hb hbox hg; have hnb26 := NB145_143.out; have hnc26 := NB143_145.out; have hcz27_0 := cz BK145 0; have hcz27_1 := cz BK145 1; have hfz27_0 := fz BK145 0; have hfz27_1 := fz BK145 1))
             go_roundg k3
             case measure => have := HK1.out; have := HK2.out; have := HK3.out; omega
             case rel => exact ⟨(wrap64 (x47_3 + 1)), (x144001_3), (u144001), (by first | rfl | (simp; done) | (simp [*]; done)), H', ⟨by have := HK1.out; have := HK2.out; have := HK3.out; omega⟩, ⟨by (with_reducible repeat (first | apply Kd.N_alloc | apply Kd.N_drewN | apply Kd.N_drew)); exact Kd.N_mono (Kd.N_far (p := ⟨gb145, 1, none⟩) (Kd.N_far (p := ⟨gb145, 0, none⟩) (Kd.N_mono HO_3.out (fun k_ hk => (⟨hk, hk.2⟩ : _ ∧ k_ ≠ gb145))) (fun _ hk => hk.2) (.int .i64 ((rd_T105 x4_1 x47_3).f0))) (fun _ hk => hk.2) (.int .i64 ((rd_T105 x4_1 x47_3).f1))) (fun _ hk => ⟨hk.1.1.1, ⟨hk.1.1.2.1, ⟨hk.1.1.2.2.1, ⟨hk.1.1.2.2.2.1, hk.1.1.2.2.2.2⟩⟩⟩⟩)⟩, ⟨by (with_reducible repeat (first | apply Kd.R_alloc | apply Kd.R_drewN | apply Kd.R_drew)); exact Kd.R_mono (Kd.R_far (p := ⟨gb145, 1, none⟩) (Kd.R_far (p := ⟨gb145, 0, none⟩) (Kd.R_mono HO_4.out (fun k_ hk => (⟨hk, hk.2⟩ : _ ∧ k_ ≠ gb145))) (fun _ hk => hk.2) (.int .i64 ((rd_T105 x4_1 x47_3).f0))) (fun _ hk => hk.2) (.int .i64 ((rd_T105 x4_1 x47_3).f1))) (fun _ hk => ⟨hk.1.1.1, hk.1.1.2⟩)⟩, ⟨by (with_reducible repeat (first | apply Kd.R_alloc | apply Kd.R_drewN | apply Kd.R_drew)); exact Kd.R_mono (Kd.R_far (p := ⟨gb145, 1, none⟩) (Kd.R_far (p := ⟨gb145, 0, none⟩) (Kd.R_mono HO_45.out (fun k_ hk => (⟨hk, hk.2⟩ : _ ∧ k_ ≠ gb145))) (fun _ hk => hk.2) (.int .i64 ((rd_T105 x4_1 x47_3).f0))) (fun _ hk => hk.2) (.int .i64 ((rd_T105 x4_1 x47_3).f1))) (fun _ hk => ⟨hk.1.1.1, hk.1.1.2⟩)⟩, ⟨by (with_reducible repeat (first | apply Kd.R_alloc | apply Kd.R_drewN | apply Kd.R_drew)); exact Kd.R_mono (Kd.R_far (p := ⟨gb145, 1, none⟩) (Kd.R_far (p := ⟨gb145, 0, none⟩) (Kd.R_mono HO_144001.out (fun k_ hk => (⟨hk, hk.2⟩ : _ ∧ k_ ≠ gb145))) (fun _ hk => hk.2) (.int .i64 ((rd_T105 x4_1 x47_3).f0))) (fun _ hk => hk.2) (.int .i64 ((rd_T105 x4_1 x47_3).f1))) (fun _ hk => ⟨hk.1.1.1, ⟨hk.1.1.2.1, hk.1.1.2.2⟩⟩)⟩, ⟨by (with_reducible repeat (first | refine blk_drewN ?_ _ | refine blk_drew ?_ | refine blk_alloc ?_ _)); refine blk_far ?_ NB143_145.out _; (with_reducible repeat (first | refine blk_drewN ?_ _ | refine blk_drew ?_ | refine blk_alloc ?_ _)); refine blk_far ?_ NB143_145.out _; (with_reducible repeat (first | refine blk_drewN ?_ _ | refine blk_drew ?_ | refine blk_alloc ?_ _)); exact BK143.out⟩, ⟨hB⟩⟩
           ·rw [if_neg c13] at H
            exact absurd H (by simp)
          ·rw [if_neg c12] at H
           exact absurd H (by simp)
         ·rw [if_neg c11] at H
          have c11b0 : decide (x47_3 < (x4_1.length : Int)) = false := decide_eq_false c11
          clear c11
          by_cases c28 : x3_2.length < 4398046511104
          ·rw [if_pos c28] at H
           have LMc28 := Aside0.mk c28
           clear c28
           obtain ⟨y149, hy149⟩ : ∃ y_ : List (S33), y_ = (x3_2 ++ [(⟨a0, x144001_3⟩ : S33)]) := ⟨_, rfl⟩
           replace H : (spec_pzParties.l2 k3 a0 y149 x4_1 (wrap64 (x7_2 + 1))) = some r := by first | (rw [hy149]; with_reducible exact H) | (have H2_ := (Option.bind_some _ _).symm.trans H; rw [hy149]; with_reducible exact H2_) | (have H2_ := (Option.bind_some _ _).symm.trans H; with_reducible exact H2_) | with_reducible exact H | (rw [hy149]; exact H) | exact H
           have Ny149 := Aside0.mk hy149
           clear hy149
           have H' := Aside0.mk H
           clear H
           have hcz29_0 := cz BK143 0
           have hcz29_1 := cz BK143 1
           have hfz29_0 := fz BK143 0
           have hfz29_1 := fz BK143 1
           obtain ⟨Ao31, co31, eo31⟩ := Kd.R_slice HO_144001.out
           subst eo31
           go_wp2_with (first | ((with_reducible refine gate_builtin (b := .append) (xs := #[.tmp 64, .tmp 66]) rfl ?_); at_builtin; refine Kd.N_append k33 (w0 := w) w.heap.size rfl (.tmp 64) (.tmp 66) 44 33 (.agg #[(.int .i64 0), (.slice none 0 0)]) 32 rfl Tryd.underlying44 info33 rfl (by decide) (by omega) u3 x3_2 (⟨a0, x144001_3⟩ : S33) [.int .i64 a0, .slice Ao31 x144001_3.length co31] (fun k_ => (w.heap.size ≤ k_) ∧ some k_ ≠ (.slice Ao8 x4_1.length co8 : Value).ownBlock ∧ some k_ ≠ (.slice Ao8 x4_1.length co8 : Value).ownBlock ∧ k_ ≠ gb143) (fun k_ => ((fun k_ => (w.heap.size ≤ k_) ∧ some k_ ≠ (.slice Ao8 x4_1.length co8 : Value).ownBlock ∧ some k_ ≠ (.slice Ao8 x4_1.length co8 : Value).ownBlock ∧ k_ ≠ gb143)) k_ ∧ some k_ ≠ (u3 : Value).ownBlock) rfl rfl ?aP (fun _ hk => hk) ?aF ?aO ?aB ?aS ?aL ?_; (case aP => exact (k33_mkF _ _ (⟨a0, x144001_3⟩ : S33) (Kd.R_reads' (Kd.R_mono (ok' := (fun k_ => ((fun k_ => (w.heap.size ≤ k_) ∧ some k_ ≠ (.slice Ao8 x4_1.length co8 : Value).ownBlock ∧ some k_ ≠ (.slice Ao8 x4_1.length co8 : Value).ownBlock ∧ k_ ≠ gb143)) k_ ∧ some k_ ≠ (u3 : Value).ownBlock)) (Kd.R_types (Kd.R_apart' (HO_144001.out) (Kd.N_typed HO_3.out) (by decide)) BK143.out (by decide)) (fun k_ hk => ⟨⟨hk.1.1.1, ⟨hk.1.1.2.1, ⟨hk.1.1.2.2, hk.2⟩⟩⟩, hk.1.2⟩))).2.1 (Kd.R_F (Kd.R_mono (ok' := (fun k_ => ((fun k_ => (w.heap.size ≤ k_) ∧ some k_ ≠ (.slice Ao8 x4_1.length co8 : Value).ownBlock ∧ some k_ ≠ (.slice Ao8 x4_1.length co8 : Value).ownBlock ∧ k_ ≠ gb143)) k_ ∧ some k_ ≠ (u3 : Value).ownBlock)) (Kd.R_types (Kd.R_apart' (HO_144001.out) (Kd.N_typed HO_3.out) (by decide)) BK143.out (by decide)) (fun k_ hk => ⟨⟨hk.1.1.1, ⟨hk.1.1.2.1, ⟨hk.1.1.2.2, hk.2⟩⟩⟩, hk.1.2⟩))))); (case aB => exact hB); (case aF => exact (fun k_ hk => ⟨(Nat.le_trans (below_size hB) hk), Kd.fresh' (Kd.R_lt (rU HO_4)) k_ hk, Kd.fresh' (Kd.R_lt (rU HO_45)) k_ hk, Kd.freshB (g := gb143) (o := .cells #[.int .i64 a0, .slice Ao31 x144001_3.length co31] 33 (0, 0)) bK k_ hk⟩)); (case aO => exact (by (with_reducible repeat (first | apply Kd.N_alloc | apply Kd.N_drewN | apply Kd.N_drew)); exact Kd.N_mono HO_3.out (fun _ hk => ⟨hk.1, ⟨hk.2.1, ⟨hk.2.2.1, hk.2.2.2.2⟩⟩⟩))); (case aS => exact (below_size hB)); (case aL => have := LMc28.out; omega); intro v150 w30 ho hb hg hat; rw [← Ny149.out] at ho; have HO151 := Aside0.mk (ho); replace HO_4 := Aside0.mk (Kd.R_over' (rU HO_4) (Kd.N_typed (nU HO_3)) (by decide) hg); replace HO_45 := Aside0.mk (Kd.R_over' (rU HO_45) (Kd.N_typed (nU HO_3)) (by decide) hg); replace BK143 := Aside0.mk (blk_grown (g := gb143) (o := .cells #[.int .i64 a0, .slice Ao31 x144001_3.length co31] 33 (0, 0)) bK hg (Kd.N_away HO_3.out (fun _ hk => hk.2.2.2.2))); replace HB := Aside0.mk (hb); clear HO_3; clear HO_144001; clear ho hb hg hat))
           go_roundg k3
           case measure => have := HK1.out; have := HK2.out; have := HK3.out; omega
           case rel => exact ⟨(y149), (wrap64 (x7_2 + 1)), (by first | rfl | (simp; done) | (simp [*]; done)), H', ⟨by have := HK1.out; have := HK2.out; have := HK3.out; omega⟩, ⟨by (with_reducible repeat (first | apply Kd.N_alloc | apply Kd.N_drewN | apply Kd.N_drew)); exact Kd.N_mono HO151.out (fun _ hk => ⟨hk.1, hk.2.1⟩)⟩, ⟨by (with_reducible repeat (first | apply Kd.R_alloc | apply Kd.R_drewN | apply Kd.R_drew)); exact Kd.R_mono HO_4.out (fun _ hk => hk.1)⟩, ⟨hB⟩⟩
          ·rw [if_neg c28] at H
           exact absurd H (by simp)
      ·rw [if_neg c7] at H
       have c7b0 : decide (x7_2 < (ji6)) = false := decide_eq_false c7
       clear c7
       have H' := Aside0.mk H
       clear H
       obtain ⟨Ao32, co32, eo32⟩ := Kd.R_slice HO_4.out
       subst eo32
       go_wp2
       go_loopg [3, 11] k2 (fun kq v3 v11 w' => ∃ (x3_3 : List (S33)) (x11_3 : Int), v11 = .int .i64 x11_3 ∧ Aside0 (spec_pzParties.l4 kq x3_3 x11_3 = some r) ∧ Aside0 (kq ≤ k2) ∧ Aside0 (Kd.N k33 33 w' w.heap.size (fun k_ => (w.heap.size ≤ k_)) v3 x3_3) ∧ Aside0 (Below w.heap.size w w'))
       case atStart => exact ⟨(x3_2), (1), (by first | rfl | (simp; done) | (simp [*]; done)), H', ⟨Nat.le_refl _⟩, ⟨by (with_reducible repeat (first | apply Kd.N_alloc | apply Kd.N_drewN | apply Kd.N_drew)); exact Kd.N_mono HO_3.out (fun _ hk => hk.1)⟩, ⟨hB⟩⟩
       case round =>
        clear H'
        try clear c1
        try clear p1
        try clear q1
        try clear hx1
        try clear c2
        try clear c2b0
        try clear p2
        try clear c3
        try clear c3b0
        try clear c4
        try clear p6
        try clear c7
        try clear c7b0
        try clear c11
        try clear c11b0
        try clear c12
        try clear c12b0
        try clear c13
        try clear c13b0
        try clear c14
        try clear c14b0
        try clear p14
        try clear q14
        try clear hx14
        try clear c16
        try clear c16b0
        try clear c16b1
        try clear c17
        try clear c19
        try clear c26
        try clear c28
        try clear hcz10_0
        try clear hcz10_1
        try clear hcz20_0
        try clear hcz20_1
        try clear hcz21_0
        try clear hcz21_1
        try clear hcz24_0
        try clear hcz24_1
        try clear hcz27_0
        try clear hcz27_1
        try clear hcz29_0
        try clear hcz29_1
        try clear hfz10_0
        try clear hfz10_1
        try clear hfz20_0
        try clear hfz20_1
        try clear hfz21_0
        try clear hfz21_1
        try clear hfz24_0
        try clear hfz24_1
        try clear hfz27_0
        try clear hfz27_1
        try clear hfz29_0
        try clear hfz29_1
        try clear hx144_0
        try clear hx144_1
        try clear p144
        try clear p2
        try clear p6
        try clear q144
        obtain ⟨x3_3, x11_3, rfl, HA, HK3, HO_3, HB⟩ := hrel
        cases gk with
        | zero => exact absurd HA.out (by simp [spec_pzParties.l4])
        | succ k3 =>
         have H := HA.out
         clear HA
         simp only [spec_pzParties.l4] at H
         by_cases c33 : x11_3 < (x3_3.length : Int)
         ·rw [if_pos c33] at H
          have c33b0 : decide (x11_3 < (x3_3.length : Int)) = true := decide_eq_true c33
          clear c33
          have H' := Aside0.mk H
          clear H
          obtain ⟨Ao34, co34, eo34⟩ := Kd.N_slice HO_3.out
          subst eo34
          go_wp2
          go_loopg [12, 13] k3 (fun kq v12 v13 w' => ∃ (x12_4 : List (S33)) (x13_4 : Int), v13 = .int .i64 x13_4 ∧ Aside0 (spec_pzParties.l5 kq x3_3 x11_3 x12_4 x13_4 = some r) ∧ Aside0 (kq ≤ k3) ∧ Aside0 (Kd.N k33 33 w' w.heap.size (fun k_ => (w.heap.size ≤ k_) ∧ some k_ ≠ (v12 : Value).ownBlock) (.slice Ao34 x3_3.length co34) x3_3) ∧ Aside0 (Kd.N k33 33 w' w.heap.size (fun k_ => (w.heap.size ≤ k_) ∧ some k_ ≠ ((.slice Ao34 x3_3.length co34) : Value).ownBlock) v12 x12_4) ∧ Aside0 (Below w.heap.size w w'))
          case atStart => exact ⟨(([] : List (S33))), (0), (by first | rfl | (simp; done) | (simp [*]; done)), H', ⟨Nat.le_refl _⟩, ⟨by (with_reducible repeat (first | apply Kd.N_alloc | apply Kd.N_drewN | apply Kd.N_drew)); exact Kd.N_mono HO_3.out (fun _ hk => ⟨hk, (by simp [Value.ownBlock])⟩)⟩, ⟨by first | exact Kd.S_nil _ _ _ _ _ | exact Kd.N_nil _ _ _ _ _ | exact Kd.V_nil _ _ _ _ _ | exact Kd.Q_nil _ _ _ _ _ | exact Kd.R_nil _ _ _ _ _⟩, ⟨hB⟩⟩
          case round =>
           clear H'
           try clear c1
           try clear p1
           try clear q1
           try clear hx1
           try clear c2
           try clear c2b0
           try clear p2
           try clear c3
           try clear c3b0
           try clear c4
           try clear p6
           try clear c7
           try clear c7b0
           try clear c11
           try clear c11b0
           try clear c12
           try clear c12b0
           try clear c13
           try clear c13b0
           try clear c14
           try clear c14b0
           try clear p14
           try clear q14
           try clear hx14
           try clear c16
           try clear c16b0
           try clear c16b1
           try clear c17
           try clear c19
           try clear c26
           try clear c28
           try clear c33
           try clear c33b0
           try clear hcz10_0
           try clear hcz10_1
           try clear hcz20_0
           try clear hcz20_1
           try clear hcz21_0
           try clear hcz21_1
           try clear hcz24_0
           try clear hcz24_1
           try clear hcz27_0
           try clear hcz27_1
           try clear hcz29_0
           try clear hcz29_1
           try clear hfz10_0
           try clear hfz10_1
           try clear hfz20_0
           try clear hfz20_1
           try clear hfz21_0
           try clear hfz21_1
           try clear hfz24_0
           try clear hfz24_1
           try clear hfz27_0
           try clear hfz27_1
           try clear hfz29_0
           try clear hfz29_1
           try clear hx144_0
           try clear hx144_1
           try clear p1
           try clear p14
           try clear p144
           try clear p2
           try clear p6
           try clear q1
           try clear q14
           try clear q144
           obtain ⟨x12_4, x13_4, rfl, HA, HK4, HO_3, HO_12, HB⟩ := hrel
           cases gk with
           | zero => exact absurd HA.out (by simp [spec_pzParties.l5])
           | succ k4 =>
            have H := HA.out
            clear HA
            simp only [spec_pzParties.l5] at H
            by_cases c35 : x13_4 < (x3_3.length : Int)
            ·rw [if_pos c35] at H
             have c35b0 : decide (x13_4 < (x3_3.length : Int)) = true := decide_eq_true c35
             clear c35
             replace H := Option.bind_eq_some_iff.mp H
             obtain ⟨t152, A360, H⟩ := H
             try dsimp only at H
             have A36 := Aside0.mk A360
             clear A360
             replace H := Option.bind_eq_some_iff.mp H
             obtain ⟨t153, A370, H⟩ := H
             try dsimp only at H
             have A37 := Aside0.mk A370
             clear A370
             have H' := Aside0.mk H
             clear H
             go_wp2_with (first | ((with_reducible refine gate_callee (f := 52) rfl ?_); refine goC (N := some 87) Tryd.func52 #[.int .i64 (wrap64 (x13_4 + x11_3)), .int .i64 (x3_3.length : Int)] rfl ?_; (with_reducible refine (spec_l1Least.calls (wrap64 (x13_4 + x11_3)) (x3_3.length : Int) t152 _ A36.out).mono ?_); rintro e w' ⟨rfl, ⟨nd, rfl⟩⟩; refine ⟨_, rfl, ?_⟩) | ((with_reducible refine gate_callee (f := 52) rfl ?_); refine goC (N := some 94) Tryd.func52 #[.int .i64 (wrap64 (x13_4 + (wrap64 (2 * x11_3)))), .int .i64 (x3_3.length : Int)] rfl ?_; (with_reducible refine (spec_l1Least.calls (wrap64 (x13_4 + (wrap64 (2 * x11_3)))) (x3_3.length : Int) t153 _ A37.out).mono ?_); rintro e w' ⟨rfl, ⟨nd, rfl⟩⟩; refine ⟨_, rfl, ?_⟩))
             go_loopg [12, 16, 17] k4 (fun kq v12 v16 v17 w' => ∃ (x12_5 : List (S33)) (x16_5 : Int) (x17_5 : Int), v16 = .int .i64 x16_5 ∧ v17 = .int .i64 x17_5 ∧ Aside0 (spec_pzParties.l6 kq x3_3 x11_3 x12_5 x13_4 t152 t153 x16_5 x17_5 = some r) ∧ Aside0 (kq ≤ k4) ∧ Aside0 (Kd.N k33 33 w' w.heap.size (fun k_ => (w.heap.size ≤ k_) ∧ some k_ ≠ (v12 : Value).ownBlock) (.slice Ao34 x3_3.length co34) x3_3) ∧ Aside0 (Kd.N k33 33 w' w.heap.size (fun k_ => (w.heap.size ≤ k_) ∧ some k_ ≠ ((.slice Ao34 x3_3.length co34) : Value).ownBlock) v12 x12_5) ∧ Aside0 (Below w.heap.size w w'))
             case atStart => exact ⟨(x12_4), (x13_4), (t152), (by first | rfl | (simp; done) | (simp [*]; done)), (by first | rfl | (simp; done) | (simp [*]; done)), H', ⟨Nat.le_refl _⟩, ⟨nU HO_3⟩, ⟨nU HO_12⟩, ⟨hB⟩⟩
             case round =>
              clear H'
              try clear c1
              try clear p1
              try clear q1
              try clear hx1
              try clear c2
              try clear c2b0
              try clear p2
              try clear c3
              try clear c3b0
              try clear c4
              try clear c5
              try clear p6
              try clear c7
              try clear c7b0
              try clear c11
              try clear c11b0
              try clear c12
              try clear c12b0
              try clear c13
              try clear c13b0
              try clear c14
              try clear c14b0
              try clear p14
              try clear q14
              try clear hx14
              try clear c16
              try clear c16b0
              try clear c16b1
              try clear c17
              try clear c19
              try clear c26
              try clear c28
              try clear c33
              try clear c33b0
              try clear c35
              try clear c35b0
              try clear hcz10_0
              try clear hcz10_1
              try clear hcz20_0
              try clear hcz20_1
              try clear hcz21_0
              try clear hcz21_1
              try clear hcz24_0
              try clear hcz24_1
              try clear hcz27_0
              try clear hcz27_1
              try clear hcz29_0
              try clear hcz29_1
              try clear hfz10_0
              try clear hfz10_1
              try clear hfz20_0
              try clear hfz20_1
              try clear hfz21_0
              try clear hfz21_1
              try clear hfz24_0
              try clear hfz24_1
              try clear hfz27_0
              try clear hfz27_1
              try clear hfz29_0
              try clear hfz29_1
              try clear hx144_0
              try clear hx144_1
              try clear p1
              try clear p14
              try clear p144
              try clear p2
              try clear p6
              try clear q1
              try clear q14
              try clear q144
              obtain ⟨x12_5, x16_5, x17_5, rfl, rfl, HA, HK5, HO_3, HO_12, HB⟩ := hrel
              cases gk with
              | zero => exact absurd HA.out (by simp [spec_pzParties.l6])
              | succ k5 =>
               have H := HA.out
               clear HA
               simp only [spec_pzParties.l6] at H
               have HC38 := Aside0.mk H
               clear H
               go_upto_region 30 with (fail)
               go_cut [104] (fun v104 wc => ∃ (kq : Nat) (x104_37 : Bool), v104 = .bool x104_37 ∧ Aside0 (spec_pzParties.j7 kq x3_3 x11_3 x12_5 x13_4 t152 t153 x16_5 x17_5 x104_37 = some r) ∧ Aside0 (kq ≤ k5) ∧ Aside0 (Kd.N k33 33 wc w.heap.size (fun k_ => (w.heap.size ≤ k_) ∧ some k_ ≠ (u12 : Value).ownBlock) (.slice Ao34 x3_3.length co34) x3_3) ∧ Aside0 (Kd.N k33 33 wc w.heap.size (fun k_ => (w.heap.size ≤ k_) ∧ some k_ ≠ ((.slice Ao34 x3_3.length co34) : Value).ownBlock) u12 x12_5) ∧ Aside0 (Below w.heap.size w wc))
               case first =>
                have H := HC38.out
                clear HC38
                by_cases c39 : x16_5 < t152
                ·rw [if_pos c39] at H
                 have c39b0 : decide (x16_5 < t152) = true := decide_eq_true c39
                 clear c39
                 (first | rw [c39b0] | (simp only [i64_w, i32_w]; rw [c39b0]) | skip)
                 have H' := Aside0.mk H
                 clear H
                 go_wp2
                 go_meet
                 case rel => exact ⟨_, (true), (by first | rfl | (simp; done) | (simp [*]; done)), H', ⟨by have := HK1.out; have := HK2.out; have := HK3.out; have := HK4.out; have := HK5.out; first | omega | exact Nat.le_refl _⟩, ⟨nU HO_3⟩, ⟨nU HO_12⟩, ⟨hB⟩⟩
                ·rw [if_neg c39] at H
                 have c39b0 : decide (x16_5 < t152) = false := decide_eq_false c39
                 clear c39
                 (first | rw [c39b0] | (simp only [i64_w, i32_w]; rw [c39b0]) | skip)
                 have H' := Aside0.mk H
                 clear H
                 go_wp2
                 go_meet
                 case rel => exact ⟨_, (decide (x17_5 < t153)), (by first | rfl | (simp; done) | (simp [*]; done)), H', ⟨by have := HK1.out; have := HK2.out; have := HK3.out; have := HK4.out; have := HK5.out; first | omega | exact Nat.le_refl _⟩, ⟨nU HO_3⟩, ⟨nU HO_12⟩, ⟨hB⟩⟩
               case rest =>
                clear HC38
                try clear c1
                try clear p1
                try clear q1
                try clear hx1
                try clear c2
                try clear c2b0
                try clear p2
                try clear c3
                try clear c3b0
                try clear c4
                try clear c5
                try clear p6
                try clear c7
                try clear c7b0
                try clear c11
                try clear c11b0
                try clear c12
                try clear c12b0
                try clear c13
                try clear c13b0
                try clear c14
                try clear c14b0
                try clear p14
                try clear q14
                try clear hx14
                try clear c16
                try clear c16b0
                try clear c16b1
                try clear c17
                try clear c19
                try clear c26
                try clear c28
                try clear c33
                try clear c33b0
                try clear c35
                try clear c35b0
                try clear c39
                try clear c39b0
                try clear hcz10_0
                try clear hcz10_1
                try clear hcz20_0
                try clear hcz20_1
                try clear hcz21_0
                try clear hcz21_1
                try clear hcz24_0
                try clear hcz24_1
                try clear hcz27_0
                try clear hcz27_1
                try clear hcz29_0
                try clear hcz29_1
                try clear hfz10_0
                try clear hfz10_1
                try clear hfz20_0
                try clear hfz20_1
                try clear hfz21_0
                try clear hfz21_1
                try clear hfz24_0
                try clear hfz24_1
                try clear hfz27_0
                try clear hfz27_1
                try clear hfz29_0
                try clear hfz29_1
                try clear hx144_0
                try clear hx144_1
                try clear p1
                try clear p14
                try clear p144
                try clear p2
                try clear p6
                try clear q1
                try clear q14
                try clear q144
                obtain ⟨kq, x104_37, rfl, HA, HJ37, HO_3, HO_12, HB⟩ := hcut
                cases kq with
                | zero => exact absurd HA.out (by simp [spec_pzParties.j7])
                | succ kj37 =>
                 have H := HA.out
                 clear HA
                 simp only [spec_pzParties.j7] at H
                 by_cases c40 : x104_37 = true
                 ·subst c40
                  rw [if_pos rfl] at H
                  by_cases c41 : x17_5 = t153
                  ·rw [if_pos c41] at H
                   have c41b0 : (x17_5 == t153) = true := beq_iff_eq.mpr c41
                   have c41b1 : (x17_5 != t153) = false := bne_eq_false_iff_eq.mpr c41
                   clear c41
                   by_cases c42 : 0 ≤ x16_5
                   ·rw [if_pos c42] at H
                    have c42b0 : decide (0 ≤ x16_5) = true := decide_eq_true c42
                    clear c42
                    by_cases c43 : x16_5 < (x3_3.length : Int)
                    ·rw [if_pos c43] at H
                     have c43b0 : decide (x16_5 < (x3_3.length : Int)) = true := decide_eq_true c43
                     clear c43
                     by_cases c44 : x12_5.length < 4398046511104
                     ·rw [if_pos c44] at H
                      have LMc44 := Aside0.mk c44
                      clear c44
                      obtain ⟨y155, hy155⟩ : ∃ y_ : List (S33), y_ = (x12_5 ++ [(⟨(rd_T33 x3_3 x16_5).f0, (rd_T33 x3_3 x16_5).f1⟩ : S33)]) := ⟨_, rfl⟩
                      replace H : (spec_pzParties.l6 kj37 x3_3 x11_3 y155 x13_4 t152 t153 (wrap64 (x16_5 + 1)) x17_5) = some r := by first | (rw [hy155]; with_reducible exact H) | (have H2_ := (Option.bind_some _ _).symm.trans H; rw [hy155]; with_reducible exact H2_) | (have H2_ := (Option.bind_some _ _).symm.trans H; with_reducible exact H2_) | with_reducible exact H | (rw [hy155]; exact H) | exact H
                      have Ny155 := Aside0.mk hy155
                      clear hy155
                      have H' := Aside0.mk H
                      clear H
                      try go_wp2
                      replace HO_3 := Aside0.mk (Kd.N_drew HO_3.out)
                      replace HO_12 := Aside0.mk (Kd.N_drew HO_12.out)
                      replace HB := Aside0.mk (below_drew1 HB.out)
                      refine start_ (n := 19) (S := fun w' => True) (ds := []) (bz 19 0) (by kernel_rfl) rfl rfl trivial (fun hHeld => ?_); refine with_tabW spec_pzParties.tab31 spec_pzParties.bits31 (fun HT_ HW_ => ?_)
                      generalize wc.drew = w45 at HO_3 HO_12 HB hHeld ⊢
                      refine run_ [(0, 0, 1, some 105), (0, 1, 3, some 106), (0, 2, 7, some 107), (0, 3, 15, some 108), (2, 4, 31, some 109), (2, 5, 63, some 110), (2, 6, 127, some 111), (2, 7, 255, some 112), (2, 8, 511, some 113), (2, 9, 1023, some 114), (2, 10, 2047, some 115), (2, 11, 4095, some 116), (2, 12, 8191, some 117), (2, 13, 16383, some 118), (2, 14, 32767, some 119), (2, 15, 65535, some 120), (2, 16, 131071, some 121), (2, 17, 262143, some 122), (0, 18, 524287, some 123)] ?_
                      repeat (first | (apply tag0; refine run_p (v := ?_) (a' := ?_) rfl rfl (any_of HT_.out (by kernel_rfl)) (fun _ _ _ h => h) (by rfl) ?_ ?_ ?_; rotate_left 2; (intro w'; go_simp; with_reducible rfl); (first | (simp only [Act.put, List.setIfInBounds_toArray, List.set_cons_zero, List.set_cons_succ, i64_w, i32_w]; rfl) | rfl)) | (apply tag2; refine run_o (a' := ?_) rfl rfl (any_of HT_.out (by kernel_rfl)) (fun _ _ _ h => h) (by rfl) ?_ ?_; rotate_left; (first | (simp only [Act.put, List.setIfInBounds_toArray, List.set_cons_zero, List.set_cons_succ, i64_w, i32_w]; rfl) | rfl)))
                      refine run_nil ?_
                      refine done_ (done_of HT_.out (by kernel_rfl)) ?_
                      have p154 : 0 ≤ (x16_5 : Int) := of_decide_eq_true (by first | (with_reducible assumption) | assumption)
                      have q154 : x16_5 < (x3_3.length : Int) := of_decide_eq_true (by first | (with_reducible assumption) | assumption)
                      obtain ⟨ad154, A154_1, c154_1, e154, hx154_0, hx154_1, hl154_1, hi154_1⟩ := at_T33 (Kd.N_reads' HO_3.out).2.2 x16_5 p154 q154
                      cases e154
                      obtain ⟨ce154, hce154, hMe154, hcc154⟩ := Kd.N_get HO_3.out z33 x16_5 p154 (by first | exact q154 | exact of_decide_eq_true (by first | (with_reducible assumption) | assumption) | (have e_ := (Kd.N_reads' HO_3.out).1; omega))
                      obtain ⟨ua154_1, uc154_1, rfl, ul154_1, ge154_1⟩ := k33_openF hMe154
                      have hv154_1 := hcc154 1 _ rfl
                      rw [add_field _ _ 1 (by omega)] at hv154_1
                      replace hv154_1 := Option.some.inj (hv154_1.symm.trans hx154_1)
                      injection hv154_1 with hva_ hvn_ hvc_
                      rw [hva_] at ge154_1
                      rw [hvc_] at ul154_1
                      have HL154_1 := Aside0.mk (show Kd.V k105 105 _ w.heap.size _ _ ((rd_T33 x3_3 x16_5).f1) from Kd.V_mk ul154_1 ge154_1)
                      clear hva_ hvn_ hvc_ ge154_1 ul154_1
                      clear hcc154 hce154
                      have HR154_1 := Aside0.mk hi154_1
                      have HC154_1 := Aside0.mk hl154_1
                      clear hi154_1 hl154_1
                      replace p154 := eq_true p154
                      replace q154 := eq_true q154
                      try go_wp2_with (first | ((with_reducible refine gate_builtin (b := .append) (xs := #[.tmp 124, .tmp 129]) rfl ?_); at_builtin; refine Kd.N_append k33 (w0 := w) w.heap.size rfl (.tmp 124) (.tmp 129) 44 33 (.agg #[(.int .i64 0), (.slice none 0 0)]) 32 rfl Tryd.underlying44 info33 rfl (by decide) (by omega) u12 x12_5 (⟨(rd_T33 x3_3 x16_5).f0, (rd_T33 x3_3 x16_5).f1⟩ : S33) [.int .i64 ((rd_T33 x3_3 x16_5).f0), .slice A154_1 ((rd_T33 x3_3 x16_5).f1).length c154_1] (fun k_ => (w.heap.size ≤ k_) ∧ some k_ ≠ (.slice (some ad154) x3_3.length co34 : Value).ownBlock) (fun k_ => ((fun k_ => (w.heap.size ≤ k_) ∧ some k_ ≠ (.slice (some ad154) x3_3.length co34 : Value).ownBlock)) k_ ∧ some k_ ≠ (u12 : Value).ownBlock) rfl rfl ?aP (fun _ hk => hk) ?aF ?aO ?aB ?aS ?aL ?_; (case aP => exact (k33_mkF _ _ (⟨(rd_T33 x3_3 x16_5).f0, (rd_T33 x3_3 x16_5).f1⟩ : S33) (Kd.V_reads' (Kd.V_mono (ok' := (fun k_ => ((fun k_ => (w.heap.size ≤ k_) ∧ some k_ ≠ (.slice (some ad154) x3_3.length co34 : Value).ownBlock)) k_ ∧ some k_ ≠ (u12 : Value).ownBlock)) (HL154_1.out) (fun k_ hk => ⟨⟨hk.1.1, hk.2⟩, hk.1.2⟩))).2.1 (Kd.V_F (Kd.V_mono (ok' := (fun k_ => ((fun k_ => (w.heap.size ≤ k_) ∧ some k_ ≠ (.slice (some ad154) x3_3.length co34 : Value).ownBlock)) k_ ∧ some k_ ≠ (u12 : Value).ownBlock)) (HL154_1.out) (fun k_ hk => ⟨⟨hk.1.1, hk.2⟩, hk.1.2⟩))))); (case aB => exact hB); (case aF => exact (fun k_ hk => ⟨(Nat.le_trans (below_size hB) hk), Kd.fresh' (Kd.N_lt (nU HO_3)) k_ hk⟩)); (case aO => exact (nU HO_12)); (case aS => exact (below_size hB)); (case aL => have := LMc44.out; omega); intro v156 w46 ho hb hg hat; rw [← Ny155.out] at ho; have HO157 := Aside0.mk (ho); replace HO_3 := Aside0.mk (Kd.N_afterv (ok := (fun k_ => (w.heap.size ≤ k_))) (nU HO_3) hg hat); replace HL154_1 := Aside0.mk (Kd.V_afterv (ok := (fun k_ => (w.heap.size ≤ k_) ∧ some k_ ≠ (.slice (some ad154) x3_3.length co34 : Value).ownBlock)) (by (with_reducible repeat (first | apply Kd.V_alloc | apply Kd.V_drewN | apply Kd.V_drew)); exact Kd.V_mono HL154_1.out (fun _ hk => ⟨⟨hk.1.1, hk.2⟩, hk.1.2⟩)) hg hat); replace HB := Aside0.mk (hb); clear HO_12; clear ho hb hg hat))
                      go_roundg kj37
                      case measure => have := HK1.out; have := HK2.out; have := HK3.out; have := HK4.out; have := HK5.out; have := HJ37.out; omega
                      case rel => exact ⟨(y155), (wrap64 (x16_5 + 1)), (x17_5), (by first | rfl | (simp; done) | (simp [*]; done)), (by first | rfl | (simp; done) | (simp [*]; done)), H', ⟨by have := HK1.out; have := HK2.out; have := HK3.out; have := HK4.out; have := HK5.out; have := HJ37.out; omega⟩, ⟨nU HO_3⟩, ⟨nU HO157⟩, ⟨hB⟩⟩
                     ·rw [if_neg c44] at H
                      exact absurd H (by simp)
                    ·rw [if_neg c43] at H
                     exact absurd H (by simp)
                   ·rw [if_neg c42] at H
                    exact absurd H (by simp)
                  ·rw [if_neg c41] at H
                   have c41b0 : (x17_5 == t153) = false := beq_eq_false_iff_ne.mpr c41
                   have c41b1 : (x17_5 != t153) = true := bne_iff_ne.mpr c41
                   by_cases c47 : x16_5 < t152
                   ·rw [if_pos c47] at H
                    have c47b0 : decide (x16_5 < t152) = true := decide_eq_true c47
                    clear c47
                    by_cases c48 : 0 ≤ x16_5
                    ·rw [if_pos c48] at H
                     have c48b0 : decide (0 ≤ x16_5) = true := decide_eq_true c48
                     clear c48
                     by_cases c49 : x16_5 < (x3_3.length : Int)
                     ·rw [if_pos c49] at H
                      have c49b0 : decide (x16_5 < (x3_3.length : Int)) = true := decide_eq_true c49
                      clear c49
                      by_cases c50 : 0 ≤ x17_5
                      ·rw [if_pos c50] at H
                       have c50b0 : decide (0 ≤ x17_5) = true := decide_eq_true c50
                       clear c50
                       by_cases c51 : x17_5 < (x3_3.length : Int)
                       ·rw [if_pos c51] at H
                        have c51b0 : decide (x17_5 < (x3_3.length : Int)) = true := decide_eq_true c51
                        clear c51
                        replace H := Option.bind_eq_some_iff.mp H
                        obtain ⟨t160, A520, H⟩ := H
                        try dsimp only at H
                        have A52 := Aside0.mk A520
                        clear A520
                        by_cases c53 : t160 = true
                        ·subst c53
                         rw [if_pos rfl] at H
                         by_cases c54 : x12_5.length < 4398046511104
                         ·rw [if_pos c54] at H
                          have LMc54 := Aside0.mk c54
                          clear c54
                          obtain ⟨y162, hy162⟩ : ∃ y_ : List (S33), y_ = (x12_5 ++ [(⟨(rd_T33 x3_3 x16_5).f0, (rd_T33 x3_3 x16_5).f1⟩ : S33)]) := ⟨_, rfl⟩
                          replace H : (spec_pzParties.l6 kj37 x3_3 x11_3 y162 x13_4 t152 t153 (wrap64 (x16_5 + 1)) x17_5) = some r := by first | (rw [hy162]; with_reducible exact H) | (have H2_ := (Option.bind_some _ _).symm.trans H; rw [hy162]; with_reducible exact H2_) | (have H2_ := (Option.bind_some _ _).symm.trans H; with_reducible exact H2_) | with_reducible exact H | (rw [hy162]; exact H) | exact H
                          have Ny162 := Aside0.mk hy162
                          clear hy162
                          have H' := Aside0.mk H
                          clear H
                          try go_wp2
                          replace HO_3 := Aside0.mk (Kd.N_drew HO_3.out)
                          replace HO_12 := Aside0.mk (Kd.N_drew HO_12.out)
                          replace HB := Aside0.mk (below_drew1 HB.out)
                          have p158 : 0 ≤ (x16_5 : Int) := of_decide_eq_true (by first | (with_reducible assumption) | assumption)
                          have q158 : x16_5 < (x3_3.length : Int) := of_decide_eq_true (by first | (with_reducible assumption) | assumption)
                          obtain ⟨ad158, A158_1, c158_1, e158, hx158_0, hx158_1, hl158_1, hi158_1⟩ := at_T33 (Kd.N_reads' HO_3.out).2.2 x16_5 p158 q158
                          cases e158
                          obtain ⟨ce158, hce158, hMe158, hcc158⟩ := Kd.N_get HO_3.out z33 x16_5 p158 (by first | exact q158 | exact of_decide_eq_true (by first | (with_reducible assumption) | assumption) | (have e_ := (Kd.N_reads' HO_3.out).1; omega))
                          obtain ⟨ua158_1, uc158_1, rfl, ul158_1, ge158_1⟩ := k33_openF hMe158
                          have hv158_1 := hcc158 1 _ rfl
                          rw [add_field _ _ 1 (by omega)] at hv158_1
                          replace hv158_1 := Option.some.inj (hv158_1.symm.trans hx158_1)
                          injection hv158_1 with hva_ hvn_ hvc_
                          rw [hva_] at ge158_1
                          rw [hvc_] at ul158_1
                          have HL158_1 := Aside0.mk (show Kd.V k105 105 _ w.heap.size _ _ ((rd_T33 x3_3 x16_5).f1) from Kd.V_mk ul158_1 ge158_1)
                          clear hva_ hvn_ hvc_ ge158_1 ul158_1
                          clear hcc158 hce158
                          have HR158_1 := Aside0.mk hi158_1
                          have HC158_1 := Aside0.mk hl158_1
                          clear hi158_1 hl158_1
                          replace p158 := eq_true p158
                          replace q158 := eq_true q158
                          have p159 : 0 ≤ (x17_5 : Int) := of_decide_eq_true (by first | (with_reducible assumption) | assumption)
                          have q159 : x17_5 < (x3_3.length : Int) := of_decide_eq_true (by first | (with_reducible assumption) | assumption)
                          obtain ⟨ad159, A159_1, c159_1, e159, hx159_0, hx159_1, hl159_1, hi159_1⟩ := at_T33 (Kd.N_reads' HO_3.out).2.2 x17_5 p159 q159
                          obtain rfl : ad158 = ad159 := (by injection e159)
                          obtain ⟨ce159, hce159, hMe159, hcc159⟩ := Kd.N_get HO_3.out z33 x17_5 p159 (by first | exact q159 | exact of_decide_eq_true (by first | (with_reducible assumption) | assumption) | (have e_ := (Kd.N_reads' HO_3.out).1; omega))
                          obtain ⟨ua159_1, uc159_1, rfl, ul159_1, ge159_1⟩ := k33_openF hMe159
                          have hv159_1 := hcc159 1 _ rfl
                          rw [add_field _ _ 1 (by omega)] at hv159_1
                          replace hv159_1 := Option.some.inj (hv159_1.symm.trans hx159_1)
                          injection hv159_1 with hva_ hvn_ hvc_
                          rw [hva_] at ge159_1
                          rw [hvc_] at ul159_1
                          have HL159_1 := Aside0.mk (show Kd.V k105 105 _ w.heap.size _ _ ((rd_T33 x3_3 x17_5).f1) from Kd.V_mk ul159_1 ge159_1)
                          clear hva_ hvn_ hvc_ ge159_1 ul159_1
                          clear hcc159 hce159
                          have HR159_1 := Aside0.mk hi159_1
                          have HC159_1 := Aside0.mk hl159_1
                          clear hi159_1 hl159_1
                          replace p159 := eq_true p159
                          replace q159 := eq_true q159
                          refine start_ (n := 19) (S := fun w' => w'.cell? (ad158.add ((x16_5).toNat * 2)) = some (.int .i64 ((rd_T33 x3_3 x16_5).f0)) ∧ w'.cell? ⟨(ad158.add ((x16_5).toNat * 2)).block, (ad158.add ((x16_5).toNat * 2)).off + 1, none⟩ = some (.slice A158_1 ((rd_T33 x3_3 x16_5).f1).length c158_1) ∧ w'.cell? (ad158.add ((x17_5).toNat * 2)) = some (.int .i64 ((rd_T33 x3_3 x17_5).f0)) ∧ w'.cell? ⟨(ad158.add ((x17_5).toNat * 2)).block, (ad158.add ((x17_5).toNat * 2)).off + 1, none⟩ = some (.slice A159_1 ((rd_T33 x3_3 x17_5).f1).length c159_1)) (ds := []) (bz 19 0) (by kernel_rfl) rfl rfl ⟨hx158_0, hx158_1, hx159_0, hx159_1⟩ (fun hHeld => ?_); refine with_tabW spec_pzParties.tab31 spec_pzParties.bits31 (fun HT_ HW_ => ?_)
                          generalize wc.drew = w55 at HO_3 HO_12 HB HL158_1 HL159_1 HR158_1 HR159_1 hx158_0 hx158_1 hx159_0 hx159_1 hHeld ⊢
                          refine run_ [(0, 0, 1, some 105), (0, 1, 3, some 106), (0, 2, 7, some 107), (0, 3, 15, some 108), (0, 4, 31, some 109), (0, 5, 63, some 110), (0, 6, 127, some 111), (0, 7, 255, some 112), (0, 8, 511, some 113), (0, 9, 1023, some 114), (0, 10, 2047, some 115), (0, 12, 6143, some 117), (0, 13, 14335, some 118), (0, 14, 30719, some 119), (1, 11, 32767, some 116), (1, 15, 65535, some 120)] ?_
                          repeat (first | (apply tag0; refine run_p (v := ?_) (a' := ?_) rfl rfl (any_of HT_.out (by kernel_rfl)) (fun _ _ _ h => h) (by rfl) ?_ ?_ ?_; rotate_left 2; (intro w'; go_simp; with_reducible rfl); (first | (simp only [Act.put, List.setIfInBounds_toArray, List.set_cons_zero, List.set_cons_succ, i64_w, i32_w]; rfl) | rfl)) | (apply tag1; refine run_t (v := ?_) (a' := ?_) rfl rfl (take_ofW HT_.out HW_.out (by kernel_rfl)) (fun _ _ _ h => h) (by rfl) ?_ hHeld ?_ ?_; rotate_left 2; (rintro w' ⟨s0, s1, s2, s3⟩; go_simp; with_reducible rfl); (first | (simp only [Act.put, List.setIfInBounds_toArray, List.set_cons_zero, List.set_cons_succ, i64_w, i32_w]; rfl) | rfl)))
                          refine run_nil ?_
                          refine one_ (i := 16) (N := some 121) (bz 19 131071) rfl rfl (one_of HT_.out (by kernel_rfl)) (by decide) (fun K hK => ?_)
                          refine goes_ Tryd.func133 (by kernel_rfl) rfl #[.agg #[.int .i64 ((rd_T33 x3_3 x16_5).f0), .slice A158_1 ((rd_T33 x3_3 x16_5).f1).length c158_1], .agg #[.int .i64 ((rd_T33 x3_3 x17_5).f0), .slice A159_1 ((rd_T33 x3_3 x17_5).f1).length c159_1]] (by rfl) rfl rfl mapT ?_
                          with_reducible refine (spec_paBefore.calls kj37 ((rd_T33 x3_3 x16_5).f0) _ _ ((rd_T33 x3_3 x16_5).f1) ((rd_T33 x3_3 x17_5).f0) _ _ ((rd_T33 x3_3 x17_5).f1) true _ ?side1 ?side2 ?side3 ?side4 A52.out).mono ?_
                          (case side1 => repeat (first | exact (by repeat (first | (with_reducible exact HR158_1.out) | (with_reducible refine Kd.C_alloc ?_ _) | (with_reducible refine Kd.C_drewN ?_ _) | (with_reducible refine Kd.C_drew ?_) | exact HR158_1.out)) | (with_reducible refine Kd.C_alloc ?_ _) | (with_reducible refine Kd.C_drewN ?_ _) | (with_reducible refine Kd.C_drew ?_)))
                          (case side2 => exact HC158_1.out)
                          (case side3 => repeat (first | exact (by repeat (first | (with_reducible exact HR159_1.out) | (with_reducible refine Kd.C_alloc ?_ _) | (with_reducible refine Kd.C_drewN ?_ _) | (with_reducible refine Kd.C_drew ?_) | exact HR159_1.out)) | (with_reducible refine Kd.C_alloc ?_ _) | (with_reducible refine Kd.C_drewN ?_ _) | (with_reducible refine Kd.C_drew ?_)))
                          (case side4 => exact HC159_1.out)
                          rintro e w56 ⟨rfl, hb⟩
                          have HS0_ := (hb.cell (World.block_lt_of_cell? _ _ (hHeld.1))).trans (hHeld.1)
                          have HS1_ := (hb.cell (World.block_lt_of_cell? _ _ (hHeld.2.1))).trans (hHeld.2.1)
                          have HS2_ := (hb.cell (World.block_lt_of_cell? _ _ (hHeld.2.2.1))).trans (hHeld.2.2.1)
                          have HS3_ := (hb.cell (World.block_lt_of_cell? _ _ (hHeld.2.2.2))).trans (hHeld.2.2.2)
                          refine ⟨_, rfl, ?_⟩
                          replace HO_3 := Aside0.mk (Kd.N_below (nU HO_3) hb)
                          replace HO_12 := Aside0.mk (Kd.N_below (nU HO_12) hb)
                          replace HL158_1 := Aside0.mk (Kd.V_below (by (with_reducible repeat (first | apply Kd.V_alloc | apply Kd.V_drewN | apply Kd.V_drew)); exact HL158_1.out) hb)
                          replace HL159_1 := Aside0.mk (Kd.V_below (by (with_reducible repeat (first | apply Kd.V_alloc | apply Kd.V_drewN | apply Kd.V_drew)); exact HL159_1.out) hb)
                          replace HR158_1 := Aside0.mk (Kd.C_below (by repeat (first | (with_reducible exact HR158_1.out) | (with_reducible refine Kd.C_alloc ?_ _) | (with_reducible refine Kd.C_drewN ?_ _) | (with_reducible refine Kd.C_drew ?_) | exact HR158_1.out)) hb)
                          replace HR159_1 := Aside0.mk (Kd.C_below (by repeat (first | (with_reducible exact HR159_1.out) | (with_reducible refine Kd.C_alloc ?_ _) | (with_reducible refine Kd.C_drewN ?_ _) | (with_reducible refine Kd.C_drew ?_) | exact HR159_1.out)) hb)
                          replace HB := hS HB hb
                          (try clear hb)
                          (try clear hb2)
                          (try clear hk)
                          (try clear hi)
                          refine hK.out _ _ ⟨HS0_, HS1_, HS2_, HS3_⟩ (fun hHeld => ?_)
                          clear hK K
                          refine norm_ (a' := ?_) ?_ ?_
                          rotate_left
                          ·show Act.put _ (some 121) _ = _
                           simp only [Act.put, List.setIfInBounds_toArray, List.set_cons_zero, List.set_cons_succ, i64_w, i32_w]
                           rfl
                          refine run_ [(0, 17, 262143, some 122), (0, 18, 524287, some 123)] ?_
                          repeat ((apply tag0; refine run_p (v := ?_) (a' := ?_) rfl rfl (any_of HT_.out (by kernel_rfl)) (fun _ _ _ h => h) (by rfl) ?_ ?_ ?_; rotate_left 2; (intro w'; go_simp; with_reducible rfl); (first | (simp only [Act.put, List.setIfInBounds_toArray, List.set_cons_zero, List.set_cons_succ, i64_w, i32_w]; rfl) | rfl)))
                          refine run_nil ?_
                          refine done_ (done_of HT_.out (by kernel_rfl)) ?_
                          have p161 : 0 ≤ (x16_5 : Int) := of_decide_eq_true (by first | (with_reducible assumption) | assumption)
                          have q161 : x16_5 < (x3_3.length : Int) := of_decide_eq_true (by first | (with_reducible assumption) | assumption)
                          obtain ⟨ad161, A161_1, c161_1, e161, hx161_0, hx161_1, hl161_1, hi161_1⟩ := at_T33 (Kd.N_reads' HO_3.out).2.2 x16_5 p161 q161
                          obtain rfl : ad158 = ad161 := (by injection e161)
                          obtain ⟨ce161, hce161, hMe161, hcc161⟩ := Kd.N_get HO_3.out z33 x16_5 p161 (by first | exact q161 | exact of_decide_eq_true (by first | (with_reducible assumption) | assumption) | (have e_ := (Kd.N_reads' HO_3.out).1; omega))
                          obtain ⟨ua161_1, uc161_1, rfl, ul161_1, ge161_1⟩ := k33_openF hMe161
                          have hv161_1 := hcc161 1 _ rfl
                          rw [add_field _ _ 1 (by omega)] at hv161_1
                          replace hv161_1 := Option.some.inj (hv161_1.symm.trans hx161_1)
                          injection hv161_1 with hva_ hvn_ hvc_
                          rw [hva_] at ge161_1
                          rw [hvc_] at ul161_1
                          have HL161_1 := Aside0.mk (show Kd.V k105 105 _ w.heap.size _ _ ((rd_T33 x3_3 x16_5).f1) from Kd.V_mk ul161_1 ge161_1)
                          clear hva_ hvn_ hvc_ ge161_1 ul161_1
                          clear hcc161 hce161
                          have HR161_1 := Aside0.mk hi161_1
                          have HC161_1 := Aside0.mk hl161_1
                          clear hi161_1 hl161_1
                          replace p161 := eq_true p161
                          replace q161 := eq_true q161
                          (try (injection Option.some.inj (hx161_1.symm.trans HS0_) with f1_ f2_ f3_; subst f1_; subst f3_))
                          (try (injection Option.some.inj (hx161_1.symm.trans HS1_) with f1_ f2_ f3_; subst f1_; subst f3_))
                          (try (injection Option.some.inj (hx161_1.symm.trans HS2_) with f1_ f2_ f3_; subst f1_; subst f3_))
                          (try (injection Option.some.inj (hx161_1.symm.trans HS3_) with f1_ f2_ f3_; subst f1_; subst f3_))
                          try go_wp2_with (first | ((with_reducible refine gate_builtin (b := .append) (xs := #[.tmp 124, .tmp 129]) rfl ?_); at_builtin; refine Kd.N_append k33 (w0 := w) w.heap.size rfl (.tmp 124) (.tmp 129) 44 33 (.agg #[(.int .i64 0), (.slice none 0 0)]) 32 rfl Tryd.underlying44 info33 rfl (by decide) (by omega) u12 x12_5 (⟨(rd_T33 x3_3 x16_5).f0, (rd_T33 x3_3 x16_5).f1⟩ : S33) [.int .i64 ((rd_T33 x3_3 x16_5).f0), .slice A161_1 ((rd_T33 x3_3 x16_5).f1).length c161_1] (fun k_ => (w.heap.size ≤ k_) ∧ some k_ ≠ (.slice (some ad158) x3_3.length co34 : Value).ownBlock) (fun k_ => ((fun k_ => (w.heap.size ≤ k_) ∧ some k_ ≠ (.slice (some ad158) x3_3.length co34 : Value).ownBlock)) k_ ∧ some k_ ≠ (u12 : Value).ownBlock) rfl rfl ?aP (fun _ hk => hk) ?aF ?aO ?aB ?aS ?aL ?_; (case aP => exact (k33_mkF _ _ (⟨(rd_T33 x3_3 x16_5).f0, (rd_T33 x3_3 x16_5).f1⟩ : S33) (Kd.V_reads' (Kd.V_mono (ok' := (fun k_ => ((fun k_ => (w.heap.size ≤ k_) ∧ some k_ ≠ (.slice (some ad158) x3_3.length co34 : Value).ownBlock)) k_ ∧ some k_ ≠ (u12 : Value).ownBlock)) (HL161_1.out) (fun k_ hk => ⟨⟨hk.1.1, hk.2⟩, hk.1.2⟩))).2.1 (Kd.V_F (Kd.V_mono (ok' := (fun k_ => ((fun k_ => (w.heap.size ≤ k_) ∧ some k_ ≠ (.slice (some ad158) x3_3.length co34 : Value).ownBlock)) k_ ∧ some k_ ≠ (u12 : Value).ownBlock)) (HL161_1.out) (fun k_ hk => ⟨⟨hk.1.1, hk.2⟩, hk.1.2⟩))))); (case aB => exact hB); (case aF => exact (fun k_ hk => ⟨(Nat.le_trans (below_size hB) hk), Kd.fresh' (Kd.N_lt (nU HO_3)) k_ hk⟩)); (case aO => exact (nU HO_12)); (case aS => exact (below_size hB)); (case aL => have := LMc54.out; omega); intro v163 w57 ho hb hg hat; rw [← Ny162.out] at ho; have HO164 := Aside0.mk (ho); replace HO_3 := Aside0.mk (Kd.N_afterv (ok := (fun k_ => (w.heap.size ≤ k_))) (nU HO_3) hg hat); replace HL158_1 := Aside0.mk (Kd.V_afterv (ok := (fun k_ => (w.heap.size ≤ k_) ∧ some k_ ≠ (.slice (some ad158) x3_3.length co34 : Value).ownBlock)) (by (with_reducible repeat (first | apply Kd.V_alloc | apply Kd.V_drewN | apply Kd.V_drew)); exact Kd.V_mono HL158_1.out (fun _ hk => ⟨⟨hk.1.1, hk.2⟩, hk.1.2⟩)) hg hat); replace HL159_1 := Aside0.mk (Kd.V_afterv (ok := (fun k_ => (w.heap.size ≤ k_) ∧ some k_ ≠ (.slice (some ad158) x3_3.length co34 : Value).ownBlock)) (by (with_reducible repeat (first | apply Kd.V_alloc | apply Kd.V_drewN | apply Kd.V_drew)); exact Kd.V_mono HL159_1.out (fun _ hk => ⟨⟨hk.1.1, hk.2⟩, hk.1.2⟩)) hg hat); replace HL161_1 := Aside0.mk (Kd.V_afterv (ok := (fun k_ => (w.heap.size ≤ k_) ∧ some k_ ≠ (.slice (some ad158) x3_3.length co34 : Value).ownBlock)) (by (with_reducible repeat (first | apply Kd.V_alloc | apply Kd.V_drewN | apply Kd.V_drew)); exact Kd.V_mono HL161_1.out (fun _ hk => ⟨⟨hk.1.1, hk.2⟩, hk.1.2⟩)) hg hat); replace HB := Aside0.mk (hb); clear HO_12; clear ho hb hg hat))
                          go_roundg kj37
                          case measure => have := HK1.out; have := HK2.out; have := HK3.out; have := HK4.out; have := HK5.out; have := HJ37.out; omega
                          case rel => exact ⟨(y162), (wrap64 (x16_5 + 1)), (x17_5), (by first | rfl | (simp; done) | (simp [*]; done)), (by first | rfl | (simp; done) | (simp [*]; done)), H', ⟨by have := HK1.out; have := HK2.out; have := HK3.out; have := HK4.out; have := HK5.out; have := HJ37.out; omega⟩, ⟨nU HO_3⟩, ⟨nU HO164⟩, ⟨hB⟩⟩
                         ·rw [if_neg c54] at H
                          exact absurd H (by simp)
                        ·replace c53 := Bool.eq_false_iff.mpr c53
                         subst c53
                         rw [if_neg (show ¬ (false = true) by decide)] at H
                         by_cases c58 : x12_5.length < 4398046511104
                         ·rw [if_pos c58] at H
                          have LMc58 := Aside0.mk c58
                          clear c58
                          obtain ⟨y166, hy166⟩ : ∃ y_ : List (S33), y_ = (x12_5 ++ [(⟨(rd_T33 x3_3 x17_5).f0, (rd_T33 x3_3 x17_5).f1⟩ : S33)]) := ⟨_, rfl⟩
                          replace H : (spec_pzParties.l6 kj37 x3_3 x11_3 y166 x13_4 t152 t153 x16_5 (wrap64 (x17_5 + 1))) = some r := by first | (rw [hy166]; with_reducible exact H) | (have H2_ := (Option.bind_some _ _).symm.trans H; rw [hy166]; with_reducible exact H2_) | (have H2_ := (Option.bind_some _ _).symm.trans H; with_reducible exact H2_) | with_reducible exact H | (rw [hy166]; exact H) | exact H
                          have Ny166 := Aside0.mk hy166
                          clear hy166
                          have H' := Aside0.mk H
                          clear H
                          try go_wp2
                          replace HO_3 := Aside0.mk (Kd.N_drew HO_3.out)
                          replace HO_12 := Aside0.mk (Kd.N_drew HO_12.out)
                          replace HB := Aside0.mk (below_drew1 HB.out)
                          have p158 : 0 ≤ (x16_5 : Int) := of_decide_eq_true (by first | (with_reducible assumption) | assumption)
                          have q158 : x16_5 < (x3_3.length : Int) := of_decide_eq_true (by first | (with_reducible assumption) | assumption)
                          obtain ⟨ad158, A158_1, c158_1, e158, hx158_0, hx158_1, hl158_1, hi158_1⟩ := at_T33 (Kd.N_reads' HO_3.out).2.2 x16_5 p158 q158
                          cases e158
                          obtain ⟨ce158, hce158, hMe158, hcc158⟩ := Kd.N_get HO_3.out z33 x16_5 p158 (by first | exact q158 | exact of_decide_eq_true (by first | (with_reducible assumption) | assumption) | (have e_ := (Kd.N_reads' HO_3.out).1; omega))
                          obtain ⟨ua158_1, uc158_1, rfl, ul158_1, ge158_1⟩ := k33_openF hMe158
                          have hv158_1 := hcc158 1 _ rfl
                          rw [add_field _ _ 1 (by omega)] at hv158_1
                          replace hv158_1 := Option.some.inj (hv158_1.symm.trans hx158_1)
                          injection hv158_1 with hva_ hvn_ hvc_
                          rw [hva_] at ge158_1
                          rw [hvc_] at ul158_1
                          have HL158_1 := Aside0.mk (show Kd.V k105 105 _ w.heap.size _ _ ((rd_T33 x3_3 x16_5).f1) from Kd.V_mk ul158_1 ge158_1)
                          clear hva_ hvn_ hvc_ ge158_1 ul158_1
                          clear hcc158 hce158
                          have HR158_1 := Aside0.mk hi158_1
                          have HC158_1 := Aside0.mk hl158_1
                          clear hi158_1 hl158_1
                          replace p158 := eq_true p158
                          replace q158 := eq_true q158
                          (try (injection Option.some.inj (hx158_1.symm.trans HS0_) with f1_ f2_ f3_; subst f1_; subst f3_))
                          (try (injection Option.some.inj (hx158_1.symm.trans HS1_) with f1_ f2_ f3_; subst f1_; subst f3_))
                          (try (injection Option.some.inj (hx158_1.symm.trans HS2_) with f1_ f2_ f3_; subst f1_; subst f3_))
                          (try (injection Option.some.inj (hx158_1.symm.trans HS3_) with f1_ f2_ f3_; subst f1_; subst f3_))
                          have p159 : 0 ≤ (x17_5 : Int) := of_decide_eq_true (by first | (with_reducible assumption) | assumption)
                          have q159 : x17_5 < (x3_3.length : Int) := of_decide_eq_true (by first | (with_reducible assumption) | assumption)
                          obtain ⟨ad159, A159_1, c159_1, e159, hx159_0, hx159_1, hl159_1, hi159_1⟩ := at_T33 (Kd.N_reads' HO_3.out).2.2 x17_5 p159 q159
                          obtain rfl : ad158 = ad159 := (by injection e159)
                          obtain ⟨ce159, hce159, hMe159, hcc159⟩ := Kd.N_get HO_3.out z33 x17_5 p159 (by first | exact q159 | exact of_decide_eq_true (by first | (with_reducible assumption) | assumption) | (have e_ := (Kd.N_reads' HO_3.out).1; omega))
                          obtain ⟨ua159_1, uc159_1, rfl, ul159_1, ge159_1⟩ := k33_openF hMe159
                          have hv159_1 := hcc159 1 _ rfl
                          rw [add_field _ _ 1 (by omega)] at hv159_1
                          replace hv159_1 := Option.some.inj (hv159_1.symm.trans hx159_1)
                          injection hv159_1 with hva_ hvn_ hvc_
                          rw [hva_] at ge159_1
                          rw [hvc_] at ul159_1
                          have HL159_1 := Aside0.mk (show Kd.V k105 105 _ w.heap.size _ _ ((rd_T33 x3_3 x17_5).f1) from Kd.V_mk ul159_1 ge159_1)
                          clear hva_ hvn_ hvc_ ge159_1 ul159_1
                          clear hcc159 hce159
                          have HR159_1 := Aside0.mk hi159_1
                          have HC159_1 := Aside0.mk hl159_1
                          clear hi159_1 hl159_1
                          replace p159 := eq_true p159
                          replace q159 := eq_true q159
                          (try (injection Option.some.inj (hx159_1.symm.trans HS0_) with f1_ f2_ f3_; subst f1_; subst f3_))
                          (try (injection Option.some.inj (hx159_1.symm.trans HS1_) with f1_ f2_ f3_; subst f1_; subst f3_))
                          (try (injection Option.some.inj (hx159_1.symm.trans HS2_) with f1_ f2_ f3_; subst f1_; subst f3_))
                          (try (injection Option.some.inj (hx159_1.symm.trans HS3_) with f1_ f2_ f3_; subst f1_; subst f3_))
                          refine start_ (n := 19) (S := fun w' => w'.cell? (ad158.add ((x16_5).toNat * 2)) = some (.int .i64 ((rd_T33 x3_3 x16_5).f0)) ∧ w'.cell? ⟨(ad158.add ((x16_5).toNat * 2)).block, (ad158.add ((x16_5).toNat * 2)).off + 1, none⟩ = some (.slice A158_1 ((rd_T33 x3_3 x16_5).f1).length c158_1) ∧ w'.cell? (ad158.add ((x17_5).toNat * 2)) = some (.int .i64 ((rd_T33 x3_3 x17_5).f0)) ∧ w'.cell? ⟨(ad158.add ((x17_5).toNat * 2)).block, (ad158.add ((x17_5).toNat * 2)).off + 1, none⟩ = some (.slice A159_1 ((rd_T33 x3_3 x17_5).f1).length c159_1)) (ds := []) (bz 19 0) (by kernel_rfl) rfl rfl ⟨hx158_0, hx158_1, hx159_0, hx159_1⟩ (fun hHeld => ?_); refine with_tabW spec_pzParties.tab31 spec_pzParties.bits31 (fun HT_ HW_ => ?_)
                          generalize wc.drew = w59 at HO_3 HO_12 HB HL158_1 HL159_1 HR158_1 HR159_1 hx158_0 hx158_1 hx159_0 hx159_1 hHeld ⊢
                          refine run_ [(0, 0, 1, some 105), (0, 1, 3, some 106), (0, 2, 7, some 107), (0, 3, 15, some 108), (0, 4, 31, some 109), (0, 5, 63, some 110), (0, 6, 127, some 111), (0, 7, 255, some 112), (0, 8, 511, some 113), (0, 9, 1023, some 114), (0, 10, 2047, some 115), (0, 12, 6143, some 117), (0, 13, 14335, some 118), (0, 14, 30719, some 119), (1, 11, 32767, some 116), (1, 15, 65535, some 120)] ?_
                          repeat (first | (apply tag0; refine run_p (v := ?_) (a' := ?_) rfl rfl (any_of HT_.out (by kernel_rfl)) (fun _ _ _ h => h) (by rfl) ?_ ?_ ?_; rotate_left 2; (intro w'; go_simp; with_reducible rfl); (first | (simp only [Act.put, List.setIfInBounds_toArray, List.set_cons_zero, List.set_cons_succ, i64_w, i32_w]; rfl) | rfl)) | (apply tag1; refine run_t (v := ?_) (a' := ?_) rfl rfl (take_ofW HT_.out HW_.out (by kernel_rfl)) (fun _ _ _ h => h) (by rfl) ?_ hHeld ?_ ?_; rotate_left 2; (rintro w' ⟨s0, s1, s2, s3⟩; go_simp; with_reducible rfl); (first | (simp only [Act.put, List.setIfInBounds_toArray, List.set_cons_zero, List.set_cons_succ, i64_w, i32_w]; rfl) | rfl)))
                          refine run_nil ?_
                          refine one_ (i := 16) (N := some 121) (bz 19 131071) rfl rfl (one_of HT_.out (by kernel_rfl)) (by decide) (fun K hK => ?_)
                          refine goes_ Tryd.func133 (by kernel_rfl) rfl #[.agg #[.int .i64 ((rd_T33 x3_3 x16_5).f0), .slice A158_1 ((rd_T33 x3_3 x16_5).f1).length c158_1], .agg #[.int .i64 ((rd_T33 x3_3 x17_5).f0), .slice A159_1 ((rd_T33 x3_3 x17_5).f1).length c159_1]] (by rfl) rfl rfl mapT ?_
                          with_reducible refine (spec_paBefore.calls kj37 ((rd_T33 x3_3 x16_5).f0) _ _ ((rd_T33 x3_3 x16_5).f1) ((rd_T33 x3_3 x17_5).f0) _ _ ((rd_T33 x3_3 x17_5).f1) false _ ?side1 ?side2 ?side3 ?side4 A52.out).mono ?_
                          (case side1 => repeat (first | exact (by repeat (first | (with_reducible exact HR158_1.out) | (with_reducible refine Kd.C_alloc ?_ _) | (with_reducible refine Kd.C_drewN ?_ _) | (with_reducible refine Kd.C_drew ?_) | exact HR158_1.out)) | (with_reducible refine Kd.C_alloc ?_ _) | (with_reducible refine Kd.C_drewN ?_ _) | (with_reducible refine Kd.C_drew ?_)))
                          (case side2 => exact HC158_1.out)
                          (case side3 => repeat (first | exact (by repeat (first | (with_reducible exact HR159_1.out) | (with_reducible refine Kd.C_alloc ?_ _) | (with_reducible refine Kd.C_drewN ?_ _) | (with_reducible refine Kd.C_drew ?_) | exact HR159_1.out)) | (with_reducible refine Kd.C_alloc ?_ _) | (with_reducible refine Kd.C_drewN ?_ _) | (with_reducible refine Kd.C_drew ?_)))
                          (case side4 => exact HC159_1.out)
                          rintro e w60 ⟨rfl, hb⟩
                          have HS0_ := (hb.cell (World.block_lt_of_cell? _ _ (hHeld.1))).trans (hHeld.1)
                          have HS1_ := (hb.cell (World.block_lt_of_cell? _ _ (hHeld.2.1))).trans (hHeld.2.1)
                          have HS2_ := (hb.cell (World.block_lt_of_cell? _ _ (hHeld.2.2.1))).trans (hHeld.2.2.1)
                          have HS3_ := (hb.cell (World.block_lt_of_cell? _ _ (hHeld.2.2.2))).trans (hHeld.2.2.2)
                          refine ⟨_, rfl, ?_⟩
                          replace HO_3 := Aside0.mk (Kd.N_below (nU HO_3) hb)
                          replace HO_12 := Aside0.mk (Kd.N_below (nU HO_12) hb)
                          replace HL158_1 := Aside0.mk (Kd.V_below (by (with_reducible repeat (first | apply Kd.V_alloc | apply Kd.V_drewN | apply Kd.V_drew)); exact HL158_1.out) hb)
                          replace HL159_1 := Aside0.mk (Kd.V_below (by (with_reducible repeat (first | apply Kd.V_alloc | apply Kd.V_drewN | apply Kd.V_drew)); exact HL159_1.out) hb)
                          replace HR158_1 := Aside0.mk (Kd.C_below (by repeat (first | (with_reducible exact HR158_1.out) | (with_reducible refine Kd.C_alloc ?_ _) | (with_reducible refine Kd.C_drewN ?_ _) | (with_reducible refine Kd.C_drew ?_) | exact HR158_1.out)) hb)
                          replace HR159_1 := Aside0.mk (Kd.C_below (by repeat (first | (with_reducible exact HR159_1.out) | (with_reducible refine Kd.C_alloc ?_ _) | (with_reducible refine Kd.C_drewN ?_ _) | (with_reducible refine Kd.C_drew ?_) | exact HR159_1.out)) hb)
                          replace HB := hS HB hb
                          (try clear hb)
                          (try clear hb2)
                          (try clear hk)
                          (try clear hi)
                          refine hK.out _ _ ⟨HS0_, HS1_, HS2_, HS3_⟩ (fun hHeld => ?_)
                          clear hK K
                          refine norm_ (a' := ?_) ?_ ?_
                          rotate_left
                          ·show Act.put _ (some 121) _ = _
                           simp only [Act.put, List.setIfInBounds_toArray, List.set_cons_zero, List.set_cons_succ, i64_w, i32_w]
                           rfl
                          refine run_ [(0, 17, 262143, some 122), (0, 18, 524287, some 123)] ?_
                          repeat ((apply tag0; refine run_p (v := ?_) (a' := ?_) rfl rfl (any_of HT_.out (by kernel_rfl)) (fun _ _ _ h => h) (by rfl) ?_ ?_ ?_; rotate_left 2; (intro w'; go_simp; with_reducible rfl); (first | (simp only [Act.put, List.setIfInBounds_toArray, List.set_cons_zero, List.set_cons_succ, i64_w, i32_w]; rfl) | rfl)))
                          refine run_nil ?_
                          refine done_ (done_of HT_.out (by kernel_rfl)) ?_
                          have p165 : 0 ≤ (x17_5 : Int) := of_decide_eq_true (by first | (with_reducible assumption) | assumption)
                          have q165 : x17_5 < (x3_3.length : Int) := of_decide_eq_true (by first | (with_reducible assumption) | assumption)
                          obtain ⟨ad165, A165_1, c165_1, e165, hx165_0, hx165_1, hl165_1, hi165_1⟩ := at_T33 (Kd.N_reads' HO_3.out).2.2 x17_5 p165 q165
                          obtain rfl : ad158 = ad165 := (by injection e165)
                          obtain ⟨ce165, hce165, hMe165, hcc165⟩ := Kd.N_get HO_3.out z33 x17_5 p165 (by first | exact q165 | exact of_decide_eq_true (by first | (with_reducible assumption) | assumption) | (have e_ := (Kd.N_reads' HO_3.out).1; omega))
                          obtain ⟨ua165_1, uc165_1, rfl, ul165_1, ge165_1⟩ := k33_openF hMe165
                          have hv165_1 := hcc165 1 _ rfl
                          rw [add_field _ _ 1 (by omega)] at hv165_1
                          replace hv165_1 := Option.some.inj (hv165_1.symm.trans hx165_1)
                          injection hv165_1 with hva_ hvn_ hvc_
                          rw [hva_] at ge165_1
                          rw [hvc_] at ul165_1
                          have HL165_1 := Aside0.mk (show Kd.V k105 105 _ w.heap.size _ _ ((rd_T33 x3_3 x17_5).f1) from Kd.V_mk ul165_1 ge165_1)
                          clear hva_ hvn_ hvc_ ge165_1 ul165_1
                          clear hcc165 hce165
                          have HR165_1 := Aside0.mk hi165_1
                          have HC165_1 := Aside0.mk hl165_1
                          clear hi165_1 hl165_1
                          replace p165 := eq_true p165
                          replace q165 := eq_true q165
                          (try (injection Option.some.inj (hx165_1.symm.trans HS0_) with f1_ f2_ f3_; subst f1_; subst f3_))
                          (try (injection Option.some.inj (hx165_1.symm.trans HS1_) with f1_ f2_ f3_; subst f1_; subst f3_))
                          (try (injection Option.some.inj (hx165_1.symm.trans HS2_) with f1_ f2_ f3_; subst f1_; subst f3_))
                          (try (injection Option.some.inj (hx165_1.symm.trans HS3_) with f1_ f2_ f3_; subst f1_; subst f3_))
                          try go_wp2_with (first | ((with_reducible refine gate_builtin (b := .append) (xs := #[.tmp 133, .tmp 138]) rfl ?_); at_builtin; refine Kd.N_append k33 (w0 := w) w.heap.size rfl (.tmp 133) (.tmp 138) 44 33 (.agg #[(.int .i64 0), (.slice none 0 0)]) 32 rfl Tryd.underlying44 info33 rfl (by decide) (by omega) u12 x12_5 (⟨(rd_T33 x3_3 x17_5).f0, (rd_T33 x3_3 x17_5).f1⟩ : S33) [.int .i64 ((rd_T33 x3_3 x17_5).f0), .slice A165_1 ((rd_T33 x3_3 x17_5).f1).length c165_1] (fun k_ => (w.heap.size ≤ k_) ∧ some k_ ≠ (.slice (some ad158) x3_3.length co34 : Value).ownBlock) (fun k_ => ((fun k_ => (w.heap.size ≤ k_) ∧ some k_ ≠ (.slice (some ad158) x3_3.length co34 : Value).ownBlock)) k_ ∧ some k_ ≠ (u12 : Value).ownBlock) rfl rfl ?aP (fun _ hk => hk) ?aF ?aO ?aB ?aS ?aL ?_; (case aP => exact (k33_mkF _ _ (⟨(rd_T33 x3_3 x17_5).f0, (rd_T33 x3_3 x17_5).f1⟩ : S33) (Kd.V_reads' (Kd.V_mono (ok' := (fun k_ => ((fun k_ => (w.heap.size ≤ k_) ∧ some k_ ≠ (.slice (some ad158) x3_3.length co34 : Value).ownBlock)) k_ ∧ some k_ ≠ (u12 : Value).ownBlock)) (HL165_1.out) (fun k_ hk => ⟨⟨hk.1.1, hk.2⟩, hk.1.2⟩))).2.1 (Kd.V_F (Kd.V_mono (ok' := (fun k_ => ((fun k_ => (w.heap.size ≤ k_) ∧ some k_ ≠ (.slice (some ad158) x3_3.length co34 : Value).ownBlock)) k_ ∧ some k_ ≠ (u12 : Value).ownBlock)) (HL165_1.out) (fun k_ hk => ⟨⟨hk.1.1, hk.2⟩, hk.1.2⟩))))); (case aB => exact hB); (case aF => exact (fun k_ hk => ⟨(Nat.le_trans (below_size hB) hk), Kd.fresh' (Kd.N_lt (nU HO_3)) k_ hk⟩)); (case aO => exact (nU HO_12)); (case aS => exact (below_size hB)); (case aL => have := LMc58.out; omega); intro v167 w61 ho hb hg hat; rw [← Ny166.out] at ho; have HO168 := Aside0.mk (ho); replace HO_3 := Aside0.mk (Kd.N_afterv (ok := (fun k_ => (w.heap.size ≤ k_))) (nU HO_3) hg hat); replace HL158_1 := Aside0.mk (Kd.V_afterv (ok := (fun k_ => (w.heap.size ≤ k_) ∧ some k_ ≠ (.slice (some ad158) x3_3.length co34 : Value).ownBlock)) (by (with_reducible repeat (first | apply Kd.V_alloc | apply Kd.V_drewN | apply Kd.V_drew)); exact Kd.V_mono HL158_1.out (fun _ hk => ⟨⟨hk.1.1, hk.2⟩, hk.1.2⟩)) hg hat); replace HL159_1 := Aside0.mk (Kd.V_afterv (ok := (fun k_ => (w.heap.size ≤ k_) ∧ some k_ ≠ (.slice (some ad158) x3_3.length co34 : Value).ownBlock)) (by (with_reducible repeat (first | apply Kd.V_alloc | apply Kd.V_drewN | apply Kd.V_drew)); exact Kd.V_mono HL159_1.out (fun _ hk => ⟨⟨hk.1.1, hk.2⟩, hk.1.2⟩)) hg hat); replace HL165_1 := Aside0.mk (Kd.V_afterv (ok := (fun k_ => (w.heap.size ≤ k_) ∧ some k_ ≠ (.slice (some ad158) x3_3.length co34 : Value).ownBlock)) (by (with_reducible repeat (first | apply Kd.V_alloc | apply Kd.V_drewN | apply Kd.V_drew)); exact Kd.V_mono HL165_1.out (fun _ hk => ⟨⟨hk.1.1, hk.2⟩, hk.1.2⟩)) hg hat); replace HB := Aside0.mk (hb); clear HO_12; clear ho hb hg hat))
                          go_roundg kj37
                          case measure => have := HK1.out; have := HK2.out; have := HK3.out; have := HK4.out; have := HK5.out; have := HJ37.out; omega
                          case rel => exact ⟨(y166), (x16_5), (wrap64 (x17_5 + 1)), (by first | rfl | (simp; done) | (simp [*]; done)), (by first | rfl | (simp; done) | (simp [*]; done)), H', ⟨by have := HK1.out; have := HK2.out; have := HK3.out; have := HK4.out; have := HK5.out; have := HJ37.out; omega⟩, ⟨nU HO_3⟩, ⟨nU HO168⟩, ⟨hB⟩⟩
                         ·rw [if_neg c58] at H
                          exact absurd H (by simp)
                       ·rw [if_neg c51] at H
                        exact absurd H (by simp)
                      ·rw [if_neg c50] at H
                       exact absurd H (by simp)
                     ·rw [if_neg c49] at H
                      exact absurd H (by simp)
                    ·rw [if_neg c48] at H
                     exact absurd H (by simp)
                   ·rw [if_neg c47] at H
                    have c47b0 : decide (x16_5 < t152) = false := decide_eq_false c47
                    clear c47
                    by_cases c62 : 0 ≤ x17_5
                    ·rw [if_pos c62] at H
                     have c62b0 : decide (0 ≤ x17_5) = true := decide_eq_true c62
                     clear c62
                     by_cases c63 : x17_5 < (x3_3.length : Int)
                     ·rw [if_pos c63] at H
                      have c63b0 : decide (x17_5 < (x3_3.length : Int)) = true := decide_eq_true c63
                      clear c63
                      by_cases c64 : x12_5.length < 4398046511104
                      ·rw [if_pos c64] at H
                       have LMc64 := Aside0.mk c64
                       clear c64
                       obtain ⟨y170, hy170⟩ : ∃ y_ : List (S33), y_ = (x12_5 ++ [(⟨(rd_T33 x3_3 x17_5).f0, (rd_T33 x3_3 x17_5).f1⟩ : S33)]) := ⟨_, rfl⟩
                       replace H : (spec_pzParties.l6 kj37 x3_3 x11_3 y170 x13_4 t152 t153 x16_5 (wrap64 (x17_5 + 1))) = some r := by first | (rw [hy170]; with_reducible exact H) | (have H2_ := (Option.bind_some _ _).symm.trans H; rw [hy170]; with_reducible exact H2_) | (have H2_ := (Option.bind_some _ _).symm.trans H; with_reducible exact H2_) | with_reducible exact H | (rw [hy170]; exact H) | exact H
                       have Ny170 := Aside0.mk hy170
                       clear hy170
                       have H' := Aside0.mk H
                       clear H
                       try go_wp2
                       replace HO_3 := Aside0.mk (Kd.N_drew HO_3.out)
                       replace HO_12 := Aside0.mk (Kd.N_drew HO_12.out)
                       replace HB := Aside0.mk (below_drew1 HB.out)
                       refine start_ (n := 19) (S := fun w' => True) (ds := []) (bz 19 0) (by kernel_rfl) rfl rfl trivial (fun hHeld => ?_); refine with_tabW spec_pzParties.tab31 spec_pzParties.bits31 (fun HT_ HW_ => ?_)
                       generalize wc.drew = w65 at HO_3 HO_12 HB hHeld ⊢
                       refine run_ [(0, 0, 1, some 105), (0, 1, 3, some 106), (0, 2, 7, some 107), (0, 3, 15, some 108), (0, 4, 31, some 109), (0, 5, 63, some 110), (0, 6, 127, some 111), (0, 7, 255, some 112), (2, 8, 511, some 113), (2, 9, 1023, some 114), (2, 10, 2047, some 115), (2, 11, 4095, some 116), (2, 12, 8191, some 117), (2, 13, 16383, some 118), (2, 14, 32767, some 119), (2, 15, 65535, some 120), (2, 16, 131071, some 121), (0, 17, 262143, some 122), (0, 18, 524287, some 123)] ?_
                       repeat (first | (apply tag0; refine run_p (v := ?_) (a' := ?_) rfl rfl (any_of HT_.out (by kernel_rfl)) (fun _ _ _ h => h) (by rfl) ?_ ?_ ?_; rotate_left 2; (intro w'; go_simp; with_reducible rfl); (first | (simp only [Act.put, List.setIfInBounds_toArray, List.set_cons_zero, List.set_cons_succ, i64_w, i32_w]; rfl) | rfl)) | (apply tag2; refine run_o (a' := ?_) rfl rfl (any_of HT_.out (by kernel_rfl)) (fun _ _ _ h => h) (by rfl) ?_ ?_; rotate_left; (first | (simp only [Act.put, List.setIfInBounds_toArray, List.set_cons_zero, List.set_cons_succ, i64_w, i32_w]; rfl) | rfl)))
                       refine run_nil ?_
                       refine done_ (done_of HT_.out (by kernel_rfl)) ?_
                       have p169 : 0 ≤ (x17_5 : Int) := of_decide_eq_true (by first | (with_reducible assumption) | assumption)
                       have q169 : x17_5 < (x3_3.length : Int) := of_decide_eq_true (by first | (with_reducible assumption) | assumption)
                       obtain ⟨ad169, A169_1, c169_1, e169, hx169_0, hx169_1, hl169_1, hi169_1⟩ := at_T33 (Kd.N_reads' HO_3.out).2.2 x17_5 p169 q169
                       cases e169
                       obtain ⟨ce169, hce169, hMe169, hcc169⟩ := Kd.N_get HO_3.out z33 x17_5 p169 (by first | exact q169 | exact of_decide_eq_true (by first | (with_reducible assumption) | assumption) | (have e_ := (Kd.N_reads' HO_3.out).1; omega))
                       obtain ⟨ua169_1, uc169_1, rfl, ul169_1, ge169_1⟩ := k33_openF hMe169
                       have hv169_1 := hcc169 1 _ rfl
                       rw [add_field _ _ 1 (by omega)] at hv169_1
                       replace hv169_1 := Option.some.inj (hv169_1.symm.trans hx169_1)
                       injection hv169_1 with hva_ hvn_ hvc_
                       rw [hva_] at ge169_1
                       rw [hvc_] at ul169_1
                       have HL169_1 := Aside0.mk (show Kd.V k105 105 _ w.heap.size _ _ ((rd_T33 x3_3 x17_5).f1) from Kd.V_mk ul169_1 ge169_1)
                       clear hva_ hvn_ hvc_ ge169_1 ul169_1
                       clear hcc169 hce169
                       have HR169_1 := Aside0.mk hi169_1
                       have HC169_1 := Aside0.mk hl169_1
                       clear hi169_1 hl169_1
                       replace p169 := eq_true p169
                       replace q169 := eq_true q169
                       (try (injection Option.some.inj (hx169_1.symm.trans HS0_) with f1_ f2_ f3_; subst f1_; subst f3_))
                       (try (injection Option.some.inj (hx169_1.symm.trans HS1_) with f1_ f2_ f3_; subst f1_; subst f3_))
                       (try (injection Option.some.inj (hx169_1.symm.trans HS2_) with f1_ f2_ f3_; subst f1_; subst f3_))
                       (try (injection Option.some.inj (hx169_1.symm.trans HS3_) with f1_ f2_ f3_; subst f1_; subst f3_))
                       try go_wp2_with (first | ((with_reducible refine gate_builtin (b := .append) (xs := #[.tmp 133, .tmp 138]) rfl ?_); at_builtin; refine Kd.N_append k33 (w0 := w) w.heap.size rfl (.tmp 133) (.tmp 138) 44 33 (.agg #[(.int .i64 0), (.slice none 0 0)]) 32 rfl Tryd.underlying44 info33 rfl (by decide) (by omega) u12 x12_5 (⟨(rd_T33 x3_3 x17_5).f0, (rd_T33 x3_3 x17_5).f1⟩ : S33) [.int .i64 ((rd_T33 x3_3 x17_5).f0), .slice A169_1 ((rd_T33 x3_3 x17_5).f1).length c169_1] (fun k_ => (w.heap.size ≤ k_) ∧ some k_ ≠ (.slice (some ad169) x3_3.length co34 : Value).ownBlock) (fun k_ => ((fun k_ => (w.heap.size ≤ k_) ∧ some k_ ≠ (.slice (some ad169) x3_3.length co34 : Value).ownBlock)) k_ ∧ some k_ ≠ (u12 : Value).ownBlock) rfl rfl ?aP (fun _ hk => hk) ?aF ?aO ?aB ?aS ?aL ?_; (case aP => exact (k33_mkF _ _ (⟨(rd_T33 x3_3 x17_5).f0, (rd_T33 x3_3 x17_5).f1⟩ : S33) (Kd.V_reads' (Kd.V_mono (ok' := (fun k_ => ((fun k_ => (w.heap.size ≤ k_) ∧ some k_ ≠ (.slice (some ad169) x3_3.length co34 : Value).ownBlock)) k_ ∧ some k_ ≠ (u12 : Value).ownBlock)) (HL169_1.out) (fun k_ hk => ⟨⟨hk.1.1, hk.2⟩, hk.1.2⟩))).2.1 (Kd.V_F (Kd.V_mono (ok' := (fun k_ => ((fun k_ => (w.heap.size ≤ k_) ∧ some k_ ≠ (.slice (some ad169) x3_3.length co34 : Value).ownBlock)) k_ ∧ some k_ ≠ (u12 : Value).ownBlock)) (HL169_1.out) (fun k_ hk => ⟨⟨hk.1.1, hk.2⟩, hk.1.2⟩))))); (case aB => exact hB); (case aF => exact (fun k_ hk => ⟨(Nat.le_trans (below_size hB) hk), Kd.fresh' (Kd.N_lt (nU HO_3)) k_ hk⟩)); (case aO => exact (nU HO_12)); (case aS => exact (below_size hB)); (case aL => have := LMc64.out; omega); intro v171 w66 ho hb hg hat; rw [← Ny170.out] at ho; have HO172 := Aside0.mk (ho); replace HO_3 := Aside0.mk (Kd.N_afterv (ok := (fun k_ => (w.heap.size ≤ k_))) (nU HO_3) hg hat); replace HL169_1 := Aside0.mk (Kd.V_afterv (ok := (fun k_ => (w.heap.size ≤ k_) ∧ some k_ ≠ (.slice (some ad169) x3_3.length co34 : Value).ownBlock)) (by (with_reducible repeat (first | apply Kd.V_alloc | apply Kd.V_drewN | apply Kd.V_drew)); exact Kd.V_mono HL169_1.out (fun _ hk => ⟨⟨hk.1.1, hk.2⟩, hk.1.2⟩)) hg hat); replace HB := Aside0.mk (hb); clear HO_12; clear ho hb hg hat))
                       go_roundg kj37
                       case measure => have := HK1.out; have := HK2.out; have := HK3.out; have := HK4.out; have := HK5.out; have := HJ37.out; omega
                       case rel => exact ⟨(y170), (x16_5), (wrap64 (x17_5 + 1)), (by first | rfl | (simp; done) | (simp [*]; done)), (by first | rfl | (simp; done) | (simp [*]; done)), H', ⟨by have := HK1.out; have := HK2.out; have := HK3.out; have := HK4.out; have := HK5.out; have := HJ37.out; omega⟩, ⟨nU HO_3⟩, ⟨nU HO172⟩, ⟨hB⟩⟩
                      ·rw [if_neg c64] at H
                       exact absurd H (by simp)
                     ·rw [if_neg c63] at H
                      exact absurd H (by simp)
                    ·rw [if_neg c62] at H
                     exact absurd H (by simp)
                 ·replace c40 := Bool.eq_false_iff.mpr c40
                  subst c40
                  rw [if_neg (show ¬ (false = true) by decide)] at H
                  have H' := Aside0.mk H
                  clear H
                  go_wp2
                  go_roundg kj37
                  case measure => have := HK1.out; have := HK2.out; have := HK3.out; have := HK4.out; have := HK5.out; have := HJ37.out; omega
                  case rel => exact ⟨(x12_5), (wrap64 (x13_4 + (wrap64 (2 * x11_3)))), (by first | rfl | (simp; done) | (simp [*]; done)), H', ⟨by have := HK1.out; have := HK2.out; have := HK3.out; have := HK4.out; have := HK5.out; have := HJ37.out; omega⟩, ⟨nU HO_3⟩, ⟨nU HO_12⟩, ⟨hB⟩⟩
            ·rw [if_neg c35] at H
             have c35b0 : decide (x13_4 < (x3_3.length : Int)) = false := decide_eq_false c35
             clear c35
             have H' := Aside0.mk H
             clear H
             go_wp2
             go_roundg k4
             case measure => have := HK1.out; have := HK2.out; have := HK3.out; have := HK4.out; omega
             case rel => exact ⟨(x12_4), (wrap64 (x11_3 * 2)), (by first | rfl | (simp; done) | (simp [*]; done)), H', ⟨by have := HK1.out; have := HK2.out; have := HK3.out; have := HK4.out; omega⟩, ⟨by (with_reducible repeat (first | apply Kd.N_alloc | apply Kd.N_drewN | apply Kd.N_drew)); exact Kd.N_mono HO_12.out (fun _ hk => hk.1)⟩, ⟨hB⟩⟩
         ·rw [if_neg c33] at H
          have c33b0 : decide (x11_3 < (x3_3.length : Int)) = false := decide_eq_false c33
          clear c33
          obtain rfl := Option.some.inj H
          obtain ⟨Ao67, co67, eo67⟩ := Kd.N_slice HO_3.out
          subst eo67
          go_wp2
          go_ret
          exact ⟨_, by first | rfl | (simp [errW_none, errW_some] <;> rfl) | (simp only [← hji6]; first | rfl | (simp [errW_none, errW_some] <;> rfl)) | (simp [*, errW_none, errW_some] <;> rfl), nU HO_3, hB⟩

end Go.Proofs.YtjpfbkkikcpmhaaDoor.PFnExactSolutions
