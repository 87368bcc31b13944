-- Of this session's own program wip/gen/gen.py (it drives the kit's print): contracts of the functions that the law reaches.
import Derived.Test.YtdnkipagpagfiaaDoorPSolx0
import Derived.Test.YtdnkipagpagfiaaDoorPSolx6
import Derived.Test.YtdnkipagpagfiaaDoorPSolx7
namespace Go.Proofs.YtdnkipagpagfiaaDoor.PSol
open Go.RowKit Go.Proofs.YtdnkipagpagfiaaDoorW.PrintWords Go.Proofs.YtdnkipagpagfiaaDoorW.PrintLast Go.Proofs.YtdnkipagpagfiaaDoorW.PrintMore Go.Proofs.YtdnkipagpagfiaaDoor.Base
attribute [local go_sem] max2_int min2_int max_two min_two max_three min_three max_four min_four   -- for this text's walks alone
set_option linter.unusedVariables false
set_option linter.unusedSimpArgs false

/-! ### spec_pzParties: function 111 -/
mutual
def spec_pzParties.l0 : Nat → Int → List (S110) → Int → Option ((List (S34)))
 | 0, _, _, _ => none
 | k + 1, x0, x4, x5 => if x5 < x0 then (spec_pzParties.l1 k x0 x4 x5 (wrap64 (x5 + 1))) else (spec_pzParties.l2 k x0 ([] : List (S34)) x4 0)
def spec_pzParties.l1 : Nat → Int → List (S110) → Int → Int → Option ((List (S34)))
 | 0, _, _, _, _ => none
 | k + 1, x0, x4, x5, x6 => if x6 < x0 then (if x4.length < 8796093022208 then (spec_pzParties.l1 k x0 (x4 ++ [(⟨x5, x6⟩ : S110)]) x5 (wrap64 (x6 + 1))) else (none)) else (spec_pzParties.l0 k x0 x4 (wrap64 (x5 + 1)))
def spec_pzParties.l2 : Nat → Int → List (S34) → List (S110) → Int → Option ((List (S34)))
 | 0, _, _, _, _ => none
 | k + 1, x0, x3, x4, x7 => if x7 < (shl .i64 1 (x4.length : Int)) then (spec_pzParties.l3 k x0 x3 x4 x7 x4 (x4.length : Int) 0 x0 ([] : List (S110))) else (spec_pzParties.l4 k x3 1)
def spec_pzParties.l3 : Nat → Int → List (S34) → List (S110) → Int → List (S110) → Int → Int → Int → List (S110) → Option ((List (S34)))
 | 0, _, _, _, _, _, _, _, _, _ => none
 | k + 1, x0, x3, x4, x7, x45, x46, x47, x278000, x278001 => if x47 < x46 then (if 0 ≤ x47 then (if x47 < (x45.length : Int) then (if (Int.tmod (shr .i64 x7 x47) 2) = 1 then (if x278001.length < 8796093022208 then (spec_pzParties.l3 k x0 x3 x4 x7 x45 x46 (wrap64 (x47 + 1)) x278000 (x278001 ++ [(⟨(rd_T110 x45 x47).f0, (rd_T110 x45 x47).f1⟩ : S110)])) else (none)) else (spec_pzParties.l3 k x0 x3 x4 x7 x45 x46 (wrap64 (x47 + 1)) x278000 x278001)) else (none)) else (none)) else (if x3.length < 4398046511104 then (spec_pzParties.l2 k x0 (x3 ++ [(⟨x278000, x278001⟩ : S34)]) x4 (wrap64 (x7 + 1))) else (none))
def spec_pzParties.l4 : Nat → List (S34) → Int → Option ((List (S34)))
 | 0, _, _ => none
 | k + 1, x3, x11 => if x11 < (x3.length : Int) then (spec_pzParties.l5 k x3 x11 ([] : List (S34)) 0) else (some x3)
def spec_pzParties.l5 : Nat → List (S34) → Int → List (S34) → Int → Option ((List (S34)))
 | 0, _, _, _, _ => none
 | k + 1, x3, x11, x12, x13 => if x13 < (x3.length : Int) then ((spec_l1Least.f (wrap64 (x13 + x11)) (x3.length : Int)).bind fun t286 => ((spec_l1Least.f (wrap64 (x13 + (wrap64 (2 * x11)))) (x3.length : Int)).bind fun t287 => (spec_pzParties.l6 k x3 x11 x12 x13 t286 t287 x13 t286))) else (spec_pzParties.l4 k x12 (wrap64 (x11 * 2)))
def spec_pzParties.l6 : Nat → List (S34) → Int → List (S34) → Int → Int → Int → Int → Int → Option ((List (S34)))
 | 0, _, _, _, _, _, _, _, _ => none
 | k + 1, x3, x11, x12, x13, x14, x15, x16, x17 => if x16 < x14 then (spec_pzParties.j7 k x3 x11 x12 x13 x14 x15 x16 x17 true) else (spec_pzParties.j7 k x3 x11 x12 x13 x14 x15 x16 x17 (decide (x17 < x15)))
def spec_pzParties.j7 : Nat → List (S34) → Int → List (S34) → Int → Int → Int → Int → Int → Bool → Option ((List (S34)))
 | 0, _, _, _, _, _, _, _, _, _ => none
 | k + 1, x3, x11, x12, x13, x14, x15, x16, x17, x104 => if x104 = true then (if x17 = x15 then (if 0 ≤ x16 then (if x16 < (x3.length : Int) then (if x12.length < 4398046511104 then (spec_pzParties.l6 k x3 x11 (x12 ++ [(⟨(rd_T34 x3 x16).f0, (rd_T34 x3 x16).f1⟩ : S34)]) x13 x14 x15 (wrap64 (x16 + 1)) x17) else (none)) else (none)) else (none)) else (if x16 < x14 then (if 0 ≤ x16 then (if x16 < (x3.length : Int) then (if 0 ≤ x17 then (if x17 < (x3.length : Int) then ((spec_paBefore.f k ((rd_T34 x3 x16).f0) ((rd_T34 x3 x16).f1) ((rd_T34 x3 x17).f0) ((rd_T34 x3 x17).f1)).bind fun t294 => (if t294 = true then (if x12.length < 4398046511104 then (spec_pzParties.l6 k x3 x11 (x12 ++ [(⟨(rd_T34 x3 x16).f0, (rd_T34 x3 x16).f1⟩ : S34)]) x13 x14 x15 (wrap64 (x16 + 1)) x17) else (none)) else (if x12.length < 4398046511104 then (spec_pzParties.l6 k x3 x11 (x12 ++ [(⟨(rd_T34 x3 x17).f0, (rd_T34 x3 x17).f1⟩ : S34)]) x13 x14 x15 x16 (wrap64 (x17 + 1))) else (none)))) else (none)) else (none)) else (none)) else (none)) else (if 0 ≤ x17 then (if x17 < (x3.length : Int) then (if x12.length < 4398046511104 then (spec_pzParties.l6 k x3 x11 (x12 ++ [(⟨(rd_T34 x3 x17).f0, (rd_T34 x3 x17).f1⟩ : S34)]) x13 x14 x15 x16 (wrap64 (x17 + 1))) else (none)) else (none)) else (none)))) else (spec_pzParties.l5 k x3 x11 x12 (wrap64 (x13 + (wrap64 (2 * x11)))))
end
def spec_pzParties.f (k : Nat) (a0 : Int) : Option ((List (S34))) := spec_pzParties.l0 k a0 ([] : List (S110)) 0
theorem spec_pzParties.mono_l : ∀ k, (∀ y0 y1 y2, LeO (spec_pzParties.l0 k y0 y1 y2) (spec_pzParties.l0 (k + 1) y0 y1 y2)) ∧ (∀ y0 y1 y2 y3, LeO (spec_pzParties.l1 k y0 y1 y2 y3) (spec_pzParties.l1 (k + 1) y0 y1 y2 y3)) ∧ (∀ y0 y1 y2 y3, LeO (spec_pzParties.l2 k y0 y1 y2 y3) (spec_pzParties.l2 (k + 1) y0 y1 y2 y3)) ∧ (∀ y0 y1 y2 y3 y4 y5 y6 y7 y8, LeO (spec_pzParties.l3 k y0 y1 y2 y3 y4 y5 y6 y7 y8) (spec_pzParties.l3 (k + 1) y0 y1 y2 y3 y4 y5 y6 y7 y8)) ∧ (∀ y0 y1, LeO (spec_pzParties.l4 k y0 y1) (spec_pzParties.l4 (k + 1) y0 y1)) ∧ (∀ y0 y1 y2 y3, LeO (spec_pzParties.l5 k y0 y1 y2 y3) (spec_pzParties.l5 (k + 1) y0 y1 y2 y3)) ∧ (∀ y0 y1 y2 y3 y4 y5 y6 y7, LeO (spec_pzParties.l6 k y0 y1 y2 y3 y4 y5 y6 y7) (spec_pzParties.l6 (k + 1) y0 y1 y2 y3 y4 y5 y6 y7)) ∧ (∀ y0 y1 y2 y3 y4 y5 y6 y7 y8, LeO (spec_pzParties.j7 k y0 y1 y2 y3 y4 y5 y6 y7 y8) (spec_pzParties.j7 (k + 1) y0 y1 y2 y3 y4 y5 y6 y7 y8))
 | 0 => ⟨fun _ _ _ r h => by simp [spec_pzParties.l0] at h, fun _ _ _ _ r h => by simp [spec_pzParties.l1] at h, fun _ _ _ _ r h => by simp [spec_pzParties.l2] at h, fun _ _ _ _ _ _ _ _ _ r h => by simp [spec_pzParties.l3] at h, fun _ _ r h => by simp [spec_pzParties.l4] at h, fun _ _ _ _ r h => by simp [spec_pzParties.l5] at h, fun _ _ _ _ _ _ _ _ r h => by simp [spec_pzParties.l6] at h, fun _ _ _ _ _ _ _ _ _ r h => by simp [spec_pzParties.j7] at h⟩
 | k + 1 => by
  obtain ⟨ih0, ih1, ih2, ih3, ih4, ih5, ih6, ih7⟩ := spec_pzParties.mono_l k
  refine ⟨?_, ?_, ?_, ?_, ?_, ?_, ?_, ?_⟩
  ·intro y0 y1 y2
   unfold spec_pzParties.l0
   repeat' first
   | (with_reducible exact ih0 _ _ _)
   | (with_reducible exact ih1 _ _ _ _)
   | (with_reducible exact ih2 _ _ _ _)
   | (with_reducible exact ih3 _ _ _ _ _ _ _ _ _)
   | (with_reducible exact ih4 _ _)
   | (with_reducible exact ih5 _ _ _ _)
   | (with_reducible exact ih6 _ _ _ _ _ _ _ _)
   | (with_reducible exact ih7 _ _ _ _ _ _ _ _ _)
   | (with_reducible exact spec_paBefore.mono _ _ _ _ _)
   | (with_reducible exact LeO.refl _)
   | (with_reducible exact LeO.none _)
   | (with_reducible refine LeO.ite ?_ ?_)
   | (with_reducible refine LeO.bind ?_ (fun _ => ?_))
   | exact ih0 _ _ _
   | exact ih1 _ _ _ _
   | exact ih2 _ _ _ _
   | exact ih3 _ _ _ _ _ _ _ _ _
   | exact ih4 _ _
   | exact ih5 _ _ _ _
   | exact ih6 _ _ _ _ _ _ _ _
   | exact ih7 _ _ _ _ _ _ _ _ _
   | exact spec_paBefore.mono _ _ _ _ _
   | exact LeO.none _
   | refine LeO.ite ?_ ?_
   | refine LeO.bind ?_ (fun _ => ?_)
  ·intro y0 y1 y2 y3
   unfold spec_pzParties.l1
   repeat' first
   | (with_reducible exact ih0 _ _ _)
   | (with_reducible exact ih1 _ _ _ _)
   | (with_reducible exact ih2 _ _ _ _)
   | (with_reducible exact ih3 _ _ _ _ _ _ _ _ _)
   | (with_reducible exact ih4 _ _)
   | (with_reducible exact ih5 _ _ _ _)
   | (with_reducible exact ih6 _ _ _ _ _ _ _ _)
   | (with_reducible exact ih7 _ _ _ _ _ _ _ _ _)
   | (with_reducible exact spec_paBefore.mono _ _ _ _ _)
   | (with_reducible exact LeO.refl _)
   | (with_reducible exact LeO.none _)
   | (with_reducible refine LeO.ite ?_ ?_)
   | (with_reducible refine LeO.bind ?_ (fun _ => ?_))
   | exact ih0 _ _ _
   | exact ih1 _ _ _ _
   | exact ih2 _ _ _ _
   | exact ih3 _ _ _ _ _ _ _ _ _
   | exact ih4 _ _
   | exact ih5 _ _ _ _
   | exact ih6 _ _ _ _ _ _ _ _
   | exact ih7 _ _ _ _ _ _ _ _ _
   | exact spec_paBefore.mono _ _ _ _ _
   | exact LeO.none _
   | refine LeO.ite ?_ ?_
   | refine LeO.bind ?_ (fun _ => ?_)
  ·intro y0 y1 y2 y3
   unfold spec_pzParties.l2
   repeat' first
   | (with_reducible exact ih0 _ _ _)
   | (with_reducible exact ih1 _ _ _ _)
   | (with_reducible exact ih2 _ _ _ _)
   | (with_reducible exact ih3 _ _ _ _ _ _ _ _ _)
   | (with_reducible exact ih4 _ _)
   | (with_reducible exact ih5 _ _ _ _)
   | (with_reducible exact ih6 _ _ _ _ _ _ _ _)
   | (with_reducible exact ih7 _ _ _ _ _ _ _ _ _)
   | (with_reducible exact spec_paBefore.mono _ _ _ _ _)
   | (with_reducible exact LeO.refl _)
   | (with_reducible exact LeO.none _)
   | (with_reducible refine LeO.ite ?_ ?_)
   | (with_reducible refine LeO.bind ?_ (fun _ => ?_))
   | exact ih0 _ _ _
   | exact ih1 _ _ _ _
   | exact ih2 _ _ _ _
   | exact ih3 _ _ _ _ _ _ _ _ _
   | exact ih4 _ _
   | exact ih5 _ _ _ _
   | exact ih6 _ _ _ _ _ _ _ _
   | exact ih7 _ _ _ _ _ _ _ _ _
   | exact spec_paBefore.mono _ _ _ _ _
   | exact LeO.none _
   | refine LeO.ite ?_ ?_
   | refine LeO.bind ?_ (fun _ => ?_)
  ·intro y0 y1 y2 y3 y4 y5 y6 y7 y8
   unfold spec_pzParties.l3
   repeat' first
   | (with_reducible exact ih0 _ _ _)
   | (with_reducible exact ih1 _ _ _ _)
   | (with_reducible exact ih2 _ _ _ _)
   | (with_reducible exact ih3 _ _ _ _ _ _ _ _ _)
   | (with_reducible exact ih4 _ _)
   | (with_reducible exact ih5 _ _ _ _)
   | (with_reducible exact ih6 _ _ _ _ _ _ _ _)
   | (with_reducible exact ih7 _ _ _ _ _ _ _ _ _)
   | (with_reducible exact spec_paBefore.mono _ _ _ _ _)
   | (with_reducible exact LeO.refl _)
   | (with_reducible exact LeO.none _)
   | (with_reducible refine LeO.ite ?_ ?_)
   | (with_reducible refine LeO.bind ?_ (fun _ => ?_))
   | exact ih0 _ _ _
   | exact ih1 _ _ _ _
   | exact ih2 _ _ _ _
   | exact ih3 _ _ _ _ _ _ _ _ _
   | exact ih4 _ _
   | exact ih5 _ _ _ _
   | exact ih6 _ _ _ _ _ _ _ _
   | exact ih7 _ _ _ _ _ _ _ _ _
   | exact spec_paBefore.mono _ _ _ _ _
   | exact LeO.none _
   | refine LeO.ite ?_ ?_
   | refine LeO.bind ?_ (fun _ => ?_)
  ·intro y0 y1
   unfold spec_pzParties.l4
   repeat' first
   | (with_reducible exact ih0 _ _ _)
   | (with_reducible exact ih1 _ _ _ _)
   | (with_reducible exact ih2 _ _ _ _)
   | (with_reducible exact ih3 _ _ _ _ _ _ _ _ _)
   | (with_reducible exact ih4 _ _)
   | (with_reducible exact ih5 _ _ _ _)
   | (with_reducible exact ih6 _ _ _ _ _ _ _ _)
   | (with_reducible exact ih7 _ _ _ _ _ _ _ _ _)
   | (with_reducible exact spec_paBefore.mono _ _ _ _ _)
   | (with_reducible exact LeO.refl _)
   | (with_reducible exact LeO.none _)
   | (with_reducible refine LeO.ite ?_ ?_)
   | (with_reducible refine LeO.bind ?_ (fun _ => ?_))
   | exact ih0 _ _ _
   | exact ih1 _ _ _ _
   | exact ih2 _ _ _ _
   | exact ih3 _ _ _ _ _ _ _ _ _
   | exact ih4 _ _
   | exact ih5 _ _ _ _
   | exact ih6 _ _ _ _ _ _ _ _
   | exact ih7 _ _ _ _ _ _ _ _ _
   | exact spec_paBefore.mono _ _ _ _ _
   | exact LeO.none _
   | refine LeO.ite ?_ ?_
   | refine LeO.bind ?_ (fun _ => ?_)
  ·intro y0 y1 y2 y3
   unfold spec_pzParties.l5
   repeat' first
   | (with_reducible exact ih0 _ _ _)
   | (with_reducible exact ih1 _ _ _ _)
   | (with_reducible exact ih2 _ _ _ _)
   | (with_reducible exact ih3 _ _ _ _ _ _ _ _ _)
   | (with_reducible exact ih4 _ _)
   | (with_reducible exact ih5 _ _ _ _)
   | (with_reducible exact ih6 _ _ _ _ _ _ _ _)
   | (with_reducible exact ih7 _ _ _ _ _ _ _ _ _)
   | (with_reducible exact spec_paBefore.mono _ _ _ _ _)
   | (with_reducible exact LeO.refl _)
   | (with_reducible exact LeO.none _)
   | (with_reducible refine LeO.ite ?_ ?_)
   | (with_reducible refine LeO.bind ?_ (fun _ => ?_))
   | exact ih0 _ _ _
   | exact ih1 _ _ _ _
   | exact ih2 _ _ _ _
   | exact ih3 _ _ _ _ _ _ _ _ _
   | exact ih4 _ _
   | exact ih5 _ _ _ _
   | exact ih6 _ _ _ _ _ _ _ _
   | exact ih7 _ _ _ _ _ _ _ _ _
   | exact spec_paBefore.mono _ _ _ _ _
   | exact LeO.none _
   | refine LeO.ite ?_ ?_
   | refine LeO.bind ?_ (fun _ => ?_)
  ·intro y0 y1 y2 y3 y4 y5 y6 y7
   unfold spec_pzParties.l6
   repeat' first
   | (with_reducible exact ih0 _ _ _)
   | (with_reducible exact ih1 _ _ _ _)
   | (with_reducible exact ih2 _ _ _ _)
   | (with_reducible exact ih3 _ _ _ _ _ _ _ _ _)
   | (with_reducible exact ih4 _ _)
   | (with_reducible exact ih5 _ _ _ _)
   | (with_reducible exact ih6 _ _ _ _ _ _ _ _)
   | (with_reducible exact ih7 _ _ _ _ _ _ _ _ _)
   | (with_reducible exact spec_paBefore.mono _ _ _ _ _)
   | (with_reducible exact LeO.refl _)
   | (with_reducible exact LeO.none _)
   | (with_reducible refine LeO.ite ?_ ?_)
   | (with_reducible refine LeO.bind ?_ (fun _ => ?_))
   | exact ih0 _ _ _
   | exact ih1 _ _ _ _
   | exact ih2 _ _ _ _
   | exact ih3 _ _ _ _ _ _ _ _ _
   | exact ih4 _ _
   | exact ih5 _ _ _ _
   | exact ih6 _ _ _ _ _ _ _ _
   | exact ih7 _ _ _ _ _ _ _ _ _
   | exact spec_paBefore.mono _ _ _ _ _
   | exact LeO.none _
   | refine LeO.ite ?_ ?_
   | refine LeO.bind ?_ (fun _ => ?_)
  ·intro y0 y1 y2 y3 y4 y5 y6 y7 y8
   unfold spec_pzParties.j7
   repeat' first
   | (with_reducible exact ih0 _ _ _)
   | (with_reducible exact ih1 _ _ _ _)
   | (with_reducible exact ih2 _ _ _ _)
   | (with_reducible exact ih3 _ _ _ _ _ _ _ _ _)
   | (with_reducible exact ih4 _ _)
   | (with_reducible exact ih5 _ _ _ _)
   | (with_reducible exact ih6 _ _ _ _ _ _ _ _)
   | (with_reducible exact ih7 _ _ _ _ _ _ _ _ _)
   | (with_reducible exact spec_paBefore.mono _ _ _ _ _)
   | (with_reducible exact LeO.refl _)
   | (with_reducible exact LeO.none _)
   | (with_reducible refine LeO.ite ?_ ?_)
   | (with_reducible refine LeO.bind ?_ (fun _ => ?_))
   | exact ih0 _ _ _
   | exact ih1 _ _ _ _
   | exact ih2 _ _ _ _
   | exact ih3 _ _ _ _ _ _ _ _ _
   | exact ih4 _ _
   | exact ih5 _ _ _ _
   | exact ih6 _ _ _ _ _ _ _ _
   | exact ih7 _ _ _ _ _ _ _ _ _
   | exact spec_paBefore.mono _ _ _ _ _
   | exact LeO.none _
   | refine LeO.ite ?_ ?_
   | refine LeO.bind ?_ (fun _ => ?_)
theorem spec_pzParties.mono : ∀ a0 k, LeO (spec_pzParties.f k a0) (spec_pzParties.f (k + 1) a0) := by
 intro a0 k
 obtain ⟨ih0, ih1, ih2, ih3, ih4, ih5, ih6, ih7⟩ := spec_pzParties.mono_l k
 unfold spec_pzParties.f
 repeat' first
   | (with_reducible exact ih0 _ _ _)
   | (with_reducible exact ih1 _ _ _ _)
   | (with_reducible exact ih2 _ _ _ _)
   | (with_reducible exact ih3 _ _ _ _ _ _ _ _ _)
   | (with_reducible exact ih4 _ _)
   | (with_reducible exact ih5 _ _ _ _)
   | (with_reducible exact ih6 _ _ _ _ _ _ _ _)
   | (with_reducible exact ih7 _ _ _ _ _ _ _ _ _)
   | (with_reducible exact spec_paBefore.mono _ _ _ _ _)
   | (with_reducible exact LeO.refl _)
   | (with_reducible exact LeO.none _)
   | (with_reducible refine LeO.ite ?_ ?_)
   | (with_reducible refine LeO.bind ?_ (fun _ => ?_))
   | exact ih0 _ _ _
   | exact ih1 _ _ _ _
   | exact ih2 _ _ _ _
   | exact ih3 _ _ _ _ _ _ _ _ _
   | exact ih4 _ _
   | exact ih5 _ _ _ _
   | exact ih6 _ _ _ _ _ _ _ _
   | exact ih7 _ _ _ _ _ _ _ _ _
   | exact spec_paBefore.mono _ _ _ _ _
   | exact LeO.none _
   | refine LeO.ite ?_ ?_
   | refine LeO.bind ?_ (fun _ => ?_)
def spec_pzParties.T31 : Bool × List (List Nat × List Nat) := (true, [([], []), ([], []), ([0, 1], [0, 1]), ([2], [2]), ([3], [3]), ([3], [3]), ([4, 5, 3], [3, 4, 5]), ([6, 3, 3], [3, 6]), ([7], [7]), ([7], [7]), ([8, 9, 7], [7, 8, 9]), ([10, 7], [7, 10]), ([7], [7]), ([7], [7]), ([12, 13, 7], [7, 12, 13]), ([14, 7], [7, 14]), ([11, 15, 7, 7], [7, 11, 15]), ([7, 16, 3], [3, 7, 16]), ([3, 17], [3, 17])])
def spec_pzParties.B31 : List Nat := [0, 0, 3, 7, 15, 15, 63, 127, 255, 255, 1023, 2047, 255, 255, 12543, 28927, 65535, 131071, 262143]
theorem spec_pzParties.tab31 : rtab .any (opsOf Tryd.f111 31) = spec_pzParties.T31 := by kernel_rfl
theorem spec_pzParties.bits31 : waitsOk spec_pzParties.T31.2 spec_pzParties.B31 = true := by kernel_rfl
set_option maxHeartbeats 8000000 in
set_option maxRecDepth 100000 in
theorem spec_pzParties.calls (k : Nat) (a0 : Int) (r : List (S34)) (w : World) (h : spec_pzParties.f k a0 = some r) :
  Calls Tryd.prog 111 #[.int .i64 a0] w fun e w' => ∃ v0_ : Value, e = .returned (v0_) ∧ Kd.N k34 34 w' w.heap.size (fun k_ => (w.heap.size ≤ k_)) v0_ r ∧ Below w.heap.size w w' := by
 have hu110 := Tryd.underlying110
 have hu34 := Tryd.underlying34
 have HB := Aside0.mk (Below.refl w.heap.size w)
 have H : (spec_pzParties.l0 k a0 ([] : List (S110)) 0) = some r := h
 clear h
 have H' := Aside0.mk H
 clear H
 go_enter Tryd.func111, Tryd.ntmps111
 go_wp2
 go_loopg [4, 5] k (fun kq v4 v5 w' => ∃ (x4_1 : List (S110)) (x5_1 : Int), v5 = .int .i64 x5_1 ∧ Aside0 (spec_pzParties.l0 kq a0 x4_1 x5_1 = some r) ∧ Aside0 (kq ≤ k) ∧ Aside0 (Kd.R k110 110 w' w.heap.size (fun k_ => (w.heap.size ≤ k_)) v4 x4_1) ∧ Aside0 (Below w.heap.size w w'))
 case atStart => exact ⟨(([] : List (S110))), (0), (by first | rfl | (simp; done) | (simp [*]; done)), H', ⟨Nat.le_refl _⟩, ⟨by first | exact Kd.R_nil _ _ _ _ _ | exact Kd.N_nil _ _ _ _ _ | exact Kd.V_nil _ _ _ _ _ | exact Kd.Q_nil _ _ _ _ _ | exact Kd.S_nil _ _ _ _ _⟩, ⟨hB⟩⟩
 case round =>
  clear H'
  try clear c1
  obtain ⟨x4_1, x5_1, rfl, HA, HK1, HO_4, HB⟩ := hrel
  cases gk with
  | zero => exact absurd HA.out (by simp [spec_pzParties.l0])
  | succ k1 =>
   have H := HA.out
   clear HA
   simp only [spec_pzParties.l0] at H
   by_cases c2 : x5_1 < a0
   ·rw [if_pos c2] at H
    have c2b0 : decide (x5_1 < a0) = true := decide_eq_true c2
    clear c2
    have H' := Aside0.mk H
    clear H
    go_wp2
    go_loopg [4, 6] k1 (fun kq v4 v6 w' => ∃ (x4_2 : List (S110)) (x6_2 : Int), v6 = .int .i64 x6_2 ∧ Aside0 (spec_pzParties.l1 kq a0 x4_2 x5_1 x6_2 = some r) ∧ Aside0 (kq ≤ k1) ∧ Aside0 (Kd.R k110 110 w' w.heap.size (fun k_ => (w.heap.size ≤ k_)) v4 x4_2) ∧ Aside0 (Below w.heap.size w w'))
    case atStart => exact ⟨(x4_1), (wrap64 (x5_1 + 1)), (by first | rfl | (simp; done) | (simp [*]; done)), H', ⟨Nat.le_refl _⟩, ⟨by (with_reducible repeat (first | apply Kd.R_alloc | apply Kd.R_drewN | apply Kd.R_drew)); exact HO_4.out⟩, ⟨hB⟩⟩
    case round =>
     clear H'
     try clear c1
     try clear c2
     try clear c2b0
     try clear p2
     obtain ⟨x4_2, x6_2, rfl, HA, HK2, HO_4, HB⟩ := hrel
     cases gk with
     | zero => exact absurd HA.out (by simp [spec_pzParties.l1])
     | succ k2 =>
      have H := HA.out
      clear HA
      simp only [spec_pzParties.l1] at H
      by_cases c3 : x6_2 < a0
      ·rw [if_pos c3] at H
       have c3b0 : decide (x6_2 < a0) = true := decide_eq_true c3
       clear c3
       by_cases c4 : x4_2.length < 8796093022208
       ·rw [if_pos c4] at H
        have LMc4 := Aside0.mk c4
        clear c4
        obtain ⟨y274, hy274⟩ : ∃ y_ : List (S110), y_ = (x4_2 ++ [(⟨x5_1, x6_2⟩ : S110)]) := ⟨_, rfl⟩
        replace H : (spec_pzParties.l1 k2 a0 y274 x5_1 (wrap64 (x6_2 + 1))) = some r := by first | (rw [hy274]; with_reducible exact H) | (have H2_ := (Option.bind_some _ _).symm.trans H; rw [hy274]; with_reducible exact H2_) | (have H2_ := (Option.bind_some _ _).symm.trans H; with_reducible exact H2_) | with_reducible exact H | (rw [hy274]; exact H) | exact H
        have Ny274 := Aside0.mk hy274
        clear hy274
        have H' := Aside0.mk H
        clear H
        go_wp2_with (first | ((with_reducible refine gate_builtin (b := .append) (xs := #[.tmp 30, .tmp 34]) rfl ?_); at_builtin; refine Kd.R_append k110 (w0 := w) w.heap.size rfl (.tmp 30) (.tmp 34) 32 110 (.agg #[(.int .i64 0), (.int .i64 0)]) 16 rfl Tryd.underlying32 info110 rfl (by decide) (by omega) u4 x4_2 (⟨x5_1, x6_2⟩ : S110) [.int .i64 x5_1, .int .i64 x6_2] (fun k_ => (w.heap.size ≤ k_)) (fun _ => False) rfl rfl ?aP (fun _ hk => hk.elim) ?aF ?aO ?aB ?aS ?aL ?_; (case aP => exact k110_mkM _ _ _ (⟨x5_1, x6_2⟩ : S110)); (case aB => exact hB); (case aF => exact (fun k_ hk => (Nat.le_trans (below_size hB) hk))); (case aO => exact (by (with_reducible repeat (first | apply Kd.R_alloc | apply Kd.R_drewN | apply Kd.R_drew)); exact HO_4.out)); (case aS => exact (below_size hB)); (case aL => have := LMc4.out; omega); intro v275 w5 ho hb hg hat; rw [← Ny274.out] at ho; have n0_ := Aside0.mk (hb); have n1_ := Aside0.mk (ho); clear HB; clear HO_4; have HB := n0_; have HO276 := n1_; clear n0_ n1_; clear ho hb hg hat))
        go_roundg k2
        case measure => have := HK1.out; have := HK2.out; omega
        case rel => exact ⟨(y274), (wrap64 (x6_2 + 1)), (by first | rfl | (simp; done) | (simp [*]; done)), H', ⟨by have := HK1.out; have := HK2.out; omega⟩, ⟨by (with_reducible repeat (first | apply Kd.R_alloc | apply Kd.R_drewN | apply Kd.R_drew)); exact HO276.out⟩, ⟨hB⟩⟩
       ·rw [if_neg c4] at H
        exact absurd H (by simp)
      ·rw [if_neg c3] at H
       have c3b0 : decide (x6_2 < a0) = false := decide_eq_false c3
       clear c3
       have H' := Aside0.mk H
       clear H
       go_wp2
       go_roundg k2
       case measure => have := HK1.out; have := HK2.out; omega
       case rel => exact ⟨(x4_2), (wrap64 (x5_1 + 1)), (by first | rfl | (simp; done) | (simp [*]; done)), H', ⟨by have := HK1.out; have := HK2.out; omega⟩, ⟨by (with_reducible repeat (first | apply Kd.R_alloc | apply Kd.R_drewN | apply Kd.R_drew)); exact HO_4.out⟩, ⟨hB⟩⟩
   ·rw [if_neg c2] at H
    have c2b0 : decide (x5_1 < a0) = false := decide_eq_false c2
    clear c2
    have H' := Aside0.mk H
    clear H
    go_wp2
    go_loopg [3, 7] k1 (fun kq v3 v7 w' => ∃ (x3_2 : List (S34)) (x7_2 : Int), v7 = .int .i64 x7_2 ∧ Aside0 (spec_pzParties.l2 kq a0 x3_2 x4_1 x7_2 = some r) ∧ Aside0 (kq ≤ k1) ∧ Aside0 (Kd.N k34 34 w' w.heap.size (fun k_ => (w.heap.size ≤ k_) ∧ some k_ ≠ (u4 : Value).ownBlock) v3 x3_2) ∧ Aside0 (Kd.R k110 110 w' w.heap.size (fun k_ => (w.heap.size ≤ k_)) u4 x4_1) ∧ Aside0 (Below w.heap.size w w'))
    case atStart => exact ⟨(([] : List (S34))), (0), (by first | rfl | (simp; done) | (simp [*]; done)), H', ⟨Nat.le_refl _⟩, ⟨by first | exact Kd.S_nil _ _ _ _ _ | exact Kd.N_nil _ _ _ _ _ | exact Kd.V_nil _ _ _ _ _ | exact Kd.Q_nil _ _ _ _ _ | exact Kd.R_nil _ _ _ _ _⟩, ⟨by (with_reducible repeat (first | apply Kd.R_alloc | apply Kd.R_drewN | apply Kd.R_drew)); exact HO_4.out⟩, ⟨hB⟩⟩
    case round =>
     clear H'
     try clear c1
     try clear c2
     try clear c2b0
     try clear p2
     try clear c3
     try clear c3b0
     try clear c4
     try clear p2
     obtain ⟨x3_2, x7_2, rfl, HA, HK2, HO_3, HO_4, HB⟩ := hrel
     cases gk with
     | zero => exact absurd HA.out (by simp [spec_pzParties.l2])
     | succ k2 =>
      have H := HA.out
      clear HA
      simp only [spec_pzParties.l2] at H
      obtain ⟨ji6, hji6⟩ : ∃ j_ : Int, (shl .i64 1 (x4_1.length : Int)) = j_ := ⟨_, rfl⟩
      replace H : (if x7_2 < (ji6) then (spec_pzParties.l3 k2 a0 x3_2 x4_1 x7_2 x4_1 (x4_1.length : Int) 0 a0 ([] : List (S110))) else (spec_pzParties.l4 k2 x3_2 1)) = some r := by first | (rw [hji6] at H; exact H) | (simp only [hji6] at H ⊢; exact H)
      have hji6_ : (IntKind.i64.wrap (1 * 2 ^ min (x4_1.length : Int).toNat 64)) = ji6 := hji6
      have hji6z : (x4_1.length : Int) ≤ 64 → (IntKind.i64.wrap (1 * 2 ^ (x4_1.length : Int).toNat)) = ji6 := shl_small hji6
      have hji6p : (IntKind.i64.wrap (1 * 2 ^ min x4_1.length 64)) = ji6 := hji6_
      have hji6q : (x4_1.length : Int) ≤ 64 → (IntKind.i64.wrap (1 * 2 ^ x4_1.length)) = ji6 := hji6z
      have hji6r : (IntKind.i64.wrap (2 ^ min x4_1.length 64)) = ji6 := by have h_ := hji6p; rw [Int.one_mul] at h_; exact h_
      have hji6s : (x4_1.length : Int) ≤ 64 → (IntKind.i64.wrap (2 ^ x4_1.length)) = ji6 := fun hle_ => by have h_ := hji6q hle_; rw [Int.one_mul] at h_; exact h_
      have hji6u : (IntKind.i64.wrap (2 ^ min (x4_1.length : Int).toNat 64)) = ji6 := by have h_ := hji6_; rw [Int.one_mul] at h_; exact h_
      have hji6v : (x4_1.length : Int) ≤ 64 → (IntKind.i64.wrap (2 ^ (x4_1.length : Int).toNat)) = ji6 := fun hle_ => by have h_ := hji6z hle_; rw [Int.one_mul] at h_; exact h_
      have hji6y : (wrap64 (1 * 2 ^ min (x4_1.length : Int).toNat 64)) = ji6 := (i64_w _).symm.trans hji6_
      have hji6x : (x4_1.length : Int) ≤ 64 → (wrap64 (1 * 2 ^ (x4_1.length : Int).toNat)) = ji6 := fun h_ => (i64_w _).symm.trans (hji6z h_)
      by_cases c7 : x7_2 < (ji6)
      ·rw [if_pos c7] at H
       have c7b0 : decide (x7_2 < (ji6)) = true := decide_eq_true c7
       clear c7
       have H' := Aside0.mk H
       clear H
       obtain ⟨Ao8, co8, eo8⟩ := Kd.R_slice HO_4.out
       subst eo8
       go_wp2_with (first | ((with_reducible refine gate_dst (N := 8) rfl ?_); refine box_event ?hg (N := 8) ?hd (cs := #[.int .i64 0, .slice none 0 0]) (t := 34) ?hr ?_; (case hd => rfl); (case hg => rfl); (case hr => first | (go_simp; done) | (go_simp; rfl)); intro gb277 hg w9 hbox hb; have n0_ := Aside0.mk (Kd.N_below (Kd.N_elderB (by (with_reducible repeat (first | apply Kd.N_alloc | apply Kd.N_drewN | apply Kd.N_drew)); exact HO_3.out) gb277 (Nat.le_of_eq hg.symm)) hb); have n1_ := Aside0.mk (Kd.R_below (by (with_reducible repeat (first | apply Kd.R_alloc | apply Kd.R_drewN | apply Kd.R_drew)); exact HO_4.out) hb); have n2_ := hS HB hb; have n3_ := Aside0.mk (hbox); have n4_ := gS HB hg; have n5_ := gS HB hg; clear HO_3; clear HO_4; clear HB; have HO_3 := n0_; have HO_4 := n1_; have HB := n2_; have BK277 := n3_; have GW277 := n4_; have GE277 := n5_; clear n0_ n1_ n2_ n3_ n4_ n5_; clear hb hbox hg; have hcz10_0 : w9.cell? ⟨gb277, 0, none⟩ = some (.int .i64 0) := (blk_cell BK277.out 0).trans rfl; have hcz10_1 : w9.cell? ⟨gb277, 1, none⟩ = some (.slice none 0 0) := (blk_cell BK277.out 1).trans rfl; have hfz10_0 := blk_frozen BK277.out 0; have hfz10_1 := blk_frozen BK277.out 1))
       go_loopg [47] k2 (fun kq v47 w' => ∃ (x47_3 : Int) (x278001_3 : List (S110)) (u278001 : Value), v47 = .int .i64 x47_3 ∧ Aside0 (spec_pzParties.l3 kq a0 x3_2 x4_1 x7_2 x4_1 (x4_1.length : Int) x47_3 a0 x278001_3 = some r) ∧ Aside0 (kq ≤ k2) ∧ Aside0 (Kd.N k34 34 w' w.heap.size (fun k_ => (w.heap.size ≤ k_) ∧ some k_ ≠ ((.slice Ao8 x4_1.length co8) : Value).ownBlock ∧ some k_ ≠ ((.slice Ao8 x4_1.length co8) : Value).ownBlock ∧ some k_ ≠ (u278001 : Value).ownBlock ∧ k_ ≠ gb277) u3 x3_2) ∧ Aside0 (Kd.R k110 110 w' w.heap.size (fun k_ => (w.heap.size ≤ k_) ∧ some k_ ≠ (u278001 : Value).ownBlock) (.slice Ao8 x4_1.length co8) x4_1) ∧ Aside0 (Kd.R k110 110 w' w.heap.size (fun k_ => (w.heap.size ≤ k_) ∧ some k_ ≠ (u278001 : Value).ownBlock) (.slice Ao8 x4_1.length co8) x4_1) ∧ Aside0 (Kd.R k110 110 w' w.heap.size (fun k_ => (w.heap.size ≤ k_) ∧ some k_ ≠ ((.slice Ao8 x4_1.length co8) : Value).ownBlock ∧ some k_ ≠ ((.slice Ao8 x4_1.length co8) : Value).ownBlock) u278001 x278001_3) ∧ Aside0 (w'.heap[gb277]? = some (.cells #[.int .i64 a0, u278001] 34 (0, 0))) ∧ Aside0 (Below w.heap.size w w'))
       case atStart => exact ⟨(0), (([] : List (S110))), (.slice none 0 0), (by first | rfl | (simp; done) | (simp [*]; done)), H', ⟨Nat.le_refl _⟩, ⟨by (with_reducible repeat (first | apply Kd.N_alloc | apply Kd.N_drewN | apply Kd.N_drew)); exact Kd.N_mono (Kd.N_far (p := ⟨gb277, 1, none⟩) (Kd.N_far (p := ⟨gb277, 0, none⟩) (Kd.N_mono HO_3.out (fun k_ hk => (⟨hk, hk.2⟩ : _ ∧ k_ ≠ gb277))) (fun _ hk => hk.2) (.int .i64 a0)) (fun _ hk => hk.2) (.slice none 0 0)) (fun _ hk => ⟨hk.1.1.1, ⟨hk.1.1.2, ⟨hk.1.1.2, ⟨(by simp [Value.ownBlock]), hk.1.2⟩⟩⟩⟩)⟩, ⟨by (with_reducible repeat (first | apply Kd.R_alloc | apply Kd.R_drewN | apply Kd.R_drew)); exact Kd.R_mono (Kd.R_far (p := ⟨gb277, 1, none⟩) (Kd.R_far (p := ⟨gb277, 0, none⟩) (Kd.R_types HO_4.out BK277.out (by decide)) (fun _ hk => hk.2) (.int .i64 a0)) (fun _ hk => hk.2) (.slice none 0 0)) (fun _ hk => ⟨hk.1, (by simp [Value.ownBlock])⟩)⟩, ⟨by (with_reducible repeat (first | apply Kd.R_alloc | apply Kd.R_drewN | apply Kd.R_drew)); exact Kd.R_mono (Kd.R_far (p := ⟨gb277, 1, none⟩) (Kd.R_far (p := ⟨gb277, 0, none⟩) (Kd.R_types HO_4.out BK277.out (by decide)) (fun _ hk => hk.2) (.int .i64 a0)) (fun _ hk => hk.2) (.slice none 0 0)) (fun _ hk => ⟨hk.1, (by simp [Value.ownBlock])⟩)⟩, ⟨by first | exact Kd.R_nil _ _ _ _ _ | exact Kd.N_nil _ _ _ _ _ | exact Kd.V_nil _ _ _ _ _ | exact Kd.Q_nil _ _ _ _ _ | exact Kd.S_nil _ _ _ _ _⟩, ⟨by (with_reducible repeat (first | refine blk_drewN ?_ _ | refine blk_drew ?_ | refine blk_alloc ?_ _)); refine blk_put (cs := #[.int .i64 a0, .slice none 0 0]) ?_ 1 _ rfl; (with_reducible repeat (first | refine blk_drewN ?_ _ | refine blk_drew ?_ | refine blk_alloc ?_ _)); refine blk_put (cs := #[.int .i64 0, .slice none 0 0]) ?_ 0 _ rfl; (with_reducible repeat (first | refine blk_drewN ?_ _ | refine blk_drew ?_ | refine blk_alloc ?_ _)); exact BK277.out⟩, ⟨hB⟩⟩
       case round =>
        clear H'
        try clear c1
        try clear c2
        try clear c2b0
        try clear p2
        try clear c3
        try clear c3b0
        try clear c4
        try clear p6
        try clear c7
        try clear c7b0
        try clear hcz10_0
        try clear hcz10_1
        try clear hfz10_0
        try clear hfz10_1
        try clear p2
        obtain ⟨x47_3, x278001_3, u278001, rfl, HA, HK3, HO_3, HO_4, HO_45, HO_278001, BK277, HB⟩ := hrel
        cases gk with
        | zero => exact absurd HA.out (by simp [spec_pzParties.l3])
        | succ k3 =>
         have H := HA.out
         clear HA
         simp only [spec_pzParties.l3] at H
         by_cases c11 : x47_3 < (x4_1.length : Int)
         ·rw [if_pos c11] at H
          have c11b0 : decide (x47_3 < (x4_1.length : Int)) = true := decide_eq_true c11
          clear c11
          by_cases c12 : 0 ≤ x47_3
          ·rw [if_pos c12] at H
           have c12b0 : decide (0 ≤ x47_3) = true := decide_eq_true c12
           clear c12
           by_cases c13 : x47_3 < (x4_1.length : Int)
           ·rw [if_pos c13] at H
            have c13b0 : decide (x47_3 < (x4_1.length : Int)) = true := decide_eq_true c13
            clear c13
            have c14b0 := eq_true (of_decide_eq_true (by first | (with_reducible assumption) | assumption) : 0 ≤ x47_3)
            obtain ⟨ji15, hji15⟩ : ∃ j_ : Int, (shr .i64 x7_2 x47_3) = j_ := ⟨_, rfl⟩
            replace H : (if (Int.tmod (ji15) 2) = 1 then (if x278001_3.length < 8796093022208 then (spec_pzParties.l3 k3 a0 x3_2 x4_1 x7_2 x4_1 (x4_1.length : Int) (wrap64 (x47_3 + 1)) a0 (x278001_3 ++ [(⟨(rd_T110 x4_1 x47_3).f0, (rd_T110 x4_1 x47_3).f1⟩ : S110)])) else (none)) else (spec_pzParties.l3 k3 a0 x3_2 x4_1 x7_2 x4_1 (x4_1.length : Int) (wrap64 (x47_3 + 1)) a0 x278001_3)) = some r := by first | (rw [hji15] at H; exact H) | (simp only [hji15] at H ⊢; exact H)
            have hji15_ : (x7_2 / 2 ^ min x47_3.toNat 64) = ji15 := hji15
            have hji15z : x47_3 ≤ 64 → (x7_2 / 2 ^ x47_3.toNat) = ji15 := shr_small hji15
            by_cases c16 : (Int.tmod (ji15) 2) = 1
            ·rw [if_pos c16] at H
             have c16b0 : ((Int.tmod (ji15) 2) == 1) = true := beq_iff_eq.mpr c16
             have c16b1 : ((Int.tmod (ji15) 2) != 1) = false := bne_eq_false_iff_eq.mpr c16
             clear c16
             by_cases c17 : x278001_3.length < 8796093022208
             ·rw [if_pos c17] at H
              have LMc17 := Aside0.mk c17
              clear c17
              obtain ⟨y280, hy280⟩ : ∃ y_ : List (S110), y_ = (x278001_3 ++ [(⟨(rd_T110 x4_1 x47_3).f0, (rd_T110 x4_1 x47_3).f1⟩ : S110)]) := ⟨_, rfl⟩
              replace H : (spec_pzParties.l3 k3 a0 x3_2 x4_1 x7_2 x4_1 (x4_1.length : Int) (wrap64 (x47_3 + 1)) a0 y280) = some r := by first | (rw [hy280]; with_reducible exact H) | (have H2_ := (Option.bind_some _ _).symm.trans H; rw [hy280]; with_reducible exact H2_) | (have H2_ := (Option.bind_some _ _).symm.trans H; with_reducible exact H2_) | with_reducible exact H | (rw [hy280]; exact H) | exact H
              have Ny280 := Aside0.mk hy280
              clear hy280
              have H' := Aside0.mk H
              clear H
              have p278 : 0 ≤ (x47_3 : Int) := of_decide_eq_true (by first | (with_reducible assumption) | assumption)
              have q278 : x47_3 < (x4_1.length : Int) := of_decide_eq_true (by first | (with_reducible assumption) | assumption)
              obtain ⟨ad278, e278, hx278_0, hx278_1⟩ := at_T110 (Kd.R_reads' HO_45.out).2.2 x47_3 p278 q278
              cases e278
              replace p278 := eq_true p278
              replace q278 := eq_true q278
              go_wp2_with (first | ((with_reducible refine gate_dst (N := 10) rfl ?_); refine box_event ?hg (N := 10) ?hd (cs := #[.int .i64 0, .int .i64 0]) (t := 110) ?hr ?_; (case hd => rfl); (case hg => rfl); (case hr => first | (go_simp; done) | (go_simp; rfl)); intro gb279 hg w18 hbox hb; have n0_ := Aside0.mk (Kd.N_below (Kd.N_elderB (by (with_reducible repeat (first | apply Kd.N_alloc | apply Kd.N_drewN | apply Kd.N_drew)); exact HO_3.out) gb279 (Nat.le_of_eq hg.symm)) hb); have n1_ := Aside0.mk (Kd.R_below (Kd.R_elderB (by (with_reducible repeat (first | apply Kd.R_alloc | apply Kd.R_drewN | apply Kd.R_drew)); exact HO_4.out) gb279 (Nat.le_of_eq hg.symm)) hb); have n2_ := Aside0.mk (Kd.R_below (Kd.R_elderB (by (with_reducible repeat (first | apply Kd.R_alloc | apply Kd.R_drewN | apply Kd.R_drew)); exact HO_45.out) gb279 (Nat.le_of_eq hg.symm)) hb); have n3_ := Aside0.mk (Kd.R_below (Kd.R_elderB (by (with_reducible repeat (first | apply Kd.R_alloc | apply Kd.R_drewN | apply Kd.R_drew)); exact HO_278001.out) gb279 (Nat.le_of_eq hg.symm)) hb); have n4_ := bS BK277 hb; have n5_ := hS HB hb; have n6_ := Aside0.mk (hbox); have n7_ := gS HB hg; have n8_ := gS HB hg; have n9_ := nL BK277 hg; have n10_ := nG BK277 hg; clear HO_3; clear HO_4; clear HO_45; clear HO_278001; clear BK277; clear HB; have HO_3 := n0_; have HO_4 := n1_; have HO_45 := n2_; have HO_278001 := n3_; have BK277 := n4_; have HB := n5_; have BK279 := n6_; have GW279 := n7_; have GE279 := n8_; have NB277_279 := n9_; have NB279_277 := n10_; clear n0_ n1_ n2_ n3_ n4_ n5_ n6_ n7_ n8_ n9_ n10_; clear hb hbox hg; have hnb19 := NB279_277.out; have hnc19 := NB277_279.out; have hcz20_0 : w18.cell? ⟨gb279, 0, none⟩ = some (.int .i64 0) := (blk_cell BK279.out 0).trans rfl; have hcz20_1 : w18.cell? ⟨gb279, 1, none⟩ = some (.int .i64 0) := (blk_cell BK279.out 1).trans rfl; have hfz20_0 := blk_frozen BK279.out 0; have hfz20_1 := blk_frozen BK279.out 1; have hcz21_0 : w18.cell? ⟨gb277, 0, none⟩ = some (.int .i64 a0) := (blk_cell BK277.out 0).trans rfl; have hcz21_1 : w18.cell? ⟨gb277, 1, none⟩ = some (u278001) := (blk_cell BK277.out 1).trans rfl; have hfz21_0 := blk_frozen BK277.out 0; have hfz21_1 := blk_frozen BK277.out 1) | ((with_reducible refine gate_builtin (b := .append) (xs := #[.tmp 58, .tmp 60]) rfl ?_); at_builtin; refine Kd.R_append k110 (w0 := w) w.heap.size rfl (.tmp 58) (.tmp 60) 32 110 (.agg #[(.int .i64 0), (.int .i64 0)]) 16 rfl Tryd.underlying32 info110 rfl (by decide) (by omega) u278001 x278001_3 (⟨(rd_T110 x4_1 x47_3).f0, (rd_T110 x4_1 x47_3).f1⟩ : S110) [.int .i64 ((rd_T110 x4_1 x47_3).f0), .int .i64 ((rd_T110 x4_1 x47_3).f1)] (fun k_ => (w.heap.size ≤ k_) ∧ some k_ ≠ (.slice (some ad278) x4_1.length co8 : Value).ownBlock ∧ some k_ ≠ (.slice (some ad278) x4_1.length co8 : Value).ownBlock ∧ k_ ≠ gb279) (fun _ => False) rfl (by first | (go_simp; done) | (go_simp; rfl)) ?aP (fun _ hk => hk.elim) ?aF ?aO ?aB ?aS ?aL ?_; (case aP => exact k110_mkM _ _ _ (⟨(rd_T110 x4_1 x47_3).f0, (rd_T110 x4_1 x47_3).f1⟩ : S110)); (case aB => exact hB); (case aF => exact (fun k_ hk => ⟨(Nat.le_trans (below_size hB) hk), Kd.fresh' (Kd.R_lt (by (with_reducible repeat (first | apply Kd.R_alloc | apply Kd.R_drewN | apply Kd.R_drew)); exact (Kd.R_mono (Kd.R_far (p := ⟨gb279, 1, none⟩) (Kd.R_far (p := ⟨gb279, 0, none⟩) (Kd.R_mono HO_4.out (fun k_ hk => (⟨hk, hk.2⟩ : _ ∧ k_ ≠ gb279))) (fun _ hk => hk.2) (.int .i64 ((rd_T110 x4_1 x47_3).f0))) (fun _ hk => hk.2) (.int .i64 ((rd_T110 x4_1 x47_3).f1))) (fun _ h_ => h_.1)))) k_ hk, Kd.fresh' (Kd.R_lt (by (with_reducible repeat (first | apply Kd.R_alloc | apply Kd.R_drewN | apply Kd.R_drew)); exact (Kd.R_mono (Kd.R_far (p := ⟨gb279, 1, none⟩) (Kd.R_far (p := ⟨gb279, 0, none⟩) (Kd.R_mono HO_45.out (fun k_ hk => (⟨hk, hk.2⟩ : _ ∧ k_ ≠ gb279))) (fun _ hk => hk.2) (.int .i64 ((rd_T110 x4_1 x47_3).f0))) (fun _ hk => hk.2) (.int .i64 ((rd_T110 x4_1 x47_3).f1))) (fun _ h_ => h_.1)))) k_ hk, Kd.freshB (g := gb279) (o := .cells #[.int .i64 ((rd_T110 x4_1 x47_3).f0), .int .i64 ((rd_T110 x4_1 x47_3).f1)] 110 (0, 0)) (by (with_reducible repeat (first | refine blk_drewN ?_ _ | refine blk_drew ?_ | refine blk_alloc ?_ _)); refine blk_put (cs := #[.int .i64 ((rd_T110 x4_1 x47_3).f0), .int .i64 0]) ?_ 1 _ rfl; (with_reducible repeat (first | refine blk_drewN ?_ _ | refine blk_drew ?_ | refine blk_alloc ?_ _)); refine blk_put (cs := #[.int .i64 0, .int .i64 0]) ?_ 0 _ rfl; (with_reducible repeat (first | refine blk_drewN ?_ _ | refine blk_drew ?_ | refine blk_alloc ?_ _)); exact BK279.out) k_ hk⟩)); (case aO => exact (by (with_reducible repeat (first | apply Kd.R_alloc | apply Kd.R_drewN | apply Kd.R_drew)); exact Kd.R_mono (Kd.R_far (p := ⟨gb279, 1, none⟩) (Kd.R_far (p := ⟨gb279, 0, none⟩) (Kd.R_mono HO_278001.out (fun k_ hk => (⟨hk, hk.2⟩ : _ ∧ k_ ≠ gb279))) (fun _ hk => hk.2) (.int .i64 ((rd_T110 x4_1 x47_3).f0))) (fun _ hk => hk.2) (.int .i64 ((rd_T110 x4_1 x47_3).f1))) (fun _ hk => ⟨hk.1.1.1, ⟨hk.1.1.2.1, ⟨hk.1.1.2.2, hk.1.2⟩⟩⟩))); (case aS => exact (below_size hB)); (case aL => have := LMc17.out; omega); intro v281 w22 ho hb hg hat; rw [← Ny280.out] at ho; have n0_ := Aside0.mk (Kd.N_afterv (ok := (fun k_ => (w.heap.size ≤ k_) ∧ some k_ ≠ (.slice (some ad278) x4_1.length co8 : Value).ownBlock ∧ some k_ ≠ (.slice (some ad278) x4_1.length co8 : Value).ownBlock ∧ k_ ≠ gb277 ∧ k_ ≠ gb279)) (by (with_reducible repeat (first | apply Kd.N_alloc | apply Kd.N_drewN | apply Kd.N_drew)); exact Kd.N_mono (Kd.N_far (p := ⟨gb279, 1, none⟩) (Kd.N_far (p := ⟨gb279, 0, none⟩) (Kd.N_mono HO_3.out (fun k_ hk => (⟨hk, hk.2⟩ : _ ∧ k_ ≠ gb279))) (fun _ hk => hk.2) (.int .i64 ((rd_T110 x4_1 x47_3).f0))) (fun _ hk => hk.2) (.int .i64 ((rd_T110 x4_1 x47_3).f1))) (fun _ hk => ⟨⟨hk.1.1.1, ⟨hk.1.1.2.1, ⟨hk.1.1.2.2.1, ⟨hk.1.1.2.2.2.2, hk.1.2⟩⟩⟩⟩, hk.1.1.2.2.2.1⟩)) hg hat); have n1_ := Aside0.mk (Kd.R_after (ok := (fun k_ => (w.heap.size ≤ k_) ∧ k_ ≠ gb279)) (by (with_reducible repeat (first | apply Kd.R_alloc | apply Kd.R_drewN | apply Kd.R_drew)); exact Kd.R_mono (Kd.R_far (p := ⟨gb279, 1, none⟩) (Kd.R_far (p := ⟨gb279, 0, none⟩) (Kd.R_mono HO_4.out (fun k_ hk => (⟨hk, hk.2⟩ : _ ∧ k_ ≠ gb279))) (fun _ hk => hk.2) (.int .i64 ((rd_T110 x4_1 x47_3).f0))) (fun _ hk => hk.2) (.int .i64 ((rd_T110 x4_1 x47_3).f1))) (fun _ hk => ⟨⟨hk.1.1.1, hk.1.2⟩, hk.1.1.2⟩)) hg hat); have n2_ := Aside0.mk (Kd.R_after (ok := (fun k_ => (w.heap.size ≤ k_) ∧ k_ ≠ gb279)) (by (with_reducible repeat (first | apply Kd.R_alloc | apply Kd.R_drewN | apply Kd.R_drew)); exact Kd.R_mono (Kd.R_far (p := ⟨gb279, 1, none⟩) (Kd.R_far (p := ⟨gb279, 0, none⟩) (Kd.R_mono HO_45.out (fun k_ hk => (⟨hk, hk.2⟩ : _ ∧ k_ ≠ gb279))) (fun _ hk => hk.2) (.int .i64 ((rd_T110 x4_1 x47_3).f0))) (fun _ hk => hk.2) (.int .i64 ((rd_T110 x4_1 x47_3).f1))) (fun _ hk => ⟨⟨hk.1.1.1, hk.1.2⟩, hk.1.1.2⟩)) hg hat); have n3_ := Aside0.mk (blk_grown (g := gb277) (o := .cells #[.int .i64 a0, u278001] 34 (0, 0)) (by (with_reducible repeat (first | refine blk_drewN ?_ _ | refine blk_drew ?_ | refine blk_alloc ?_ _)); refine blk_far ?_ NB277_279.out _; (with_reducible repeat (first | refine blk_drewN ?_ _ | refine blk_drew ?_ | refine blk_alloc ?_ _)); refine blk_far ?_ NB277_279.out _; (with_reducible repeat (first | refine blk_drewN ?_ _ | refine blk_drew ?_ | refine blk_alloc ?_ _)); exact BK277.out) hg (Kd.R_ne HO_278001.out BK277.out (by decide))); have n4_ := Aside0.mk (blk_grown (g := gb279) (o := .cells #[.int .i64 ((rd_T110 x4_1 x47_3).f0), .int .i64 ((rd_T110 x4_1 x47_3).f1)] 110 (0, 0)) (by (with_reducible repeat (first | refine blk_drewN ?_ _ | refine blk_drew ?_ | refine blk_alloc ?_ _)); refine blk_put (cs := #[.int .i64 ((rd_T110 x4_1 x47_3).f0), .int .i64 0]) ?_ 1 _ rfl; (with_reducible repeat (first | refine blk_drewN ?_ _ | refine blk_drew ?_ | refine blk_alloc ?_ _)); refine blk_put (cs := #[.int .i64 0, .int .i64 0]) ?_ 0 _ rfl; (with_reducible repeat (first | refine blk_drewN ?_ _ | refine blk_drew ?_ | refine blk_alloc ?_ _)); exact BK279.out) hg (Kd.R_away HO_278001.out (fun _ hk => hk.2))); have n5_ := Aside0.mk (hb); have n6_ := Aside0.mk (ho); clear HO_3; clear HO_4; clear HO_45; clear BK277; clear BK279; clear HB; clear HO_278001; have HO_3 := n0_; have HO_4 := n1_; have HO_45 := n2_; have BK277 := n3_; have BK279 := n4_; have HB := n5_; have HO282 := n6_; clear n0_ n1_ n2_ n3_ n4_ n5_ n6_; clear ho hb hg hat; obtain ⟨Ao23, co23, eo23⟩ := Kd.R_slice HO282.out; subst eo23; have hcz24_0 : w22.cell? ⟨gb277, 0, none⟩ = some (.int .i64 a0) := (blk_cell BK277.out 0).trans rfl; have hcz24_1 : w22.cell? ⟨gb277, 1, none⟩ = some (u278001) := (blk_cell BK277.out 1).trans rfl; have hfz24_0 := blk_frozen BK277.out 0; have hfz24_1 := blk_frozen BK277.out 1))
              go_roundg k3
              case measure => have := HK1.out; have := HK2.out; have := HK3.out; omega
              case rel => exact ⟨(wrap64 (x47_3 + 1)), (y280), (.slice Ao23 y280.length co23), (by first | rfl | (simp; done) | (simp [*]; done)), H', ⟨by have := HK1.out; have := HK2.out; have := HK3.out; omega⟩, ⟨by (with_reducible repeat (first | apply Kd.N_alloc | apply Kd.N_drewN | apply Kd.N_drew)); exact Kd.N_mono (Kd.N_far (p := ⟨gb277, 1, none⟩) (Kd.N_mono HO_3.out (fun k_ hk => (⟨hk, hk.1.2.2.2.1⟩ : _ ∧ k_ ≠ gb277))) (fun _ hk => hk.2) (.slice Ao23 y280.length co23)) (fun _ hk => ⟨hk.1.1.1, ⟨hk.1.1.2.1, ⟨hk.1.1.2.2.1, ⟨hk.1.2, hk.1.1.2.2.2.1⟩⟩⟩⟩)⟩, ⟨by (with_reducible repeat (first | apply Kd.R_alloc | apply Kd.R_drewN | apply Kd.R_drew)); exact Kd.R_mono (Kd.R_far (p := ⟨gb277, 1, none⟩) (Kd.R_types HO_4.out BK277.out (by decide)) (fun _ hk => hk.2) (.slice Ao23 y280.length co23)) (fun _ hk => ⟨hk.1.1.1, hk.1.2⟩)⟩, ⟨by (with_reducible repeat (first | apply Kd.R_alloc | apply Kd.R_drewN | apply Kd.R_drew)); exact Kd.R_mono (Kd.R_far (p := ⟨gb277, 1, none⟩) (Kd.R_types HO_45.out BK277.out (by decide)) (fun _ hk => hk.2) (.slice Ao23 y280.length co23)) (fun _ hk => ⟨hk.1.1.1, hk.1.2⟩)⟩, ⟨by (with_reducible repeat (first | apply Kd.R_alloc | apply Kd.R_drewN | apply Kd.R_drew)); exact Kd.R_mono (Kd.R_far (p := ⟨gb277, 1, none⟩) (Kd.R_types HO282.out BK277.out (by decide)) (fun _ hk => hk.2) (.slice Ao23 y280.length co23)) (fun _ hk => ⟨hk.1.1, ⟨hk.1.2.1, hk.1.2.2.1⟩⟩)⟩, ⟨by (with_reducible repeat (first | refine blk_drewN ?_ _ | refine blk_drew ?_ | refine blk_alloc ?_ _)); refine blk_put (cs := #[.int .i64 a0, u278001]) ?_ 1 _ rfl; (with_reducible repeat (first | refine blk_drewN ?_ _ | refine blk_drew ?_ | refine blk_alloc ?_ _)); exact BK277.out⟩, ⟨hB⟩⟩
             ·rw [if_neg c17] at H
              exact absurd H (by simp)
            ·rw [if_neg c16] at H
             have c16b0 : ((Int.tmod (ji15) 2) == 1) = false := beq_eq_false_iff_ne.mpr c16
             have c16b1 : ((Int.tmod (ji15) 2) != 1) = true := bne_iff_ne.mpr c16
             have H' := Aside0.mk H
             clear H
             have p278 : 0 ≤ (x47_3 : Int) := of_decide_eq_true (by first | (with_reducible assumption) | assumption)
             have q278 : x47_3 < (x4_1.length : Int) := of_decide_eq_true (by first | (with_reducible assumption) | assumption)
             obtain ⟨ad278, e278, hx278_0, hx278_1⟩ := at_T110 (Kd.R_reads' HO_45.out).2.2 x47_3 p278 q278
             cases e278
             replace p278 := eq_true p278
             replace q278 := eq_true q278
             go_wp2_with (first | ((with_reducible refine gate_dst (N := 10) rfl ?_); refine box_event ?hg (N := 10) ?hd (cs := #[.int .i64 0, .int .i64 0]) (t := 110) ?hr ?_; (case hd => rfl); (case hg => rfl); (case hr => first | (go_simp; done) | (go_simp; rfl)); intro gb279 hg w25 hbox hb; have n0_ := Aside0.mk (Kd.N_below (Kd.N_elderB (by (with_reducible repeat (first | apply Kd.N_alloc | apply Kd.N_drewN | apply Kd.N_drew)); exact HO_3.out) gb279 (Nat.le_of_eq hg.symm)) hb); have n1_ := Aside0.mk (Kd.R_below (Kd.R_elderB (by (with_reducible repeat (first | apply Kd.R_alloc | apply Kd.R_drewN | apply Kd.R_drew)); exact HO_4.out) gb279 (Nat.le_of_eq hg.symm)) hb); have n2_ := Aside0.mk (Kd.R_below (Kd.R_elderB (by (with_reducible repeat (first | apply Kd.R_alloc | apply Kd.R_drewN | apply Kd.R_drew)); exact HO_45.out) gb279 (Nat.le_of_eq hg.symm)) hb); have n3_ := Aside0.mk (Kd.R_below (Kd.R_elderB (by (with_reducible repeat (first | apply Kd.R_alloc | apply Kd.R_drewN | apply Kd.R_drew)); exact HO_278001.out) gb279 (Nat.le_of_eq hg.symm)) hb); have n4_ := bS BK277 hb; have n5_ := hS HB hb; have n6_ := Aside0.mk (hbox); have n7_ := gS HB hg; have n8_ := gS HB hg; have n9_ := nL BK277 hg; have n10_ := nG BK277 hg; clear HO_3; clear HO_4; clear HO_45; clear HO_278001; clear BK277; clear HB; have HO_3 := n0_; have HO_4 := n1_; have HO_45 := n2_; have HO_278001 := n3_; have BK277 := n4_; have HB := n5_; have BK279 := n6_; have GW279 := n7_; have GE279 := n8_; have NB277_279 := n9_; have NB279_277 := n10_; clear n0_ n1_ n2_ n3_ n4_ n5_ n6_ n7_ n8_ n9_ n10_; clear hb hbox hg; have hnb26 := NB279_277.out; have hnc26 := NB277_279.out; have hcz27_0 : w25.cell? ⟨gb279, 0, none⟩ = some (.int .i64 0) := (blk_cell BK279.out 0).trans rfl; have hcz27_1 : w25.cell? ⟨gb279, 1, none⟩ = some (.int .i64 0) := (blk_cell BK279.out 1).trans rfl; have hfz27_0 := blk_frozen BK279.out 0; have hfz27_1 := blk_frozen BK279.out 1))
             go_roundg k3
             case measure => have := HK1.out; have := HK2.out; have := HK3.out; omega
             case rel => exact ⟨(wrap64 (x47_3 + 1)), (x278001_3), (u278001), (by first | rfl | (simp; done) | (simp [*]; done)), H', ⟨by have := HK1.out; have := HK2.out; have := HK3.out; omega⟩, ⟨by (with_reducible repeat (first | apply Kd.N_alloc | apply Kd.N_drewN | apply Kd.N_drew)); exact Kd.N_mono (Kd.N_far (p := ⟨gb279, 1, none⟩) (Kd.N_far (p := ⟨gb279, 0, none⟩) (Kd.N_mono HO_3.out (fun k_ hk => (⟨hk, hk.2⟩ : _ ∧ k_ ≠ gb279))) (fun _ hk => hk.2) (.int .i64 ((rd_T110 x4_1 x47_3).f0))) (fun _ hk => hk.2) (.int .i64 ((rd_T110 x4_1 x47_3).f1))) (fun _ hk => ⟨hk.1.1.1, ⟨hk.1.1.2.1, ⟨hk.1.1.2.2.1, ⟨hk.1.1.2.2.2.1, hk.1.1.2.2.2.2⟩⟩⟩⟩)⟩, ⟨by (with_reducible repeat (first | apply Kd.R_alloc | apply Kd.R_drewN | apply Kd.R_drew)); exact Kd.R_mono (Kd.R_far (p := ⟨gb279, 1, none⟩) (Kd.R_far (p := ⟨gb279, 0, none⟩) (Kd.R_mono HO_4.out (fun k_ hk => (⟨hk, hk.2⟩ : _ ∧ k_ ≠ gb279))) (fun _ hk => hk.2) (.int .i64 ((rd_T110 x4_1 x47_3).f0))) (fun _ hk => hk.2) (.int .i64 ((rd_T110 x4_1 x47_3).f1))) (fun _ hk => ⟨hk.1.1.1, hk.1.1.2⟩)⟩, ⟨by (with_reducible repeat (first | apply Kd.R_alloc | apply Kd.R_drewN | apply Kd.R_drew)); exact Kd.R_mono (Kd.R_far (p := ⟨gb279, 1, none⟩) (Kd.R_far (p := ⟨gb279, 0, none⟩) (Kd.R_mono HO_45.out (fun k_ hk => (⟨hk, hk.2⟩ : _ ∧ k_ ≠ gb279))) (fun _ hk => hk.2) (.int .i64 ((rd_T110 x4_1 x47_3).f0))) (fun _ hk => hk.2) (.int .i64 ((rd_T110 x4_1 x47_3).f1))) (fun _ hk => ⟨hk.1.1.1, hk.1.1.2⟩)⟩, ⟨by (with_reducible repeat (first | apply Kd.R_alloc | apply Kd.R_drewN | apply Kd.R_drew)); exact Kd.R_mono (Kd.R_far (p := ⟨gb279, 1, none⟩) (Kd.R_far (p := ⟨gb279, 0, none⟩) (Kd.R_mono HO_278001.out (fun k_ hk => (⟨hk, hk.2⟩ : _ ∧ k_ ≠ gb279))) (fun _ hk => hk.2) (.int .i64 ((rd_T110 x4_1 x47_3).f0))) (fun _ hk => hk.2) (.int .i64 ((rd_T110 x4_1 x47_3).f1))) (fun _ hk => ⟨hk.1.1.1, ⟨hk.1.1.2.1, hk.1.1.2.2⟩⟩)⟩, ⟨by (with_reducible repeat (first | refine blk_drewN ?_ _ | refine blk_drew ?_ | refine blk_alloc ?_ _)); refine blk_far ?_ NB277_279.out _; (with_reducible repeat (first | refine blk_drewN ?_ _ | refine blk_drew ?_ | refine blk_alloc ?_ _)); refine blk_far ?_ NB277_279.out _; (with_reducible repeat (first | refine blk_drewN ?_ _ | refine blk_drew ?_ | refine blk_alloc ?_ _)); exact BK277.out⟩, ⟨hB⟩⟩
           ·rw [if_neg c13] at H
            exact absurd H (by simp)
          ·rw [if_neg c12] at H
           exact absurd H (by simp)
         ·rw [if_neg c11] at H
          have c11b0 : decide (x47_3 < (x4_1.length : Int)) = false := decide_eq_false c11
          clear c11
          by_cases c28 : x3_2.length < 4398046511104
          ·rw [if_pos c28] at H
           have LMc28 := Aside0.mk c28
           clear c28
           obtain ⟨y283, hy283⟩ : ∃ y_ : List (S34), y_ = (x3_2 ++ [(⟨a0, x278001_3⟩ : S34)]) := ⟨_, rfl⟩
           replace H : (spec_pzParties.l2 k3 a0 y283 x4_1 (wrap64 (x7_2 + 1))) = some r := by first | (rw [hy283]; with_reducible exact H) | (have H2_ := (Option.bind_some _ _).symm.trans H; rw [hy283]; with_reducible exact H2_) | (have H2_ := (Option.bind_some _ _).symm.trans H; with_reducible exact H2_) | with_reducible exact H | (rw [hy283]; exact H) | exact H
           have Ny283 := Aside0.mk hy283
           clear hy283
           have H' := Aside0.mk H
           clear H
           have hcz29_0 : wr.cell? ⟨gb277, 0, none⟩ = some (.int .i64 a0) := (blk_cell BK277.out 0).trans rfl
           have hcz29_1 : wr.cell? ⟨gb277, 1, none⟩ = some (u278001) := (blk_cell BK277.out 1).trans rfl
           have hfz29_0 := blk_frozen BK277.out 0
           have hfz29_1 := blk_frozen BK277.out 1
           obtain ⟨Ao31, co31, eo31⟩ := Kd.R_slice HO_278001.out
           subst eo31
           go_wp2_with (first | ((with_reducible refine gate_builtin (b := .append) (xs := #[.tmp 64, .tmp 66]) rfl ?_); at_builtin; refine Kd.N_append k34 (w0 := w) w.heap.size rfl (.tmp 64) (.tmp 66) 64 34 (.agg #[(.int .i64 0), (.slice none 0 0)]) 32 rfl Tryd.underlying64 info34 rfl (by decide) (by omega) u3 x3_2 (⟨a0, x278001_3⟩ : S34) [.int .i64 a0, .slice Ao31 x278001_3.length co31] (fun k_ => (w.heap.size ≤ k_) ∧ some k_ ≠ (.slice Ao8 x4_1.length co8 : Value).ownBlock ∧ some k_ ≠ (.slice Ao8 x4_1.length co8 : Value).ownBlock ∧ k_ ≠ gb277) (fun k_ => ((fun k_ => (w.heap.size ≤ k_) ∧ some k_ ≠ (.slice Ao8 x4_1.length co8 : Value).ownBlock ∧ some k_ ≠ (.slice Ao8 x4_1.length co8 : Value).ownBlock ∧ k_ ≠ gb277)) k_ ∧ some k_ ≠ (u3 : Value).ownBlock) rfl rfl ?aP (fun _ hk => hk) ?aF ?aO ?aB ?aS ?aL ?_; (case aP => exact (k34_mkF _ _ (⟨a0, x278001_3⟩ : S34) (Kd.R_reads' (Kd.R_mono (ok' := (fun k_ => ((fun k_ => (w.heap.size ≤ k_) ∧ some k_ ≠ (.slice Ao8 x4_1.length co8 : Value).ownBlock ∧ some k_ ≠ (.slice Ao8 x4_1.length co8 : Value).ownBlock ∧ k_ ≠ gb277)) k_ ∧ some k_ ≠ (u3 : Value).ownBlock)) (Kd.R_types (Kd.R_apart' (HO_278001.out) (Kd.N_typed HO_3.out) (by decide)) BK277.out (by decide)) (fun k_ hk => ⟨⟨hk.1.1.1, ⟨hk.1.1.2.1, ⟨hk.1.1.2.2, hk.2⟩⟩⟩, hk.1.2⟩))).2.1 (Kd.R_F (Kd.R_mono (ok' := (fun k_ => ((fun k_ => (w.heap.size ≤ k_) ∧ some k_ ≠ (.slice Ao8 x4_1.length co8 : Value).ownBlock ∧ some k_ ≠ (.slice Ao8 x4_1.length co8 : Value).ownBlock ∧ k_ ≠ gb277)) k_ ∧ some k_ ≠ (u3 : Value).ownBlock)) (Kd.R_types (Kd.R_apart' (HO_278001.out) (Kd.N_typed HO_3.out) (by decide)) BK277.out (by decide)) (fun k_ hk => ⟨⟨hk.1.1.1, ⟨hk.1.1.2.1, ⟨hk.1.1.2.2, hk.2⟩⟩⟩, hk.1.2⟩))))); (case aB => exact hB); (case aF => exact (fun k_ hk => ⟨(Nat.le_trans (below_size hB) hk), Kd.fresh' (Kd.R_lt (by (with_reducible repeat (first | apply Kd.R_alloc | apply Kd.R_drewN | apply Kd.R_drew)); exact HO_4.out)) k_ hk, Kd.fresh' (Kd.R_lt (by (with_reducible repeat (first | apply Kd.R_alloc | apply Kd.R_drewN | apply Kd.R_drew)); exact HO_45.out)) k_ hk, Kd.freshB (g := gb277) (o := .cells #[.int .i64 a0, .slice Ao31 x278001_3.length co31] 34 (0, 0)) bK k_ hk⟩)); (case aO => exact (by (with_reducible repeat (first | apply Kd.N_alloc | apply Kd.N_drewN | apply Kd.N_drew)); exact Kd.N_mono HO_3.out (fun _ hk => ⟨hk.1, ⟨hk.2.1, ⟨hk.2.2.1, hk.2.2.2.2⟩⟩⟩))); (case aS => exact (below_size hB)); (case aL => have := LMc28.out; omega); intro v284 w30 ho hb hg hat; rw [← Ny283.out] at ho; have n0_ := Aside0.mk (Kd.R_over' (by (with_reducible repeat (first | apply Kd.R_alloc | apply Kd.R_drewN | apply Kd.R_drew)); exact HO_4.out) (Kd.N_typed (by (with_reducible repeat (first | apply Kd.N_alloc | apply Kd.N_drewN | apply Kd.N_drew)); exact HO_3.out)) (by decide) hg); have n1_ := Aside0.mk (Kd.R_over' (by (with_reducible repeat (first | apply Kd.R_alloc | apply Kd.R_drewN | apply Kd.R_drew)); exact HO_45.out) (Kd.N_typed (by (with_reducible repeat (first | apply Kd.N_alloc | apply Kd.N_drewN | apply Kd.N_drew)); exact HO_3.out)) (by decide) hg); have n2_ := Aside0.mk (blk_grown (g := gb277) (o := .cells #[.int .i64 a0, .slice Ao31 x278001_3.length co31] 34 (0, 0)) bK hg (Kd.N_away HO_3.out (fun _ hk => hk.2.2.2.2))); have n3_ := Aside0.mk (hb); have n4_ := Aside0.mk (ho); clear HO_4; clear HO_45; clear BK277; clear HB; clear HO_3; clear HO_278001; have HO_4 := n0_; have HO_45 := n1_; have BK277 := n2_; have HB := n3_; have HO285 := n4_; clear n0_ n1_ n2_ n3_ n4_; clear ho hb hg hat))
           go_roundg k3
           case measure => have := HK1.out; have := HK2.out; have := HK3.out; omega
           case rel => exact ⟨(y283), (wrap64 (x7_2 + 1)), (by first | rfl | (simp; done) | (simp [*]; done)), H', ⟨by have := HK1.out; have := HK2.out; have := HK3.out; omega⟩, ⟨by (with_reducible repeat (first | apply Kd.N_alloc | apply Kd.N_drewN | apply Kd.N_drew)); exact Kd.N_mono HO285.out (fun _ hk => ⟨hk.1, hk.2.1⟩)⟩, ⟨by (with_reducible repeat (first | apply Kd.R_alloc | apply Kd.R_drewN | apply Kd.R_drew)); exact Kd.R_mono HO_4.out (fun _ hk => hk.1)⟩, ⟨hB⟩⟩
          ·rw [if_neg c28] at H
           exact absurd H (by simp)
      ·rw [if_neg c7] at H
       have c7b0 : decide (x7_2 < (ji6)) = false := decide_eq_false c7
       clear c7
       have H' := Aside0.mk H
       clear H
       obtain ⟨Ao32, co32, eo32⟩ := Kd.R_slice HO_4.out
       subst eo32
       go_wp2
       go_loopg [3, 11] k2 (fun kq v3 v11 w' => ∃ (x3_3 : List (S34)) (x11_3 : Int), v11 = .int .i64 x11_3 ∧ Aside0 (spec_pzParties.l4 kq x3_3 x11_3 = some r) ∧ Aside0 (kq ≤ k2) ∧ Aside0 (Kd.N k34 34 w' w.heap.size (fun k_ => (w.heap.size ≤ k_)) v3 x3_3) ∧ Aside0 (Below w.heap.size w w'))
       case atStart => exact ⟨(x3_2), (1), (by first | rfl | (simp; done) | (simp [*]; done)), H', ⟨Nat.le_refl _⟩, ⟨by (with_reducible repeat (first | apply Kd.N_alloc | apply Kd.N_drewN | apply Kd.N_drew)); exact Kd.N_mono HO_3.out (fun _ hk => hk.1)⟩, ⟨hB⟩⟩
       case round =>
        clear H'
        try clear c1
        try clear c2
        try clear c2b0
        try clear p2
        try clear q2
        try clear hx2
        try clear c3
        try clear c3b0
        try clear c4
        try clear p6
        try clear c7
        try clear c7b0
        try clear c11
        try clear c11b0
        try clear c12
        try clear c12b0
        try clear c13
        try clear c13b0
        try clear c14
        try clear c14b0
        try clear c16
        try clear c16b0
        try clear c16b1
        try clear c17
        try clear c19
        try clear c26
        try clear p27
        try clear q27
        try clear hx27
        try clear c28
        try clear hcz10_0
        try clear hcz10_1
        try clear hcz20_0
        try clear hcz20_1
        try clear hcz21_0
        try clear hcz21_1
        try clear hcz24_0
        try clear hcz24_1
        try clear hcz27_0
        try clear hcz27_1
        try clear hcz29_0
        try clear hcz29_1
        try clear hfz10_0
        try clear hfz10_1
        try clear hfz20_0
        try clear hfz20_1
        try clear hfz21_0
        try clear hfz21_1
        try clear hfz24_0
        try clear hfz24_1
        try clear hfz27_0
        try clear hfz27_1
        try clear hfz29_0
        try clear hfz29_1
        try clear hx278_0
        try clear hx278_1
        try clear p2
        try clear p278
        try clear p6
        try clear q278
        obtain ⟨x3_3, x11_3, rfl, HA, HK3, HO_3, HB⟩ := hrel
        cases gk with
        | zero => exact absurd HA.out (by simp [spec_pzParties.l4])
        | succ k3 =>
         have H := HA.out
         clear HA
         simp only [spec_pzParties.l4] at H
         by_cases c33 : x11_3 < (x3_3.length : Int)
         ·rw [if_pos c33] at H
          have c33b0 : decide (x11_3 < (x3_3.length : Int)) = true := decide_eq_true c33
          clear c33
          have H' := Aside0.mk H
          clear H
          obtain ⟨Ao34, co34, eo34⟩ := Kd.N_slice HO_3.out
          subst eo34
          go_wp2
          go_loopg [12, 13] k3 (fun kq v12 v13 w' => ∃ (x12_4 : List (S34)) (x13_4 : Int), v13 = .int .i64 x13_4 ∧ Aside0 (spec_pzParties.l5 kq x3_3 x11_3 x12_4 x13_4 = some r) ∧ Aside0 (kq ≤ k3) ∧ Aside0 (Kd.N k34 34 w' w.heap.size (fun k_ => (w.heap.size ≤ k_) ∧ some k_ ≠ (v12 : Value).ownBlock) (.slice Ao34 x3_3.length co34) x3_3) ∧ Aside0 (Kd.N k34 34 w' w.heap.size (fun k_ => (w.heap.size ≤ k_) ∧ some k_ ≠ ((.slice Ao34 x3_3.length co34) : Value).ownBlock) v12 x12_4) ∧ Aside0 (Below w.heap.size w w'))
          case atStart => exact ⟨(([] : List (S34))), (0), (by first | rfl | (simp; done) | (simp [*]; done)), H', ⟨Nat.le_refl _⟩, ⟨by (with_reducible repeat (first | apply Kd.N_alloc | apply Kd.N_drewN | apply Kd.N_drew)); exact Kd.N_mono HO_3.out (fun _ hk => ⟨hk, (by simp [Value.ownBlock])⟩)⟩, ⟨by first | exact Kd.S_nil _ _ _ _ _ | exact Kd.N_nil _ _ _ _ _ | exact Kd.V_nil _ _ _ _ _ | exact Kd.Q_nil _ _ _ _ _ | exact Kd.R_nil _ _ _ _ _⟩, ⟨hB⟩⟩
          case round =>
           clear H'
           try clear c1
           try clear c2
           try clear c2b0
           try clear p2
           try clear q2
           try clear hx2
           try clear c3
           try clear c3b0
           try clear c4
           try clear p6
           try clear c7
           try clear c7b0
           try clear c11
           try clear c11b0
           try clear c12
           try clear c12b0
           try clear c13
           try clear c13b0
           try clear c14
           try clear c14b0
           try clear c16
           try clear c16b0
           try clear c16b1
           try clear c17
           try clear c19
           try clear c26
           try clear p27
           try clear q27
           try clear hx27
           try clear c28
           try clear c33
           try clear c33b0
           try clear hcz10_0
           try clear hcz10_1
           try clear hcz20_0
           try clear hcz20_1
           try clear hcz21_0
           try clear hcz21_1
           try clear hcz24_0
           try clear hcz24_1
           try clear hcz27_0
           try clear hcz27_1
           try clear hcz29_0
           try clear hcz29_1
           try clear hfz10_0
           try clear hfz10_1
           try clear hfz20_0
           try clear hfz20_1
           try clear hfz21_0
           try clear hfz21_1
           try clear hfz24_0
           try clear hfz24_1
           try clear hfz27_0
           try clear hfz27_1
           try clear hfz29_0
           try clear hfz29_1
           try clear hx278_0
           try clear hx278_1
           try clear p2
           try clear p27
           try clear p278
           try clear p6
           try clear q2
           try clear q27
           try clear q278
           obtain ⟨x12_4, x13_4, rfl, HA, HK4, HO_3, HO_12, HB⟩ := hrel
           cases gk with
           | zero => exact absurd HA.out (by simp [spec_pzParties.l5])
           | succ k4 =>
            have H := HA.out
            clear HA
            simp only [spec_pzParties.l5] at H
            by_cases c35 : x13_4 < (x3_3.length : Int)
            ·rw [if_pos c35] at H
             have c35b0 : decide (x13_4 < (x3_3.length : Int)) = true := decide_eq_true c35
             clear c35
             replace H := Option.bind_eq_some_iff.mp H
             obtain ⟨t286, A360, H⟩ := H
             replace H : ((spec_l1Least.f (wrap64 (x13_4 + (wrap64 (2 * x11_3)))) (x3_3.length : Int)).bind fun t287 => (spec_pzParties.l6 k4 x3_3 x11_3 x12_4 x13_4 t286 t287 x13_4 t286)) = some r := H
             have A36 := Aside0.mk A360
             clear A360
             replace H := Option.bind_eq_some_iff.mp H
             obtain ⟨t287, A370, H⟩ := H
             replace H : (spec_pzParties.l6 k4 x3_3 x11_3 x12_4 x13_4 t286 t287 x13_4 t286) = some r := H
             have A37 := Aside0.mk A370
             clear A370
             have H' := Aside0.mk H
             clear H
             go_wp2_with (first | ((with_reducible refine gate_callee (f := 68) rfl ?_); refine goesL_ (some 87) rfl rfl Tryd.func68 (by kernel_rfl) rfl #[.int .i64 (wrap64 (x13_4 + x11_3)), .int .i64 (x3_3.length : Int)] rfl mapT ?_; (with_reducible refine (spec_l1Least.calls (wrap64 (x13_4 + x11_3)) (x3_3.length : Int) t286 _ A36.out).mono ?_); rintro e w' ⟨rfl, ⟨nd, rfl⟩⟩; refine ⟨_, rfl, ?_⟩) | ((with_reducible refine gate_callee (f := 68) rfl ?_); refine goesL_ (some 94) rfl rfl Tryd.func68 (by kernel_rfl) rfl #[.int .i64 (wrap64 (x13_4 + (wrap64 (2 * x11_3)))), .int .i64 (x3_3.length : Int)] rfl mapT ?_; (with_reducible refine (spec_l1Least.calls (wrap64 (x13_4 + (wrap64 (2 * x11_3)))) (x3_3.length : Int) t287 _ A37.out).mono ?_); rintro e w' ⟨rfl, ⟨nd, rfl⟩⟩; refine ⟨_, rfl, ?_⟩))
             go_loopg [12, 16, 17] k4 (fun kq v12 v16 v17 w' => ∃ (x12_5 : List (S34)) (x16_5 : Int) (x17_5 : Int), v16 = .int .i64 x16_5 ∧ v17 = .int .i64 x17_5 ∧ Aside0 (spec_pzParties.l6 kq x3_3 x11_3 x12_5 x13_4 t286 t287 x16_5 x17_5 = some r) ∧ Aside0 (kq ≤ k4) ∧ Aside0 (Kd.N k34 34 w' w.heap.size (fun k_ => (w.heap.size ≤ k_) ∧ some k_ ≠ (v12 : Value).ownBlock) (.slice Ao34 x3_3.length co34) x3_3) ∧ Aside0 (Kd.N k34 34 w' w.heap.size (fun k_ => (w.heap.size ≤ k_) ∧ some k_ ≠ ((.slice Ao34 x3_3.length co34) : Value).ownBlock) v12 x12_5) ∧ Aside0 (Below w.heap.size w w'))
             case atStart => exact ⟨(x12_4), (x13_4), (t286), (by first | rfl | (simp; done) | (simp [*]; done)), (by first | rfl | (simp; done) | (simp [*]; done)), H', ⟨Nat.le_refl _⟩, ⟨by (with_reducible repeat (first | apply Kd.N_alloc | apply Kd.N_drewN | apply Kd.N_drew)); exact HO_3.out⟩, ⟨by (with_reducible repeat (first | apply Kd.N_alloc | apply Kd.N_drewN | apply Kd.N_drew)); exact HO_12.out⟩, ⟨hB⟩⟩
             case round =>
              clear H'
              try clear c1
              try clear c2
              try clear c2b0
              try clear p2
              try clear q2
              try clear hx2
              try clear c3
              try clear c3b0
              try clear c4
              try clear c6
              try clear p6
              try clear c7
              try clear c7b0
              try clear c11
              try clear c11b0
              try clear c12
              try clear c12b0
              try clear c13
              try clear c13b0
              try clear c14
              try clear c14b0
              try clear c16
              try clear c16b0
              try clear c16b1
              try clear c17
              try clear c19
              try clear c26
              try clear p27
              try clear q27
              try clear hx27
              try clear c28
              try clear c33
              try clear c33b0
              try clear c35
              try clear c35b0
              try clear hcz10_0
              try clear hcz10_1
              try clear hcz20_0
              try clear hcz20_1
              try clear hcz21_0
              try clear hcz21_1
              try clear hcz24_0
              try clear hcz24_1
              try clear hcz27_0
              try clear hcz27_1
              try clear hcz29_0
              try clear hcz29_1
              try clear hfz10_0
              try clear hfz10_1
              try clear hfz20_0
              try clear hfz20_1
              try clear hfz21_0
              try clear hfz21_1
              try clear hfz24_0
              try clear hfz24_1
              try clear hfz27_0
              try clear hfz27_1
              try clear hfz29_0
              try clear hfz29_1
              try clear hx278_0
              try clear hx278_1
              try clear p2
              try clear p27
              try clear p278
              try clear p6
              try clear q2
              try clear q27
              try clear q278
              obtain ⟨x12_5, x16_5, x17_5, rfl, rfl, HA, HK5, HO_3, HO_12, HB⟩ := hrel
              cases gk with
              | zero => exact absurd HA.out (by simp [spec_pzParties.l6])
              | succ k5 =>
               have H := HA.out
               clear HA
               simp only [spec_pzParties.l6] at H
               have HC38 := Aside0.mk H
               clear H
               go_upto_region 30 with (fail)
               go_cut [104] (fun v104 wc => ∃ (kq : Nat) (x104_37 : Bool), v104 = .bool x104_37 ∧ Aside0 (spec_pzParties.j7 kq x3_3 x11_3 x12_5 x13_4 t286 t287 x16_5 x17_5 x104_37 = some r) ∧ Aside0 (kq ≤ k5) ∧ Aside0 (Kd.N k34 34 wc w.heap.size (fun k_ => (w.heap.size ≤ k_) ∧ some k_ ≠ (u12 : Value).ownBlock) (.slice Ao34 x3_3.length co34) x3_3) ∧ Aside0 (Kd.N k34 34 wc w.heap.size (fun k_ => (w.heap.size ≤ k_) ∧ some k_ ≠ ((.slice Ao34 x3_3.length co34) : Value).ownBlock) u12 x12_5) ∧ Aside0 (Below w.heap.size w wc))
               case first =>
                have H := HC38.out
                clear HC38
                by_cases c39 : x16_5 < t286
                ·rw [if_pos c39] at H
                 have c39b0 : decide (x16_5 < t286) = true := decide_eq_true c39
                 clear c39
                 (first | rw [c39b0] | (simp only [i64_w, i32_w]; rw [c39b0]) | skip)
                 have H' := Aside0.mk H
                 clear H
                 go_wp2
                 go_meet
                 case rel => exact ⟨_, (true), (by first | rfl | (simp; done) | (simp [*]; done)), H', ⟨by have := HK1.out; have := HK2.out; have := HK3.out; have := HK4.out; have := HK5.out; first | omega | exact Nat.le_refl _⟩, ⟨by (with_reducible repeat (first | apply Kd.N_alloc | apply Kd.N_drewN | apply Kd.N_drew)); exact HO_3.out⟩, ⟨by (with_reducible repeat (first | apply Kd.N_alloc | apply Kd.N_drewN | apply Kd.N_drew)); exact HO_12.out⟩, ⟨hB⟩⟩
                ·rw [if_neg c39] at H
                 have c39b0 : decide (x16_5 < t286) = false := decide_eq_false c39
                 clear c39
                 (first | rw [c39b0] | (simp only [i64_w, i32_w]; rw [c39b0]) | skip)
                 have H' := Aside0.mk H
                 clear H
                 go_wp2
                 go_meet
                 case rel => exact ⟨_, (decide (x17_5 < t287)), (by first | rfl | (simp; done) | (simp [*]; done)), H', ⟨by have := HK1.out; have := HK2.out; have := HK3.out; have := HK4.out; have := HK5.out; first | omega | exact Nat.le_refl _⟩, ⟨by (with_reducible repeat (first | apply Kd.N_alloc | apply Kd.N_drewN | apply Kd.N_drew)); exact HO_3.out⟩, ⟨by (with_reducible repeat (first | apply Kd.N_alloc | apply Kd.N_drewN | apply Kd.N_drew)); exact HO_12.out⟩, ⟨hB⟩⟩
               case rest =>
                clear HC38
                try clear c1
                try clear c2
                try clear c2b0
                try clear p2
                try clear q2
                try clear hx2
                try clear c3
                try clear c3b0
                try clear c4
                try clear c6
                try clear p6
                try clear c7
                try clear c7b0
                try clear c11
                try clear c11b0
                try clear c12
                try clear c12b0
                try clear c13
                try clear c13b0
                try clear c14
                try clear c14b0
                try clear c16
                try clear c16b0
                try clear c16b1
                try clear c17
                try clear c19
                try clear c26
                try clear p27
                try clear q27
                try clear hx27
                try clear c28
                try clear c33
                try clear c33b0
                try clear c35
                try clear c35b0
                try clear c39
                try clear c39b0
                try clear hcz10_0
                try clear hcz10_1
                try clear hcz20_0
                try clear hcz20_1
                try clear hcz21_0
                try clear hcz21_1
                try clear hcz24_0
                try clear hcz24_1
                try clear hcz27_0
                try clear hcz27_1
                try clear hcz29_0
                try clear hcz29_1
                try clear hfz10_0
                try clear hfz10_1
                try clear hfz20_0
                try clear hfz20_1
                try clear hfz21_0
                try clear hfz21_1
                try clear hfz24_0
                try clear hfz24_1
                try clear hfz27_0
                try clear hfz27_1
                try clear hfz29_0
                try clear hfz29_1
                try clear hx278_0
                try clear hx278_1
                try clear p2
                try clear p27
                try clear p278
                try clear p6
                try clear q2
                try clear q27
                try clear q278
                obtain ⟨kq, x104_37, rfl, HA, HJ37, HO_3, HO_12, HB⟩ := hcut
                cases kq with
                | zero => exact absurd HA.out (by simp [spec_pzParties.j7])
                | succ kj37 =>
                 have H := HA.out
                 clear HA
                 simp only [spec_pzParties.j7] at H
                 by_cases c40 : x104_37 = true
                 ·subst c40
                  have H1 : (if x17_5 = t287 then (if 0 ≤ x16_5 then (if x16_5 < (x3_3.length : Int) then (if x12_5.length < 4398046511104 then (spec_pzParties.l6 kj37 x3_3 x11_3 (x12_5 ++ [(⟨(rd_T34 x3_3 x16_5).f0, (rd_T34 x3_3 x16_5).f1⟩ : S34)]) x13_4 t286 t287 (wrap64 (x16_5 + 1)) x17_5) else (none)) else (none)) else (none)) else (if x16_5 < t286 then (if 0 ≤ x16_5 then (if x16_5 < (x3_3.length : Int) then (if 0 ≤ x17_5 then (if x17_5 < (x3_3.length : Int) then ((spec_paBefore.f kj37 ((rd_T34 x3_3 x16_5).f0) ((rd_T34 x3_3 x16_5).f1) ((rd_T34 x3_3 x17_5).f0) ((rd_T34 x3_3 x17_5).f1)).bind fun t294 => (if t294 = true then (if x12_5.length < 4398046511104 then (spec_pzParties.l6 kj37 x3_3 x11_3 (x12_5 ++ [(⟨(rd_T34 x3_3 x16_5).f0, (rd_T34 x3_3 x16_5).f1⟩ : S34)]) x13_4 t286 t287 (wrap64 (x16_5 + 1)) x17_5) else (none)) else (if x12_5.length < 4398046511104 then (spec_pzParties.l6 kj37 x3_3 x11_3 (x12_5 ++ [(⟨(rd_T34 x3_3 x17_5).f0, (rd_T34 x3_3 x17_5).f1⟩ : S34)]) x13_4 t286 t287 x16_5 (wrap64 (x17_5 + 1))) else (none)))) else (none)) else (none)) else (none)) else (none)) else (if 0 ≤ x17_5 then (if x17_5 < (x3_3.length : Int) then (if x12_5.length < 4398046511104 then (spec_pzParties.l6 kj37 x3_3 x11_3 (x12_5 ++ [(⟨(rd_T34 x3_3 x17_5).f0, (rd_T34 x3_3 x17_5).f1⟩ : S34)]) x13_4 t286 t287 x16_5 (wrap64 (x17_5 + 1))) else (none)) else (none)) else (none)))) = some r := by rw [if_pos rfl] at H; exact H
                  clear H
                  have H := H1
                  clear H1
                  by_cases c41 : x17_5 = t287
                  ·rw [if_pos c41] at H
                   have c41b0 : (x17_5 == t287) = true := beq_iff_eq.mpr c41
                   have c41b1 : (x17_5 != t287) = false := bne_eq_false_iff_eq.mpr c41
                   clear c41
                   by_cases c42 : 0 ≤ x16_5
                   ·rw [if_pos c42] at H
                    have c42b0 : decide (0 ≤ x16_5) = true := decide_eq_true c42
                    clear c42
                    by_cases c43 : x16_5 < (x3_3.length : Int)
                    ·rw [if_pos c43] at H
                     have c43b0 : decide (x16_5 < (x3_3.length : Int)) = true := decide_eq_true c43
                     clear c43
                     by_cases c44 : x12_5.length < 4398046511104
                     ·rw [if_pos c44] at H
                      have LMc44 := Aside0.mk c44
                      clear c44
                      obtain ⟨y289, hy289⟩ : ∃ y_ : List (S34), y_ = (x12_5 ++ [(⟨(rd_T34 x3_3 x16_5).f0, (rd_T34 x3_3 x16_5).f1⟩ : S34)]) := ⟨_, rfl⟩
                      replace H : (spec_pzParties.l6 kj37 x3_3 x11_3 y289 x13_4 t286 t287 (wrap64 (x16_5 + 1)) x17_5) = some r := by first | (rw [hy289]; with_reducible exact H) | (have H2_ := (Option.bind_some _ _).symm.trans H; rw [hy289]; with_reducible exact H2_) | (have H2_ := (Option.bind_some _ _).symm.trans H; with_reducible exact H2_) | with_reducible exact H | (rw [hy289]; exact H) | exact H
                      have Ny289 := Aside0.mk hy289
                      clear hy289
                      have H' := Aside0.mk H
                      clear H
                      try go_wp2
                      have n0_ := Aside0.mk (Kd.N_drew HO_3.out)
                      have n1_ := Aside0.mk (Kd.N_drew HO_12.out)
                      have n2_ := Aside0.mk (below_drew1 HB.out)
                      clear HO_3
                      clear HO_12
                      clear HB
                      have HO_3 := n0_
                      have HO_12 := n1_
                      have HB := n2_
                      clear n0_ n1_ n2_
                      refine start_ (n := 19) (S := fun w' => True) (ds := []) (bz 19 0) (by kernel_rfl) rfl rfl trivial (fun hHeld => ?_); refine with_tabW spec_pzParties.tab31 spec_pzParties.bits31 (fun HT_ HW_ => ?_)
                      generalize wc.drew = w45 at HO_3 HO_12 HB hHeld ⊢
                      refine run_ [(0, 0, 1, some 105), (0, 1, 3, some 106), (0, 2, 7, some 107), (0, 3, 15, some 108), (2, 4, 31, some 109), (2, 5, 63, some 110), (2, 6, 127, some 111), (2, 7, 255, some 112), (2, 8, 511, some 113), (2, 9, 1023, some 114), (2, 10, 2047, some 115), (2, 11, 4095, some 116), (2, 12, 8191, some 117), (2, 13, 16383, some 118), (2, 14, 32767, some 119), (2, 15, 65535, some 120), (2, 16, 131071, some 121), (2, 17, 262143, some 122), (0, 18, 524287, some 123)] ?_
                      repeat (first | (apply tag0; refine run_p (v := ?_) (a' := ?_) rfl rfl (any_of HT_.out (by kernel_rfl)) (fun _ _ _ h => h) (by rfl) ?_ ?_ ?_; rotate_left 2; (intro w'; go_simp; with_reducible rfl); (first | (simp only [Act.put, List.setIfInBounds_toArray, List.set_cons_zero, List.set_cons_succ, i64_w, i32_w]; rfl) | rfl)) | (apply tag2; refine run_o (a' := ?_) rfl rfl (any_of HT_.out (by kernel_rfl)) (fun _ _ _ h => h) (by rfl) ?_ ?_; rotate_left; (first | (simp only [Act.put, List.setIfInBounds_toArray, List.set_cons_zero, List.set_cons_succ, i64_w, i32_w]; rfl) | rfl)))
                      refine run_nil ?_
                      refine done_ (done_of HT_.out (by kernel_rfl)) ?_
                      have p288 : 0 ≤ (x16_5 : Int) := of_decide_eq_true (by first | (with_reducible assumption) | assumption)
                      have q288 : x16_5 < (x3_3.length : Int) := of_decide_eq_true (by first | (with_reducible assumption) | assumption)
                      obtain ⟨ad288, A288_1, c288_1, e288, hx288_0, hx288_1, hl288_1, hi288_1⟩ := at_T34 (Kd.N_reads' HO_3.out).2.2 x16_5 p288 q288
                      cases e288
                      obtain ⟨ce288, hce288, hMe288, hcc288⟩ := Kd.N_get HO_3.out z34 x16_5 p288 (by first | exact q288 | exact of_decide_eq_true (by first | (with_reducible assumption) | assumption) | (have e_ := (Kd.N_reads' HO_3.out).1; omega))
                      obtain ⟨ua288_1, uc288_1, rfl, ul288_1, ge288_1⟩ := k34_openF hMe288
                      have hv288_1 := hcc288 1 _ rfl
                      rw [add_field _ _ 1 (by omega)] at hv288_1
                      replace hv288_1 := Option.some.inj (hv288_1.symm.trans hx288_1)
                      injection hv288_1 with hva_ hvn_ hvc_
                      rw [hva_] at ge288_1
                      rw [hvc_] at ul288_1
                      have HL288_1 := Aside0.mk (show Kd.V k110 110 _ w.heap.size _ _ ((rd_T34 x3_3 x16_5).f1) from Kd.V_mk ul288_1 ge288_1)
                      clear hva_ hvn_ hvc_ ge288_1 ul288_1
                      clear hcc288 hce288
                      have HR288_1 := Aside0.mk hi288_1
                      have HC288_1 := Aside0.mk hl288_1
                      clear hi288_1 hl288_1
                      replace p288 := eq_true p288
                      replace q288 := eq_true q288
                      try go_wp2_with (first | ((with_reducible refine gate_builtin (b := .append) (xs := #[.tmp 124, .tmp 129]) rfl ?_); at_builtin; refine Kd.N_append k34 (w0 := w) w.heap.size rfl (.tmp 124) (.tmp 129) 64 34 (.agg #[(.int .i64 0), (.slice none 0 0)]) 32 rfl Tryd.underlying64 info34 rfl (by decide) (by omega) u12 x12_5 (⟨(rd_T34 x3_3 x16_5).f0, (rd_T34 x3_3 x16_5).f1⟩ : S34) [.int .i64 ((rd_T34 x3_3 x16_5).f0), .slice A288_1 ((rd_T34 x3_3 x16_5).f1).length c288_1] (fun k_ => (w.heap.size ≤ k_) ∧ some k_ ≠ (.slice (some ad288) x3_3.length co34 : Value).ownBlock) (fun k_ => ((fun k_ => (w.heap.size ≤ k_) ∧ some k_ ≠ (.slice (some ad288) x3_3.length co34 : Value).ownBlock)) k_ ∧ some k_ ≠ (u12 : Value).ownBlock) rfl rfl ?aP (fun _ hk => hk) ?aF ?aO ?aB ?aS ?aL ?_; (case aP => exact (k34_mkF _ _ (⟨(rd_T34 x3_3 x16_5).f0, (rd_T34 x3_3 x16_5).f1⟩ : S34) (Kd.V_reads' (Kd.V_mono (ok' := (fun k_ => ((fun k_ => (w.heap.size ≤ k_) ∧ some k_ ≠ (.slice (some ad288) x3_3.length co34 : Value).ownBlock)) k_ ∧ some k_ ≠ (u12 : Value).ownBlock)) (HL288_1.out) (fun k_ hk => ⟨⟨hk.1.1, hk.2⟩, hk.1.2⟩))).2.1 (Kd.V_F (Kd.V_mono (ok' := (fun k_ => ((fun k_ => (w.heap.size ≤ k_) ∧ some k_ ≠ (.slice (some ad288) x3_3.length co34 : Value).ownBlock)) k_ ∧ some k_ ≠ (u12 : Value).ownBlock)) (HL288_1.out) (fun k_ hk => ⟨⟨hk.1.1, hk.2⟩, hk.1.2⟩))))); (case aB => exact hB); (case aF => exact (fun k_ hk => ⟨(Nat.le_trans (below_size hB) hk), Kd.fresh' (Kd.N_lt (by (with_reducible repeat (first | apply Kd.N_alloc | apply Kd.N_drewN | apply Kd.N_drew)); exact HO_3.out)) k_ hk⟩)); (case aO => exact (by (with_reducible repeat (first | apply Kd.N_alloc | apply Kd.N_drewN | apply Kd.N_drew)); exact HO_12.out)); (case aS => exact (below_size hB)); (case aL => have := LMc44.out; omega); intro v290 w46 ho hb hg hat; rw [← Ny289.out] at ho; have n0_ := Aside0.mk (Kd.N_afterv (ok := (fun k_ => (w.heap.size ≤ k_))) (by (with_reducible repeat (first | apply Kd.N_alloc | apply Kd.N_drewN | apply Kd.N_drew)); exact HO_3.out) hg hat); have n1_ := Aside0.mk (Kd.V_afterv (ok := (fun k_ => (w.heap.size ≤ k_) ∧ some k_ ≠ (.slice (some ad288) x3_3.length co34 : Value).ownBlock)) (by (with_reducible repeat (first | apply Kd.V_alloc | apply Kd.V_drewN | apply Kd.V_drew)); exact Kd.V_mono HL288_1.out (fun _ hk => ⟨⟨hk.1.1, hk.2⟩, hk.1.2⟩)) hg hat); have n2_ := Aside0.mk (hb); have n3_ := Aside0.mk (ho); clear HO_3; clear HL288_1; clear HB; clear HO_12; have HO_3 := n0_; have HL288_1 := n1_; have HB := n2_; have HO291 := n3_; clear n0_ n1_ n2_ n3_; clear ho hb hg hat))
                      go_roundg kj37
                      case measure => have := HK1.out; have := HK2.out; have := HK3.out; have := HK4.out; have := HK5.out; have := HJ37.out; omega
                      case rel => exact ⟨(y289), (wrap64 (x16_5 + 1)), (x17_5), (by first | rfl | (simp; done) | (simp [*]; done)), (by first | rfl | (simp; done) | (simp [*]; done)), H', ⟨by have := HK1.out; have := HK2.out; have := HK3.out; have := HK4.out; have := HK5.out; have := HJ37.out; omega⟩, ⟨by (with_reducible repeat (first | apply Kd.N_alloc | apply Kd.N_drewN | apply Kd.N_drew)); exact HO_3.out⟩, ⟨by (with_reducible repeat (first | apply Kd.N_alloc | apply Kd.N_drewN | apply Kd.N_drew)); exact HO291.out⟩, ⟨hB⟩⟩
                     ·rw [if_neg c44] at H
                      exact absurd H (by simp)
                    ·rw [if_neg c43] at H
                     exact absurd H (by simp)
                   ·rw [if_neg c42] at H
                    exact absurd H (by simp)
                  ·rw [if_neg c41] at H
                   have c41b0 : (x17_5 == t287) = false := beq_eq_false_iff_ne.mpr c41
                   have c41b1 : (x17_5 != t287) = true := bne_iff_ne.mpr c41
                   by_cases c47 : x16_5 < t286
                   ·rw [if_pos c47] at H
                    have c47b0 : decide (x16_5 < t286) = true := decide_eq_true c47
                    clear c47
                    by_cases c48 : 0 ≤ x16_5
                    ·rw [if_pos c48] at H
                     have c48b0 : decide (0 ≤ x16_5) = true := decide_eq_true c48
                     clear c48
                     by_cases c49 : x16_5 < (x3_3.length : Int)
                     ·rw [if_pos c49] at H
                      have c49b0 : decide (x16_5 < (x3_3.length : Int)) = true := decide_eq_true c49
                      clear c49
                      by_cases c50 : 0 ≤ x17_5
                      ·rw [if_pos c50] at H
                       have c50b0 : decide (0 ≤ x17_5) = true := decide_eq_true c50
                       clear c50
                       by_cases c51 : x17_5 < (x3_3.length : Int)
                       ·rw [if_pos c51] at H
                        have c51b0 : decide (x17_5 < (x3_3.length : Int)) = true := decide_eq_true c51
                        clear c51
                        replace H := Option.bind_eq_some_iff.mp H
                        obtain ⟨t294, A520, H⟩ := H
                        replace H : (if t294 = true then (if x12_5.length < 4398046511104 then (spec_pzParties.l6 kj37 x3_3 x11_3 (x12_5 ++ [(⟨(rd_T34 x3_3 x16_5).f0, (rd_T34 x3_3 x16_5).f1⟩ : S34)]) x13_4 t286 t287 (wrap64 (x16_5 + 1)) x17_5) else (none)) else (if x12_5.length < 4398046511104 then (spec_pzParties.l6 kj37 x3_3 x11_3 (x12_5 ++ [(⟨(rd_T34 x3_3 x17_5).f0, (rd_T34 x3_3 x17_5).f1⟩ : S34)]) x13_4 t286 t287 x16_5 (wrap64 (x17_5 + 1))) else (none))) = some r := H
                        have A52 := Aside0.mk A520
                        clear A520
                        by_cases c53 : t294 = true
                        ·subst c53
                         have H1 : (if x12_5.length < 4398046511104 then (spec_pzParties.l6 kj37 x3_3 x11_3 (x12_5 ++ [(⟨(rd_T34 x3_3 x16_5).f0, (rd_T34 x3_3 x16_5).f1⟩ : S34)]) x13_4 t286 t287 (wrap64 (x16_5 + 1)) x17_5) else (none)) = some r := by rw [if_pos rfl] at H; exact H
                         clear H
                         have H := H1
                         clear H1
                         by_cases c54 : x12_5.length < 4398046511104
                         ·rw [if_pos c54] at H
                          have LMc54 := Aside0.mk c54
                          clear c54
                          obtain ⟨y296, hy296⟩ : ∃ y_ : List (S34), y_ = (x12_5 ++ [(⟨(rd_T34 x3_3 x16_5).f0, (rd_T34 x3_3 x16_5).f1⟩ : S34)]) := ⟨_, rfl⟩
                          replace H : (spec_pzParties.l6 kj37 x3_3 x11_3 y296 x13_4 t286 t287 (wrap64 (x16_5 + 1)) x17_5) = some r := by first | (rw [hy296]; with_reducible exact H) | (have H2_ := (Option.bind_some _ _).symm.trans H; rw [hy296]; with_reducible exact H2_) | (have H2_ := (Option.bind_some _ _).symm.trans H; with_reducible exact H2_) | with_reducible exact H | (rw [hy296]; exact H) | exact H
                          have Ny296 := Aside0.mk hy296
                          clear hy296
                          have H' := Aside0.mk H
                          clear H
                          try go_wp2
                          have n0_ := Aside0.mk (Kd.N_drew HO_3.out)
                          have n1_ := Aside0.mk (Kd.N_drew HO_12.out)
                          have n2_ := Aside0.mk (below_drew1 HB.out)
                          clear HO_3
                          clear HO_12
                          clear HB
                          have HO_3 := n0_
                          have HO_12 := n1_
                          have HB := n2_
                          clear n0_ n1_ n2_
                          have p292 : 0 ≤ (x16_5 : Int) := of_decide_eq_true (by first | (with_reducible assumption) | assumption)
                          have q292 : x16_5 < (x3_3.length : Int) := of_decide_eq_true (by first | (with_reducible assumption) | assumption)
                          obtain ⟨ad292, A292_1, c292_1, e292, hx292_0, hx292_1, hl292_1, hi292_1⟩ := at_T34 (Kd.N_reads' HO_3.out).2.2 x16_5 p292 q292
                          cases e292
                          obtain ⟨ce292, hce292, hMe292, hcc292⟩ := Kd.N_get HO_3.out z34 x16_5 p292 (by first | exact q292 | exact of_decide_eq_true (by first | (with_reducible assumption) | assumption) | (have e_ := (Kd.N_reads' HO_3.out).1; omega))
                          obtain ⟨ua292_1, uc292_1, rfl, ul292_1, ge292_1⟩ := k34_openF hMe292
                          have hv292_1 := hcc292 1 _ rfl
                          rw [add_field _ _ 1 (by omega)] at hv292_1
                          replace hv292_1 := Option.some.inj (hv292_1.symm.trans hx292_1)
                          injection hv292_1 with hva_ hvn_ hvc_
                          rw [hva_] at ge292_1
                          rw [hvc_] at ul292_1
                          have HL292_1 := Aside0.mk (show Kd.V k110 110 _ w.heap.size _ _ ((rd_T34 x3_3 x16_5).f1) from Kd.V_mk ul292_1 ge292_1)
                          clear hva_ hvn_ hvc_ ge292_1 ul292_1
                          clear hcc292 hce292
                          have HR292_1 := Aside0.mk hi292_1
                          have HC292_1 := Aside0.mk hl292_1
                          clear hi292_1 hl292_1
                          replace p292 := eq_true p292
                          replace q292 := eq_true q292
                          have p293 : 0 ≤ (x17_5 : Int) := of_decide_eq_true (by first | (with_reducible assumption) | assumption)
                          have q293 : x17_5 < (x3_3.length : Int) := of_decide_eq_true (by first | (with_reducible assumption) | assumption)
                          obtain ⟨ad293, A293_1, c293_1, e293, hx293_0, hx293_1, hl293_1, hi293_1⟩ := at_T34 (Kd.N_reads' HO_3.out).2.2 x17_5 p293 q293
                          obtain rfl : ad292 = ad293 := (by injection e293)
                          obtain ⟨ce293, hce293, hMe293, hcc293⟩ := Kd.N_get HO_3.out z34 x17_5 p293 (by first | exact q293 | exact of_decide_eq_true (by first | (with_reducible assumption) | assumption) | (have e_ := (Kd.N_reads' HO_3.out).1; omega))
                          obtain ⟨ua293_1, uc293_1, rfl, ul293_1, ge293_1⟩ := k34_openF hMe293
                          have hv293_1 := hcc293 1 _ rfl
                          rw [add_field _ _ 1 (by omega)] at hv293_1
                          replace hv293_1 := Option.some.inj (hv293_1.symm.trans hx293_1)
                          injection hv293_1 with hva_ hvn_ hvc_
                          rw [hva_] at ge293_1
                          rw [hvc_] at ul293_1
                          have HL293_1 := Aside0.mk (show Kd.V k110 110 _ w.heap.size _ _ ((rd_T34 x3_3 x17_5).f1) from Kd.V_mk ul293_1 ge293_1)
                          clear hva_ hvn_ hvc_ ge293_1 ul293_1
                          clear hcc293 hce293
                          have HR293_1 := Aside0.mk hi293_1
                          have HC293_1 := Aside0.mk hl293_1
                          clear hi293_1 hl293_1
                          replace p293 := eq_true p293
                          replace q293 := eq_true q293
                          refine start_ (n := 19) (S := fun w' => w'.cell? (ad292.add ((x16_5).toNat * 2)) = some (.int .i64 ((rd_T34 x3_3 x16_5).f0)) ∧ w'.cell? ⟨(ad292.add ((x16_5).toNat * 2)).block, (ad292.add ((x16_5).toNat * 2)).off + 1, none⟩ = some (.slice A292_1 ((rd_T34 x3_3 x16_5).f1).length c292_1) ∧ w'.cell? (ad292.add ((x17_5).toNat * 2)) = some (.int .i64 ((rd_T34 x3_3 x17_5).f0)) ∧ w'.cell? ⟨(ad292.add ((x17_5).toNat * 2)).block, (ad292.add ((x17_5).toNat * 2)).off + 1, none⟩ = some (.slice A293_1 ((rd_T34 x3_3 x17_5).f1).length c293_1)) (ds := []) (bz 19 0) (by kernel_rfl) rfl rfl ⟨hx292_0, hx292_1, hx293_0, hx293_1⟩ (fun hHeld => ?_); refine with_tabW spec_pzParties.tab31 spec_pzParties.bits31 (fun HT_ HW_ => ?_)
                          generalize wc.drew = w55 at HO_3 HO_12 HB HL292_1 HL293_1 HR292_1 HR293_1 hx292_0 hx292_1 hx293_0 hx293_1 hHeld ⊢
                          refine run_ [(0, 0, 1, some 105), (0, 1, 3, some 106), (0, 2, 7, some 107), (0, 3, 15, some 108), (0, 4, 31, some 109), (0, 5, 63, some 110), (0, 6, 127, some 111), (0, 7, 255, some 112), (0, 8, 511, some 113), (0, 9, 1023, some 114), (0, 10, 2047, some 115), (0, 12, 6143, some 117), (0, 13, 14335, some 118), (0, 14, 30719, some 119), (1, 11, 32767, some 116), (1, 15, 65535, some 120)] ?_
                          repeat (first | (apply tag0; refine run_p (v := ?_) (a' := ?_) rfl rfl (any_of HT_.out (by kernel_rfl)) (fun _ _ _ h => h) (by rfl) ?_ ?_ ?_; rotate_left 2; (intro w'; go_simp; with_reducible rfl); (first | (simp only [Act.put, List.setIfInBounds_toArray, List.set_cons_zero, List.set_cons_succ, i64_w, i32_w]; rfl) | rfl)) | (apply tag1; refine run_t (v := ?_) (a' := ?_) rfl rfl (take_ofW HT_.out HW_.out (by kernel_rfl)) (fun _ _ _ h => h) (by rfl) ?_ hHeld ?_ ?_; rotate_left 2; (rintro w' ⟨s0, s1, s2, s3⟩; go_simp; with_reducible rfl); (first | (simp only [Act.put, List.setIfInBounds_toArray, List.set_cons_zero, List.set_cons_succ, i64_w, i32_w]; rfl) | rfl)))
                          refine run_nil ?_
                          refine one_ (i := 16) (N := some 121) (bz 19 131071) rfl rfl (one_of HT_.out (by kernel_rfl)) (by decide) (fun K hK => ?_)
                          refine goes_ Tryd.func130 (by kernel_rfl) rfl #[.agg #[.int .i64 ((rd_T34 x3_3 x16_5).f0), .slice A292_1 ((rd_T34 x3_3 x16_5).f1).length c292_1], .agg #[.int .i64 ((rd_T34 x3_3 x17_5).f0), .slice A293_1 ((rd_T34 x3_3 x17_5).f1).length c293_1]] (by rfl) rfl rfl mapT ?_
                          with_reducible refine (spec_paBefore.calls kj37 ((rd_T34 x3_3 x16_5).f0) _ _ ((rd_T34 x3_3 x16_5).f1) ((rd_T34 x3_3 x17_5).f0) _ _ ((rd_T34 x3_3 x17_5).f1) true _ ?side1 ?side2 ?side3 ?side4 A52.out).mono ?_
                          (case side1 => repeat (first | exact (by repeat (first | (with_reducible exact HR292_1.out) | (with_reducible refine Kd.C_alloc ?_ _) | (with_reducible refine Kd.C_drewN ?_ _) | (with_reducible refine Kd.C_drew ?_) | exact HR292_1.out)) | (with_reducible refine Kd.C_alloc ?_ _) | (with_reducible refine Kd.C_drewN ?_ _) | (with_reducible refine Kd.C_drew ?_)))
                          (case side2 => exact HC292_1.out)
                          (case side3 => repeat (first | exact (by repeat (first | (with_reducible exact HR293_1.out) | (with_reducible refine Kd.C_alloc ?_ _) | (with_reducible refine Kd.C_drewN ?_ _) | (with_reducible refine Kd.C_drew ?_) | exact HR293_1.out)) | (with_reducible refine Kd.C_alloc ?_ _) | (with_reducible refine Kd.C_drewN ?_ _) | (with_reducible refine Kd.C_drew ?_)))
                          (case side4 => exact HC293_1.out)
                          rintro e w56 ⟨rfl, hb⟩
                          have HS0_ := (hb.cell (World.block_lt_of_cell? _ _ (hHeld.1))).trans (hHeld.1)
                          have HS1_ := (hb.cell (World.block_lt_of_cell? _ _ (hHeld.2.1))).trans (hHeld.2.1)
                          have HS2_ := (hb.cell (World.block_lt_of_cell? _ _ (hHeld.2.2.1))).trans (hHeld.2.2.1)
                          have HS3_ := (hb.cell (World.block_lt_of_cell? _ _ (hHeld.2.2.2))).trans (hHeld.2.2.2)
                          refine ⟨_, rfl, ?_⟩
                          have n0_ := Aside0.mk (Kd.N_below (by (with_reducible repeat (first | apply Kd.N_alloc | apply Kd.N_drewN | apply Kd.N_drew)); exact HO_3.out) hb)
                          have n1_ := Aside0.mk (Kd.N_below (by (with_reducible repeat (first | apply Kd.N_alloc | apply Kd.N_drewN | apply Kd.N_drew)); exact HO_12.out) hb)
                          have n2_ := Aside0.mk (Kd.V_below (by (with_reducible repeat (first | apply Kd.V_alloc | apply Kd.V_drewN | apply Kd.V_drew)); exact HL292_1.out) hb)
                          have n3_ := Aside0.mk (Kd.V_below (by (with_reducible repeat (first | apply Kd.V_alloc | apply Kd.V_drewN | apply Kd.V_drew)); exact HL293_1.out) hb)
                          have n4_ := Aside0.mk (Kd.C_below (by repeat (first | (with_reducible exact HR292_1.out) | (with_reducible refine Kd.C_alloc ?_ _) | (with_reducible refine Kd.C_drewN ?_ _) | (with_reducible refine Kd.C_drew ?_) | exact HR292_1.out)) hb)
                          have n5_ := Aside0.mk (Kd.C_below (by repeat (first | (with_reducible exact HR293_1.out) | (with_reducible refine Kd.C_alloc ?_ _) | (with_reducible refine Kd.C_drewN ?_ _) | (with_reducible refine Kd.C_drew ?_) | exact HR293_1.out)) hb)
                          have n6_ := hS HB hb
                          clear HO_3
                          clear HO_12
                          clear HL292_1
                          clear HL293_1
                          clear HR292_1
                          clear HR293_1
                          clear HB
                          have HO_3 := n0_
                          have HO_12 := n1_
                          have HL292_1 := n2_
                          have HL293_1 := n3_
                          have HR292_1 := n4_
                          have HR293_1 := n5_
                          have HB := n6_
                          clear n0_ n1_ n2_ n3_ n4_ n5_ n6_
                          (try clear hb)
                          (try clear hb2)
                          (try clear hk)
                          (try clear hi)
                          refine hK.out _ _ ⟨HS0_, HS1_, HS2_, HS3_⟩ (fun hHeld => ?_)
                          clear hK K
                          refine norm_ (a' := ?_) ?_ ?_
                          rotate_left
                          ·show Act.put _ (some 121) _ = _
                           simp only [Act.put, List.setIfInBounds_toArray, List.set_cons_zero, List.set_cons_succ, i64_w, i32_w]
                           rfl
                          refine run_ [(0, 17, 262143, some 122), (0, 18, 524287, some 123)] ?_
                          repeat ((apply tag0; refine run_p (v := ?_) (a' := ?_) rfl rfl (any_of HT_.out (by kernel_rfl)) (fun _ _ _ h => h) (by rfl) ?_ ?_ ?_; rotate_left 2; (intro w'; go_simp; with_reducible rfl); (first | (simp only [Act.put, List.setIfInBounds_toArray, List.set_cons_zero, List.set_cons_succ, i64_w, i32_w]; rfl) | rfl)))
                          refine run_nil ?_
                          refine done_ (done_of HT_.out (by kernel_rfl)) ?_
                          have p295 : 0 ≤ (x16_5 : Int) := of_decide_eq_true (by first | (with_reducible assumption) | assumption)
                          have q295 : x16_5 < (x3_3.length : Int) := of_decide_eq_true (by first | (with_reducible assumption) | assumption)
                          obtain ⟨ad295, A295_1, c295_1, e295, hx295_0, hx295_1, hl295_1, hi295_1⟩ := at_T34 (Kd.N_reads' HO_3.out).2.2 x16_5 p295 q295
                          obtain rfl : ad292 = ad295 := (by injection e295)
                          obtain ⟨ce295, hce295, hMe295, hcc295⟩ := Kd.N_get HO_3.out z34 x16_5 p295 (by first | exact q295 | exact of_decide_eq_true (by first | (with_reducible assumption) | assumption) | (have e_ := (Kd.N_reads' HO_3.out).1; omega))
                          obtain ⟨ua295_1, uc295_1, rfl, ul295_1, ge295_1⟩ := k34_openF hMe295
                          have hv295_1 := hcc295 1 _ rfl
                          rw [add_field _ _ 1 (by omega)] at hv295_1
                          replace hv295_1 := Option.some.inj (hv295_1.symm.trans hx295_1)
                          injection hv295_1 with hva_ hvn_ hvc_
                          rw [hva_] at ge295_1
                          rw [hvc_] at ul295_1
                          have HL295_1 := Aside0.mk (show Kd.V k110 110 _ w.heap.size _ _ ((rd_T34 x3_3 x16_5).f1) from Kd.V_mk ul295_1 ge295_1)
                          clear hva_ hvn_ hvc_ ge295_1 ul295_1
                          clear hcc295 hce295
                          have HR295_1 := Aside0.mk hi295_1
                          have HC295_1 := Aside0.mk hl295_1
                          clear hi295_1 hl295_1
                          replace p295 := eq_true p295
                          replace q295 := eq_true q295
                          (try (injection Option.some.inj (hx295_1.symm.trans HS0_) with f1_ f2_ f3_; subst f1_; subst f3_))
                          (try (injection Option.some.inj (hx295_1.symm.trans HS1_) with f1_ f2_ f3_; subst f1_; subst f3_))
                          (try (injection Option.some.inj (hx295_1.symm.trans HS2_) with f1_ f2_ f3_; subst f1_; subst f3_))
                          (try (injection Option.some.inj (hx295_1.symm.trans HS3_) with f1_ f2_ f3_; subst f1_; subst f3_))
                          try go_wp2_with (first | ((with_reducible refine gate_builtin (b := .append) (xs := #[.tmp 124, .tmp 129]) rfl ?_); at_builtin; refine Kd.N_append k34 (w0 := w) w.heap.size rfl (.tmp 124) (.tmp 129) 64 34 (.agg #[(.int .i64 0), (.slice none 0 0)]) 32 rfl Tryd.underlying64 info34 rfl (by decide) (by omega) u12 x12_5 (⟨(rd_T34 x3_3 x16_5).f0, (rd_T34 x3_3 x16_5).f1⟩ : S34) [.int .i64 ((rd_T34 x3_3 x16_5).f0), .slice A295_1 ((rd_T34 x3_3 x16_5).f1).length c295_1] (fun k_ => (w.heap.size ≤ k_) ∧ some k_ ≠ (.slice (some ad292) x3_3.length co34 : Value).ownBlock) (fun k_ => ((fun k_ => (w.heap.size ≤ k_) ∧ some k_ ≠ (.slice (some ad292) x3_3.length co34 : Value).ownBlock)) k_ ∧ some k_ ≠ (u12 : Value).ownBlock) rfl rfl ?aP (fun _ hk => hk) ?aF ?aO ?aB ?aS ?aL ?_; (case aP => exact (k34_mkF _ _ (⟨(rd_T34 x3_3 x16_5).f0, (rd_T34 x3_3 x16_5).f1⟩ : S34) (Kd.V_reads' (Kd.V_mono (ok' := (fun k_ => ((fun k_ => (w.heap.size ≤ k_) ∧ some k_ ≠ (.slice (some ad292) x3_3.length co34 : Value).ownBlock)) k_ ∧ some k_ ≠ (u12 : Value).ownBlock)) (HL295_1.out) (fun k_ hk => ⟨⟨hk.1.1, hk.2⟩, hk.1.2⟩))).2.1 (Kd.V_F (Kd.V_mono (ok' := (fun k_ => ((fun k_ => (w.heap.size ≤ k_) ∧ some k_ ≠ (.slice (some ad292) x3_3.length co34 : Value).ownBlock)) k_ ∧ some k_ ≠ (u12 : Value).ownBlock)) (HL295_1.out) (fun k_ hk => ⟨⟨hk.1.1, hk.2⟩, hk.1.2⟩))))); (case aB => exact hB); (case aF => exact (fun k_ hk => ⟨(Nat.le_trans (below_size hB) hk), Kd.fresh' (Kd.N_lt (by (with_reducible repeat (first | apply Kd.N_alloc | apply Kd.N_drewN | apply Kd.N_drew)); exact HO_3.out)) k_ hk⟩)); (case aO => exact (by (with_reducible repeat (first | apply Kd.N_alloc | apply Kd.N_drewN | apply Kd.N_drew)); exact HO_12.out)); (case aS => exact (below_size hB)); (case aL => have := LMc54.out; omega); intro v297 w57 ho hb hg hat; rw [← Ny296.out] at ho; have n0_ := Aside0.mk (Kd.N_afterv (ok := (fun k_ => (w.heap.size ≤ k_))) (by (with_reducible repeat (first | apply Kd.N_alloc | apply Kd.N_drewN | apply Kd.N_drew)); exact HO_3.out) hg hat); have n1_ := Aside0.mk (Kd.V_afterv (ok := (fun k_ => (w.heap.size ≤ k_) ∧ some k_ ≠ (.slice (some ad292) x3_3.length co34 : Value).ownBlock)) (by (with_reducible repeat (first | apply Kd.V_alloc | apply Kd.V_drewN | apply Kd.V_drew)); exact Kd.V_mono HL292_1.out (fun _ hk => ⟨⟨hk.1.1, hk.2⟩, hk.1.2⟩)) hg hat); have n2_ := Aside0.mk (Kd.V_afterv (ok := (fun k_ => (w.heap.size ≤ k_) ∧ some k_ ≠ (.slice (some ad292) x3_3.length co34 : Value).ownBlock)) (by (with_reducible repeat (first | apply Kd.V_alloc | apply Kd.V_drewN | apply Kd.V_drew)); exact Kd.V_mono HL293_1.out (fun _ hk => ⟨⟨hk.1.1, hk.2⟩, hk.1.2⟩)) hg hat); have n3_ := Aside0.mk (Kd.V_afterv (ok := (fun k_ => (w.heap.size ≤ k_) ∧ some k_ ≠ (.slice (some ad292) x3_3.length co34 : Value).ownBlock)) (by (with_reducible repeat (first | apply Kd.V_alloc | apply Kd.V_drewN | apply Kd.V_drew)); exact Kd.V_mono HL295_1.out (fun _ hk => ⟨⟨hk.1.1, hk.2⟩, hk.1.2⟩)) hg hat); have n4_ := Aside0.mk (hb); have n5_ := Aside0.mk (ho); clear HO_3; clear HL292_1; clear HL293_1; clear HL295_1; clear HB; clear HO_12; have HO_3 := n0_; have HL292_1 := n1_; have HL293_1 := n2_; have HL295_1 := n3_; have HB := n4_; have HO298 := n5_; clear n0_ n1_ n2_ n3_ n4_ n5_; clear ho hb hg hat))
                          go_roundg kj37
                          case measure => have := HK1.out; have := HK2.out; have := HK3.out; have := HK4.out; have := HK5.out; have := HJ37.out; omega
                          case rel => exact ⟨(y296), (wrap64 (x16_5 + 1)), (x17_5), (by first | rfl | (simp; done) | (simp [*]; done)), (by first | rfl | (simp; done) | (simp [*]; done)), H', ⟨by have := HK1.out; have := HK2.out; have := HK3.out; have := HK4.out; have := HK5.out; have := HJ37.out; omega⟩, ⟨by (with_reducible repeat (first | apply Kd.N_alloc | apply Kd.N_drewN | apply Kd.N_drew)); exact HO_3.out⟩, ⟨by (with_reducible repeat (first | apply Kd.N_alloc | apply Kd.N_drewN | apply Kd.N_drew)); exact HO298.out⟩, ⟨hB⟩⟩
                         ·rw [if_neg c54] at H
                          exact absurd H (by simp)
                        ·replace c53 := Bool.eq_false_iff.mpr c53
                         subst c53
                         have H1 : (if x12_5.length < 4398046511104 then (spec_pzParties.l6 kj37 x3_3 x11_3 (x12_5 ++ [(⟨(rd_T34 x3_3 x17_5).f0, (rd_T34 x3_3 x17_5).f1⟩ : S34)]) x13_4 t286 t287 x16_5 (wrap64 (x17_5 + 1))) else (none)) = some r := by rw [if_neg (show ¬ (false = true) by decide)] at H; exact H
                         clear H
                         have H := H1
                         clear H1
                         by_cases c58 : x12_5.length < 4398046511104
                         ·rw [if_pos c58] at H
                          have LMc58 := Aside0.mk c58
                          clear c58
                          obtain ⟨y300, hy300⟩ : ∃ y_ : List (S34), y_ = (x12_5 ++ [(⟨(rd_T34 x3_3 x17_5).f0, (rd_T34 x3_3 x17_5).f1⟩ : S34)]) := ⟨_, rfl⟩
                          replace H : (spec_pzParties.l6 kj37 x3_3 x11_3 y300 x13_4 t286 t287 x16_5 (wrap64 (x17_5 + 1))) = some r := by first | (rw [hy300]; with_reducible exact H) | (have H2_ := (Option.bind_some _ _).symm.trans H; rw [hy300]; with_reducible exact H2_) | (have H2_ := (Option.bind_some _ _).symm.trans H; with_reducible exact H2_) | with_reducible exact H | (rw [hy300]; exact H) | exact H
                          have Ny300 := Aside0.mk hy300
                          clear hy300
                          have H' := Aside0.mk H
                          clear H
                          try go_wp2
                          have n0_ := Aside0.mk (Kd.N_drew HO_3.out)
                          have n1_ := Aside0.mk (Kd.N_drew HO_12.out)
                          have n2_ := Aside0.mk (below_drew1 HB.out)
                          clear HO_3
                          clear HO_12
                          clear HB
                          have HO_3 := n0_
                          have HO_12 := n1_
                          have HB := n2_
                          clear n0_ n1_ n2_
                          have p292 : 0 ≤ (x16_5 : Int) := of_decide_eq_true (by first | (with_reducible assumption) | assumption)
                          have q292 : x16_5 < (x3_3.length : Int) := of_decide_eq_true (by first | (with_reducible assumption) | assumption)
                          obtain ⟨ad292, A292_1, c292_1, e292, hx292_0, hx292_1, hl292_1, hi292_1⟩ := at_T34 (Kd.N_reads' HO_3.out).2.2 x16_5 p292 q292
                          cases e292
                          obtain ⟨ce292, hce292, hMe292, hcc292⟩ := Kd.N_get HO_3.out z34 x16_5 p292 (by first | exact q292 | exact of_decide_eq_true (by first | (with_reducible assumption) | assumption) | (have e_ := (Kd.N_reads' HO_3.out).1; omega))
                          obtain ⟨ua292_1, uc292_1, rfl, ul292_1, ge292_1⟩ := k34_openF hMe292
                          have hv292_1 := hcc292 1 _ rfl
                          rw [add_field _ _ 1 (by omega)] at hv292_1
                          replace hv292_1 := Option.some.inj (hv292_1.symm.trans hx292_1)
                          injection hv292_1 with hva_ hvn_ hvc_
                          rw [hva_] at ge292_1
                          rw [hvc_] at ul292_1
                          have HL292_1 := Aside0.mk (show Kd.V k110 110 _ w.heap.size _ _ ((rd_T34 x3_3 x16_5).f1) from Kd.V_mk ul292_1 ge292_1)
                          clear hva_ hvn_ hvc_ ge292_1 ul292_1
                          clear hcc292 hce292
                          have HR292_1 := Aside0.mk hi292_1
                          have HC292_1 := Aside0.mk hl292_1
                          clear hi292_1 hl292_1
                          replace p292 := eq_true p292
                          replace q292 := eq_true q292
                          (try (injection Option.some.inj (hx292_1.symm.trans HS0_) with f1_ f2_ f3_; subst f1_; subst f3_))
                          (try (injection Option.some.inj (hx292_1.symm.trans HS1_) with f1_ f2_ f3_; subst f1_; subst f3_))
                          (try (injection Option.some.inj (hx292_1.symm.trans HS2_) with f1_ f2_ f3_; subst f1_; subst f3_))
                          (try (injection Option.some.inj (hx292_1.symm.trans HS3_) with f1_ f2_ f3_; subst f1_; subst f3_))
                          have p293 : 0 ≤ (x17_5 : Int) := of_decide_eq_true (by first | (with_reducible assumption) | assumption)
                          have q293 : x17_5 < (x3_3.length : Int) := of_decide_eq_true (by first | (with_reducible assumption) | assumption)
                          obtain ⟨ad293, A293_1, c293_1, e293, hx293_0, hx293_1, hl293_1, hi293_1⟩ := at_T34 (Kd.N_reads' HO_3.out).2.2 x17_5 p293 q293
                          obtain rfl : ad292 = ad293 := (by injection e293)
                          obtain ⟨ce293, hce293, hMe293, hcc293⟩ := Kd.N_get HO_3.out z34 x17_5 p293 (by first | exact q293 | exact of_decide_eq_true (by first | (with_reducible assumption) | assumption) | (have e_ := (Kd.N_reads' HO_3.out).1; omega))
                          obtain ⟨ua293_1, uc293_1, rfl, ul293_1, ge293_1⟩ := k34_openF hMe293
                          have hv293_1 := hcc293 1 _ rfl
                          rw [add_field _ _ 1 (by omega)] at hv293_1
                          replace hv293_1 := Option.some.inj (hv293_1.symm.trans hx293_1)
                          injection hv293_1 with hva_ hvn_ hvc_
                          rw [hva_] at ge293_1
                          rw [hvc_] at ul293_1
                          have HL293_1 := Aside0.mk (show Kd.V k110 110 _ w.heap.size _ _ ((rd_T34 x3_3 x17_5).f1) from Kd.V_mk ul293_1 ge293_1)
                          clear hva_ hvn_ hvc_ ge293_1 ul293_1
                          clear hcc293 hce293
                          have HR293_1 := Aside0.mk hi293_1
                          have HC293_1 := Aside0.mk hl293_1
                          clear hi293_1 hl293_1
                          replace p293 := eq_true p293
                          replace q293 := eq_true q293
                          (try (injection Option.some.inj (hx293_1.symm.trans HS0_) with f1_ f2_ f3_; subst f1_; subst f3_))
                          (try (injection Option.some.inj (hx293_1.symm.trans HS1_) with f1_ f2_ f3_; subst f1_; subst f3_))
                          (try (injection Option.some.inj (hx293_1.symm.trans HS2_) with f1_ f2_ f3_; subst f1_; subst f3_))
                          (try (injection Option.some.inj (hx293_1.symm.trans HS3_) with f1_ f2_ f3_; subst f1_; subst f3_))
                          refine start_ (n := 19) (S := fun w' => w'.cell? (ad292.add ((x16_5).toNat * 2)) = some (.int .i64 ((rd_T34 x3_3 x16_5).f0)) ∧ w'.cell? ⟨(ad292.add ((x16_5).toNat * 2)).block, (ad292.add ((x16_5).toNat * 2)).off + 1, none⟩ = some (.slice A292_1 ((rd_T34 x3_3 x16_5).f1).length c292_1) ∧ w'.cell? (ad292.add ((x17_5).toNat * 2)) = some (.int .i64 ((rd_T34 x3_3 x17_5).f0)) ∧ w'.cell? ⟨(ad292.add ((x17_5).toNat * 2)).block, (ad292.add ((x17_5).toNat * 2)).off + 1, none⟩ = some (.slice A293_1 ((rd_T34 x3_3 x17_5).f1).length c293_1)) (ds := []) (bz 19 0) (by kernel_rfl) rfl rfl ⟨hx292_0, hx292_1, hx293_0, hx293_1⟩ (fun hHeld => ?_); refine with_tabW spec_pzParties.tab31 spec_pzParties.bits31 (fun HT_ HW_ => ?_)
                          generalize wc.drew = w59 at HO_3 HO_12 HB HL292_1 HL293_1 HR292_1 HR293_1 hx292_0 hx292_1 hx293_0 hx293_1 hHeld ⊢
                          refine run_ [(0, 0, 1, some 105), (0, 1, 3, some 106), (0, 2, 7, some 107), (0, 3, 15, some 108), (0, 4, 31, some 109), (0, 5, 63, some 110), (0, 6, 127, some 111), (0, 7, 255, some 112), (0, 8, 511, some 113), (0, 9, 1023, some 114), (0, 10, 2047, some 115), (0, 12, 6143, some 117), (0, 13, 14335, some 118), (0, 14, 30719, some 119), (1, 11, 32767, some 116), (1, 15, 65535, some 120)] ?_
                          repeat (first | (apply tag0; refine run_p (v := ?_) (a' := ?_) rfl rfl (any_of HT_.out (by kernel_rfl)) (fun _ _ _ h => h) (by rfl) ?_ ?_ ?_; rotate_left 2; (intro w'; go_simp; with_reducible rfl); (first | (simp only [Act.put, List.setIfInBounds_toArray, List.set_cons_zero, List.set_cons_succ, i64_w, i32_w]; rfl) | rfl)) | (apply tag1; refine run_t (v := ?_) (a' := ?_) rfl rfl (take_ofW HT_.out HW_.out (by kernel_rfl)) (fun _ _ _ h => h) (by rfl) ?_ hHeld ?_ ?_; rotate_left 2; (rintro w' ⟨s0, s1, s2, s3⟩; go_simp; with_reducible rfl); (first | (simp only [Act.put, List.setIfInBounds_toArray, List.set_cons_zero, List.set_cons_succ, i64_w, i32_w]; rfl) | rfl)))
                          refine run_nil ?_
                          refine one_ (i := 16) (N := some 121) (bz 19 131071) rfl rfl (one_of HT_.out (by kernel_rfl)) (by decide) (fun K hK => ?_)
                          refine goes_ Tryd.func130 (by kernel_rfl) rfl #[.agg #[.int .i64 ((rd_T34 x3_3 x16_5).f0), .slice A292_1 ((rd_T34 x3_3 x16_5).f1).length c292_1], .agg #[.int .i64 ((rd_T34 x3_3 x17_5).f0), .slice A293_1 ((rd_T34 x3_3 x17_5).f1).length c293_1]] (by rfl) rfl rfl mapT ?_
                          with_reducible refine (spec_paBefore.calls kj37 ((rd_T34 x3_3 x16_5).f0) _ _ ((rd_T34 x3_3 x16_5).f1) ((rd_T34 x3_3 x17_5).f0) _ _ ((rd_T34 x3_3 x17_5).f1) false _ ?side1 ?side2 ?side3 ?side4 A52.out).mono ?_
                          (case side1 => repeat (first | exact (by repeat (first | (with_reducible exact HR292_1.out) | (with_reducible refine Kd.C_alloc ?_ _) | (with_reducible refine Kd.C_drewN ?_ _) | (with_reducible refine Kd.C_drew ?_) | exact HR292_1.out)) | (with_reducible refine Kd.C_alloc ?_ _) | (with_reducible refine Kd.C_drewN ?_ _) | (with_reducible refine Kd.C_drew ?_)))
                          (case side2 => exact HC292_1.out)
                          (case side3 => repeat (first | exact (by repeat (first | (with_reducible exact HR293_1.out) | (with_reducible refine Kd.C_alloc ?_ _) | (with_reducible refine Kd.C_drewN ?_ _) | (with_reducible refine Kd.C_drew ?_) | exact HR293_1.out)) | (with_reducible refine Kd.C_alloc ?_ _) | (with_reducible refine Kd.C_drewN ?_ _) | (with_reducible refine Kd.C_drew ?_)))
                          (case side4 => exact HC293_1.out)
                          rintro e w60 ⟨rfl, hb⟩
                          have HS0_ := (hb.cell (World.block_lt_of_cell? _ _ (hHeld.1))).trans (hHeld.1)
                          have HS1_ := (hb.cell (World.block_lt_of_cell? _ _ (hHeld.2.1))).trans (hHeld.2.1)
                          have HS2_ := (hb.cell (World.block_lt_of_cell? _ _ (hHeld.2.2.1))).trans (hHeld.2.2.1)
                          have HS3_ := (hb.cell (World.block_lt_of_cell? _ _ (hHeld.2.2.2))).trans (hHeld.2.2.2)
                          refine ⟨_, rfl, ?_⟩
                          have n0_ := Aside0.mk (Kd.N_below (by (with_reducible repeat (first | apply Kd.N_alloc | apply Kd.N_drewN | apply Kd.N_drew)); exact HO_3.out) hb)
                          have n1_ := Aside0.mk (Kd.N_below (by (with_reducible repeat (first | apply Kd.N_alloc | apply Kd.N_drewN | apply Kd.N_drew)); exact HO_12.out) hb)
                          have n2_ := Aside0.mk (Kd.V_below (by (with_reducible repeat (first | apply Kd.V_alloc | apply Kd.V_drewN | apply Kd.V_drew)); exact HL292_1.out) hb)
                          have n3_ := Aside0.mk (Kd.V_below (by (with_reducible repeat (first | apply Kd.V_alloc | apply Kd.V_drewN | apply Kd.V_drew)); exact HL293_1.out) hb)
                          have n4_ := Aside0.mk (Kd.C_below (by repeat (first | (with_reducible exact HR292_1.out) | (with_reducible refine Kd.C_alloc ?_ _) | (with_reducible refine Kd.C_drewN ?_ _) | (with_reducible refine Kd.C_drew ?_) | exact HR292_1.out)) hb)
                          have n5_ := Aside0.mk (Kd.C_below (by repeat (first | (with_reducible exact HR293_1.out) | (with_reducible refine Kd.C_alloc ?_ _) | (with_reducible refine Kd.C_drewN ?_ _) | (with_reducible refine Kd.C_drew ?_) | exact HR293_1.out)) hb)
                          have n6_ := hS HB hb
                          clear HO_3
                          clear HO_12
                          clear HL292_1
                          clear HL293_1
                          clear HR292_1
                          clear HR293_1
                          clear HB
                          have HO_3 := n0_
                          have HO_12 := n1_
                          have HL292_1 := n2_
                          have HL293_1 := n3_
                          have HR292_1 := n4_
                          have HR293_1 := n5_
                          have HB := n6_
                          clear n0_ n1_ n2_ n3_ n4_ n5_ n6_
                          (try clear hb)
                          (try clear hb2)
                          (try clear hk)
                          (try clear hi)
                          refine hK.out _ _ ⟨HS0_, HS1_, HS2_, HS3_⟩ (fun hHeld => ?_)
                          clear hK K
                          refine norm_ (a' := ?_) ?_ ?_
                          rotate_left
                          ·show Act.put _ (some 121) _ = _
                           simp only [Act.put, List.setIfInBounds_toArray, List.set_cons_zero, List.set_cons_succ, i64_w, i32_w]
                           rfl
                          refine run_ [(0, 17, 262143, some 122), (0, 18, 524287, some 123)] ?_
                          repeat ((apply tag0; refine run_p (v := ?_) (a' := ?_) rfl rfl (any_of HT_.out (by kernel_rfl)) (fun _ _ _ h => h) (by rfl) ?_ ?_ ?_; rotate_left 2; (intro w'; go_simp; with_reducible rfl); (first | (simp only [Act.put, List.setIfInBounds_toArray, List.set_cons_zero, List.set_cons_succ, i64_w, i32_w]; rfl) | rfl)))
                          refine run_nil ?_
                          refine done_ (done_of HT_.out (by kernel_rfl)) ?_
                          have p299 : 0 ≤ (x17_5 : Int) := of_decide_eq_true (by first | (with_reducible assumption) | assumption)
                          have q299 : x17_5 < (x3_3.length : Int) := of_decide_eq_true (by first | (with_reducible assumption) | assumption)
                          obtain ⟨ad299, A299_1, c299_1, e299, hx299_0, hx299_1, hl299_1, hi299_1⟩ := at_T34 (Kd.N_reads' HO_3.out).2.2 x17_5 p299 q299
                          obtain rfl : ad292 = ad299 := (by injection e299)
                          obtain ⟨ce299, hce299, hMe299, hcc299⟩ := Kd.N_get HO_3.out z34 x17_5 p299 (by first | exact q299 | exact of_decide_eq_true (by first | (with_reducible assumption) | assumption) | (have e_ := (Kd.N_reads' HO_3.out).1; omega))
                          obtain ⟨ua299_1, uc299_1, rfl, ul299_1, ge299_1⟩ := k34_openF hMe299
                          have hv299_1 := hcc299 1 _ rfl
                          rw [add_field _ _ 1 (by omega)] at hv299_1
                          replace hv299_1 := Option.some.inj (hv299_1.symm.trans hx299_1)
                          injection hv299_1 with hva_ hvn_ hvc_
                          rw [hva_] at ge299_1
                          rw [hvc_] at ul299_1
                          have HL299_1 := Aside0.mk (show Kd.V k110 110 _ w.heap.size _ _ ((rd_T34 x3_3 x17_5).f1) from Kd.V_mk ul299_1 ge299_1)
                          clear hva_ hvn_ hvc_ ge299_1 ul299_1
                          clear hcc299 hce299
                          have HR299_1 := Aside0.mk hi299_1
                          have HC299_1 := Aside0.mk hl299_1
                          clear hi299_1 hl299_1
                          replace p299 := eq_true p299
                          replace q299 := eq_true q299
                          (try (injection Option.some.inj (hx299_1.symm.trans HS0_) with f1_ f2_ f3_; subst f1_; subst f3_))
                          (try (injection Option.some.inj (hx299_1.symm.trans HS1_) with f1_ f2_ f3_; subst f1_; subst f3_))
                          (try (injection Option.some.inj (hx299_1.symm.trans HS2_) with f1_ f2_ f3_; subst f1_; subst f3_))
                          (try (injection Option.some.inj (hx299_1.symm.trans HS3_) with f1_ f2_ f3_; subst f1_; subst f3_))
                          try go_wp2_with (first | ((with_reducible refine gate_builtin (b := .append) (xs := #[.tmp 133, .tmp 138]) rfl ?_); at_builtin; refine Kd.N_append k34 (w0 := w) w.heap.size rfl (.tmp 133) (.tmp 138) 64 34 (.agg #[(.int .i64 0), (.slice none 0 0)]) 32 rfl Tryd.underlying64 info34 rfl (by decide) (by omega) u12 x12_5 (⟨(rd_T34 x3_3 x17_5).f0, (rd_T34 x3_3 x17_5).f1⟩ : S34) [.int .i64 ((rd_T34 x3_3 x17_5).f0), .slice A299_1 ((rd_T34 x3_3 x17_5).f1).length c299_1] (fun k_ => (w.heap.size ≤ k_) ∧ some k_ ≠ (.slice (some ad292) x3_3.length co34 : Value).ownBlock) (fun k_ => ((fun k_ => (w.heap.size ≤ k_) ∧ some k_ ≠ (.slice (some ad292) x3_3.length co34 : Value).ownBlock)) k_ ∧ some k_ ≠ (u12 : Value).ownBlock) rfl rfl ?aP (fun _ hk => hk) ?aF ?aO ?aB ?aS ?aL ?_; (case aP => exact (k34_mkF _ _ (⟨(rd_T34 x3_3 x17_5).f0, (rd_T34 x3_3 x17_5).f1⟩ : S34) (Kd.V_reads' (Kd.V_mono (ok' := (fun k_ => ((fun k_ => (w.heap.size ≤ k_) ∧ some k_ ≠ (.slice (some ad292) x3_3.length co34 : Value).ownBlock)) k_ ∧ some k_ ≠ (u12 : Value).ownBlock)) (HL299_1.out) (fun k_ hk => ⟨⟨hk.1.1, hk.2⟩, hk.1.2⟩))).2.1 (Kd.V_F (Kd.V_mono (ok' := (fun k_ => ((fun k_ => (w.heap.size ≤ k_) ∧ some k_ ≠ (.slice (some ad292) x3_3.length co34 : Value).ownBlock)) k_ ∧ some k_ ≠ (u12 : Value).ownBlock)) (HL299_1.out) (fun k_ hk => ⟨⟨hk.1.1, hk.2⟩, hk.1.2⟩))))); (case aB => exact hB); (case aF => exact (fun k_ hk => ⟨(Nat.le_trans (below_size hB) hk), Kd.fresh' (Kd.N_lt (by (with_reducible repeat (first | apply Kd.N_alloc | apply Kd.N_drewN | apply Kd.N_drew)); exact HO_3.out)) k_ hk⟩)); (case aO => exact (by (with_reducible repeat (first | apply Kd.N_alloc | apply Kd.N_drewN | apply Kd.N_drew)); exact HO_12.out)); (case aS => exact (below_size hB)); (case aL => have := LMc58.out; omega); intro v301 w61 ho hb hg hat; rw [← Ny300.out] at ho; have n0_ := Aside0.mk (Kd.N_afterv (ok := (fun k_ => (w.heap.size ≤ k_))) (by (with_reducible repeat (first | apply Kd.N_alloc | apply Kd.N_drewN | apply Kd.N_drew)); exact HO_3.out) hg hat); have n1_ := Aside0.mk (Kd.V_afterv (ok := (fun k_ => (w.heap.size ≤ k_) ∧ some k_ ≠ (.slice (some ad292) x3_3.length co34 : Value).ownBlock)) (by (with_reducible repeat (first | apply Kd.V_alloc | apply Kd.V_drewN | apply Kd.V_drew)); exact Kd.V_mono HL292_1.out (fun _ hk => ⟨⟨hk.1.1, hk.2⟩, hk.1.2⟩)) hg hat); have n2_ := Aside0.mk (Kd.V_afterv (ok := (fun k_ => (w.heap.size ≤ k_) ∧ some k_ ≠ (.slice (some ad292) x3_3.length co34 : Value).ownBlock)) (by (with_reducible repeat (first | apply Kd.V_alloc | apply Kd.V_drewN | apply Kd.V_drew)); exact Kd.V_mono HL293_1.out (fun _ hk => ⟨⟨hk.1.1, hk.2⟩, hk.1.2⟩)) hg hat); have n3_ := Aside0.mk (Kd.V_afterv (ok := (fun k_ => (w.heap.size ≤ k_) ∧ some k_ ≠ (.slice (some ad292) x3_3.length co34 : Value).ownBlock)) (by (with_reducible repeat (first | apply Kd.V_alloc | apply Kd.V_drewN | apply Kd.V_drew)); exact Kd.V_mono HL299_1.out (fun _ hk => ⟨⟨hk.1.1, hk.2⟩, hk.1.2⟩)) hg hat); have n4_ := Aside0.mk (hb); have n5_ := Aside0.mk (ho); clear HO_3; clear HL292_1; clear HL293_1; clear HL299_1; clear HB; clear HO_12; have HO_3 := n0_; have HL292_1 := n1_; have HL293_1 := n2_; have HL299_1 := n3_; have HB := n4_; have HO302 := n5_; clear n0_ n1_ n2_ n3_ n4_ n5_; clear ho hb hg hat))
                          go_roundg kj37
                          case measure => have := HK1.out; have := HK2.out; have := HK3.out; have := HK4.out; have := HK5.out; have := HJ37.out; omega
                          case rel => exact ⟨(y300), (x16_5), (wrap64 (x17_5 + 1)), (by first | rfl | (simp; done) | (simp [*]; done)), (by first | rfl | (simp; done) | (simp [*]; done)), H', ⟨by have := HK1.out; have := HK2.out; have := HK3.out; have := HK4.out; have := HK5.out; have := HJ37.out; omega⟩, ⟨by (with_reducible repeat (first | apply Kd.N_alloc | apply Kd.N_drewN | apply Kd.N_drew)); exact HO_3.out⟩, ⟨by (with_reducible repeat (first | apply Kd.N_alloc | apply Kd.N_drewN | apply Kd.N_drew)); exact HO302.out⟩, ⟨hB⟩⟩
                         ·rw [if_neg c58] at H
                          exact absurd H (by simp)
                       ·rw [if_neg c51] at H
                        exact absurd H (by simp)
                      ·rw [if_neg c50] at H
                       exact absurd H (by simp)
                     ·rw [if_neg c49] at H
                      exact absurd H (by simp)
                    ·rw [if_neg c48] at H
                     exact absurd H (by simp)
                   ·rw [if_neg c47] at H
                    have c47b0 : decide (x16_5 < t286) = false := decide_eq_false c47
                    clear c47
                    by_cases c62 : 0 ≤ x17_5
                    ·rw [if_pos c62] at H
                     have c62b0 : decide (0 ≤ x17_5) = true := decide_eq_true c62
                     clear c62
                     by_cases c63 : x17_5 < (x3_3.length : Int)
                     ·rw [if_pos c63] at H
                      have c63b0 : decide (x17_5 < (x3_3.length : Int)) = true := decide_eq_true c63
                      clear c63
                      by_cases c64 : x12_5.length < 4398046511104
                      ·rw [if_pos c64] at H
                       have LMc64 := Aside0.mk c64
                       clear c64
                       obtain ⟨y304, hy304⟩ : ∃ y_ : List (S34), y_ = (x12_5 ++ [(⟨(rd_T34 x3_3 x17_5).f0, (rd_T34 x3_3 x17_5).f1⟩ : S34)]) := ⟨_, rfl⟩
                       replace H : (spec_pzParties.l6 kj37 x3_3 x11_3 y304 x13_4 t286 t287 x16_5 (wrap64 (x17_5 + 1))) = some r := by first | (rw [hy304]; with_reducible exact H) | (have H2_ := (Option.bind_some _ _).symm.trans H; rw [hy304]; with_reducible exact H2_) | (have H2_ := (Option.bind_some _ _).symm.trans H; with_reducible exact H2_) | with_reducible exact H | (rw [hy304]; exact H) | exact H
                       have Ny304 := Aside0.mk hy304
                       clear hy304
                       have H' := Aside0.mk H
                       clear H
                       try go_wp2
                       have n0_ := Aside0.mk (Kd.N_drew HO_3.out)
                       have n1_ := Aside0.mk (Kd.N_drew HO_12.out)
                       have n2_ := Aside0.mk (below_drew1 HB.out)
                       clear HO_3
                       clear HO_12
                       clear HB
                       have HO_3 := n0_
                       have HO_12 := n1_
                       have HB := n2_
                       clear n0_ n1_ n2_
                       refine start_ (n := 19) (S := fun w' => True) (ds := []) (bz 19 0) (by kernel_rfl) rfl rfl trivial (fun hHeld => ?_); refine with_tabW spec_pzParties.tab31 spec_pzParties.bits31 (fun HT_ HW_ => ?_)
                       generalize wc.drew = w65 at HO_3 HO_12 HB hHeld ⊢
                       refine run_ [(0, 0, 1, some 105), (0, 1, 3, some 106), (0, 2, 7, some 107), (0, 3, 15, some 108), (0, 4, 31, some 109), (0, 5, 63, some 110), (0, 6, 127, some 111), (0, 7, 255, some 112), (2, 8, 511, some 113), (2, 9, 1023, some 114), (2, 10, 2047, some 115), (2, 11, 4095, some 116), (2, 12, 8191, some 117), (2, 13, 16383, some 118), (2, 14, 32767, some 119), (2, 15, 65535, some 120), (2, 16, 131071, some 121), (0, 17, 262143, some 122), (0, 18, 524287, some 123)] ?_
                       repeat (first | (apply tag0; refine run_p (v := ?_) (a' := ?_) rfl rfl (any_of HT_.out (by kernel_rfl)) (fun _ _ _ h => h) (by rfl) ?_ ?_ ?_; rotate_left 2; (intro w'; go_simp; with_reducible rfl); (first | (simp only [Act.put, List.setIfInBounds_toArray, List.set_cons_zero, List.set_cons_succ, i64_w, i32_w]; rfl) | rfl)) | (apply tag2; refine run_o (a' := ?_) rfl rfl (any_of HT_.out (by kernel_rfl)) (fun _ _ _ h => h) (by rfl) ?_ ?_; rotate_left; (first | (simp only [Act.put, List.setIfInBounds_toArray, List.set_cons_zero, List.set_cons_succ, i64_w, i32_w]; rfl) | rfl)))
                       refine run_nil ?_
                       refine done_ (done_of HT_.out (by kernel_rfl)) ?_
                       have p303 : 0 ≤ (x17_5 : Int) := of_decide_eq_true (by first | (with_reducible assumption) | assumption)
                       have q303 : x17_5 < (x3_3.length : Int) := of_decide_eq_true (by first | (with_reducible assumption) | assumption)
                       obtain ⟨ad303, A303_1, c303_1, e303, hx303_0, hx303_1, hl303_1, hi303_1⟩ := at_T34 (Kd.N_reads' HO_3.out).2.2 x17_5 p303 q303
                       cases e303
                       obtain ⟨ce303, hce303, hMe303, hcc303⟩ := Kd.N_get HO_3.out z34 x17_5 p303 (by first | exact q303 | exact of_decide_eq_true (by first | (with_reducible assumption) | assumption) | (have e_ := (Kd.N_reads' HO_3.out).1; omega))
                       obtain ⟨ua303_1, uc303_1, rfl, ul303_1, ge303_1⟩ := k34_openF hMe303
                       have hv303_1 := hcc303 1 _ rfl
                       rw [add_field _ _ 1 (by omega)] at hv303_1
                       replace hv303_1 := Option.some.inj (hv303_1.symm.trans hx303_1)
                       injection hv303_1 with hva_ hvn_ hvc_
                       rw [hva_] at ge303_1
                       rw [hvc_] at ul303_1
                       have HL303_1 := Aside0.mk (show Kd.V k110 110 _ w.heap.size _ _ ((rd_T34 x3_3 x17_5).f1) from Kd.V_mk ul303_1 ge303_1)
                       clear hva_ hvn_ hvc_ ge303_1 ul303_1
                       clear hcc303 hce303
                       have HR303_1 := Aside0.mk hi303_1
                       have HC303_1 := Aside0.mk hl303_1
                       clear hi303_1 hl303_1
                       replace p303 := eq_true p303
                       replace q303 := eq_true q303
                       (try (injection Option.some.inj (hx303_1.symm.trans HS0_) with f1_ f2_ f3_; subst f1_; subst f3_))
                       (try (injection Option.some.inj (hx303_1.symm.trans HS1_) with f1_ f2_ f3_; subst f1_; subst f3_))
                       (try (injection Option.some.inj (hx303_1.symm.trans HS2_) with f1_ f2_ f3_; subst f1_; subst f3_))
                       (try (injection Option.some.inj (hx303_1.symm.trans HS3_) with f1_ f2_ f3_; subst f1_; subst f3_))
                       try go_wp2_with (first | ((with_reducible refine gate_builtin (b := .append) (xs := #[.tmp 133, .tmp 138]) rfl ?_); at_builtin; refine Kd.N_append k34 (w0 := w) w.heap.size rfl (.tmp 133) (.tmp 138) 64 34 (.agg #[(.int .i64 0), (.slice none 0 0)]) 32 rfl Tryd.underlying64 info34 rfl (by decide) (by omega) u12 x12_5 (⟨(rd_T34 x3_3 x17_5).f0, (rd_T34 x3_3 x17_5).f1⟩ : S34) [.int .i64 ((rd_T34 x3_3 x17_5).f0), .slice A303_1 ((rd_T34 x3_3 x17_5).f1).length c303_1] (fun k_ => (w.heap.size ≤ k_) ∧ some k_ ≠ (.slice (some ad303) x3_3.length co34 : Value).ownBlock) (fun k_ => ((fun k_ => (w.heap.size ≤ k_) ∧ some k_ ≠ (.slice (some ad303) x3_3.length co34 : Value).ownBlock)) k_ ∧ some k_ ≠ (u12 : Value).ownBlock) rfl rfl ?aP (fun _ hk => hk) ?aF ?aO ?aB ?aS ?aL ?_; (case aP => exact (k34_mkF _ _ (⟨(rd_T34 x3_3 x17_5).f0, (rd_T34 x3_3 x17_5).f1⟩ : S34) (Kd.V_reads' (Kd.V_mono (ok' := (fun k_ => ((fun k_ => (w.heap.size ≤ k_) ∧ some k_ ≠ (.slice (some ad303) x3_3.length co34 : Value).ownBlock)) k_ ∧ some k_ ≠ (u12 : Value).ownBlock)) (HL303_1.out) (fun k_ hk => ⟨⟨hk.1.1, hk.2⟩, hk.1.2⟩))).2.1 (Kd.V_F (Kd.V_mono (ok' := (fun k_ => ((fun k_ => (w.heap.size ≤ k_) ∧ some k_ ≠ (.slice (some ad303) x3_3.length co34 : Value).ownBlock)) k_ ∧ some k_ ≠ (u12 : Value).ownBlock)) (HL303_1.out) (fun k_ hk => ⟨⟨hk.1.1, hk.2⟩, hk.1.2⟩))))); (case aB => exact hB); (case aF => exact (fun k_ hk => ⟨(Nat.le_trans (below_size hB) hk), Kd.fresh' (Kd.N_lt (by (with_reducible repeat (first | apply Kd.N_alloc | apply Kd.N_drewN | apply Kd.N_drew)); exact HO_3.out)) k_ hk⟩)); (case aO => exact (by (with_reducible repeat (first | apply Kd.N_alloc | apply Kd.N_drewN | apply Kd.N_drew)); exact HO_12.out)); (case aS => exact (below_size hB)); (case aL => have := LMc64.out; omega); intro v305 w66 ho hb hg hat; rw [← Ny304.out] at ho; have n0_ := Aside0.mk (Kd.N_afterv (ok := (fun k_ => (w.heap.size ≤ k_))) (by (with_reducible repeat (first | apply Kd.N_alloc | apply Kd.N_drewN | apply Kd.N_drew)); exact HO_3.out) hg hat); have n1_ := Aside0.mk (Kd.V_afterv (ok := (fun k_ => (w.heap.size ≤ k_) ∧ some k_ ≠ (.slice (some ad303) x3_3.length co34 : Value).ownBlock)) (by (with_reducible repeat (first | apply Kd.V_alloc | apply Kd.V_drewN | apply Kd.V_drew)); exact Kd.V_mono HL303_1.out (fun _ hk => ⟨⟨hk.1.1, hk.2⟩, hk.1.2⟩)) hg hat); have n2_ := Aside0.mk (hb); have n3_ := Aside0.mk (ho); clear HO_3; clear HL303_1; clear HB; clear HO_12; have HO_3 := n0_; have HL303_1 := n1_; have HB := n2_; have HO306 := n3_; clear n0_ n1_ n2_ n3_; clear ho hb hg hat))
                       go_roundg kj37
                       case measure => have := HK1.out; have := HK2.out; have := HK3.out; have := HK4.out; have := HK5.out; have := HJ37.out; omega
                       case rel => exact ⟨(y304), (x16_5), (wrap64 (x17_5 + 1)), (by first | rfl | (simp; done) | (simp [*]; done)), (by first | rfl | (simp; done) | (simp [*]; done)), H', ⟨by have := HK1.out; have := HK2.out; have := HK3.out; have := HK4.out; have := HK5.out; have := HJ37.out; omega⟩, ⟨by (with_reducible repeat (first | apply Kd.N_alloc | apply Kd.N_drewN | apply Kd.N_drew)); exact HO_3.out⟩, ⟨by (with_reducible repeat (first | apply Kd.N_alloc | apply Kd.N_drewN | apply Kd.N_drew)); exact HO306.out⟩, ⟨hB⟩⟩
                      ·rw [if_neg c64] at H
                       exact absurd H (by simp)
                     ·rw [if_neg c63] at H
                      exact absurd H (by simp)
                    ·rw [if_neg c62] at H
                     exact absurd H (by simp)
                 ·replace c40 := Bool.eq_false_iff.mpr c40
                  subst c40
                  have H1 : (spec_pzParties.l5 kj37 x3_3 x11_3 x12_5 (wrap64 (x13_4 + (wrap64 (2 * x11_3))))) = some r := by rw [if_neg (show ¬ (false = true) by decide)] at H; exact H
                  clear H
                  have H := H1
                  clear H1
                  have H' := Aside0.mk H
                  clear H
                  go_wp2
                  go_roundg kj37
                  case measure => have := HK1.out; have := HK2.out; have := HK3.out; have := HK4.out; have := HK5.out; have := HJ37.out; omega
                  case rel => exact ⟨(x12_5), (wrap64 (x13_4 + (wrap64 (2 * x11_3)))), (by first | rfl | (simp; done) | (simp [*]; done)), H', ⟨by have := HK1.out; have := HK2.out; have := HK3.out; have := HK4.out; have := HK5.out; have := HJ37.out; omega⟩, ⟨by (with_reducible repeat (first | apply Kd.N_alloc | apply Kd.N_drewN | apply Kd.N_drew)); exact HO_3.out⟩, ⟨by (with_reducible repeat (first | apply Kd.N_alloc | apply Kd.N_drewN | apply Kd.N_drew)); exact HO_12.out⟩, ⟨hB⟩⟩
            ·rw [if_neg c35] at H
             have c35b0 : decide (x13_4 < (x3_3.length : Int)) = false := decide_eq_false c35
             clear c35
             have H' := Aside0.mk H
             clear H
             go_wp2
             go_roundg k4
             case measure => have := HK1.out; have := HK2.out; have := HK3.out; have := HK4.out; omega
             case rel => exact ⟨(x12_4), (wrap64 (x11_3 * 2)), (by first | rfl | (simp; done) | (simp [*]; done)), H', ⟨by have := HK1.out; have := HK2.out; have := HK3.out; have := HK4.out; omega⟩, ⟨by (with_reducible repeat (first | apply Kd.N_alloc | apply Kd.N_drewN | apply Kd.N_drew)); exact Kd.N_mono HO_12.out (fun _ hk => hk.1)⟩, ⟨hB⟩⟩
         ·rw [if_neg c33] at H
          have c33b0 : decide (x11_3 < (x3_3.length : Int)) = false := decide_eq_false c33
          clear c33
          obtain rfl := Option.some.inj H
          obtain ⟨Ao67, co67, eo67⟩ := Kd.N_slice HO_3.out
          subst eo67
          go_wp2
          go_ret
          exact ⟨_, by first | rfl | (simp [errW_none, errW_some] <;> rfl) | (simp only [← hji6]; first | rfl | (simp [errW_none, errW_some] <;> rfl)) | (simp [*, errW_none, errW_some] <;> rfl), by (with_reducible repeat (first | apply Kd.N_alloc | apply Kd.N_drewN | apply Kd.N_drew)); exact HO_3.out, hB⟩

end Go.Proofs.YtdnkipagpagfiaaDoor.PSol
