-- Of this session's own program wip/gen/gen.py (it drives the kit's print): contracts of the functions that the law reaches.
import Derived.Test.YtjpfbkkikcpmhaaDoorPFnExactMostInPairsx0
import Derived.Test.YtjpfbkkikcpmhaaDoorPFnExactMostInPairsx3
namespace Go.Proofs.YtjpfbkkikcpmhaaDoor.PFnExactMostInPairs
open Go.RowKit Go.Proofs.YtjpfbkkikcpmhaaDoorW.PrintWords Go.Proofs.YtjpfbkkikcpmhaaDoorW.PrintLast Go.Proofs.YtjpfbkkikcpmhaaDoorW.PrintMore Go.Proofs.YtjpfbkkikcpmhaaDoor.Base
attribute [local go_sem] max2_int min2_int max_two min_two max_three min_three max_four min_four   -- for this text's walks alone
set_option linter.unusedVariables false
set_option linter.unusedSimpArgs false

/-! ### spec_taMost: function 86 -/
mutual
def spec_taMost.j1 : Nat → List (List Bool) → List Bool → Int → Option (Int × List Bool)
 | 0, _, _, _ => none
 | k + 1, x0, x1, x2 => if x2 = (x1.length : Int) then (some (0, x1)) else ((spec_taMost.f k x0 x1 (wrap64 (x2 + 1))).bind fun bt163 => (spec_taMost.l1 k x0 bt163.2 x2 bt163.1 (wrap64 (x2 + 1))))
def spec_taMost.l1 : Nat → List (List Bool) → List Bool → Int → Int → Int → Option (Int × List Bool)
 | 0, _, _, _, _, _ => none
 | k + 1, x0, x1, x2, x7, x8 => if x8 < (x1.length : Int) then (if 0 ≤ x2 then (if x2 < (x0.length : Int) then (if 0 ≤ x8 then (if x8 < ((rd_L4 x0 x2).length : Int) then (if rdOf false (rd_L4 x0 x2) x8 = true then (spec_taMost.j3 k x0 x1 x2 x7 x8 (!(rdOf false x1 x8))) else (spec_taMost.j3 k x0 x1 x2 x7 x8 false)) else (none)) else (none)) else (none)) else (none)) else (some (x7, x1))
def spec_taMost.j3 : Nat → List (List Bool) → List Bool → Int → Int → Int → Bool → Option (Int × List Bool)
 | 0, _, _, _, _, _, _ => none
 | k + 1, x0, x1, x2, x7, x8, x51 => if x51 = true then (if 0 ≤ x8 then (if x8 < (x1.length : Int) then ((spec_taMost.f k x0 (x1.set (x8 : Int).toNat true) (wrap64 (x2 + 1))).bind fun bt169 => ((spec_l1Most.f x7 (wrap64 (1 + bt169.1))).bind fun t171 => (spec_taMost.l1 k x0 (bt169.2.set (x8 : Int).toNat false) x2 t171 (wrap64 (x8 + 1))))) else (none)) else (none)) else (spec_taMost.l1 k x0 x1 x2 x7 (wrap64 (x8 + 1)))
def spec_taMost.l0 : Nat → List (List Bool) → List Bool → Int → Option (Int × List Bool)
 | 0, _, _, _ => none
 | k + 1, x0, x1, x2 => if x2 < (x1.length : Int) then (if 0 ≤ x2 then (if rdOf false x1 x2 = true then (spec_taMost.l0 k x0 x1 (wrap64 (x2 + 1))) else (spec_taMost.j1 k x0 x1 x2)) else (none)) else (spec_taMost.j1 k x0 x1 x2)
def spec_taMost.f : Nat → List (List Bool) → List Bool → Int → Option (Int × List Bool)
 | 0, _, _, _ => none
 | k + 1, l0, l1, a2 => spec_taMost.l0 k l0 l1 a2
end
theorem spec_taMost.mono_l : ∀ k, (∀ y0 y1 y2, LeO (spec_taMost.f k y0 y1 y2) (spec_taMost.f (k + 1) y0 y1 y2)) ∧ (∀ y0 y1 y2, LeO (spec_taMost.j1 k y0 y1 y2) (spec_taMost.j1 (k + 1) y0 y1 y2)) ∧ (∀ y0 y1 y2 y3 y4, LeO (spec_taMost.l1 k y0 y1 y2 y3 y4) (spec_taMost.l1 (k + 1) y0 y1 y2 y3 y4)) ∧ (∀ y0 y1 y2 y3 y4 y5, LeO (spec_taMost.j3 k y0 y1 y2 y3 y4 y5) (spec_taMost.j3 (k + 1) y0 y1 y2 y3 y4 y5)) ∧ (∀ y0 y1 y2, LeO (spec_taMost.l0 k y0 y1 y2) (spec_taMost.l0 (k + 1) y0 y1 y2))
 | 0 => ⟨fun _ _ _ r h => by simp [spec_taMost.f] at h, fun _ _ _ r h => by simp [spec_taMost.j1] at h, fun _ _ _ _ _ r h => by simp [spec_taMost.l1] at h, fun _ _ _ _ _ _ r h => by simp [spec_taMost.j3] at h, fun _ _ _ r h => by simp [spec_taMost.l0] at h⟩
 | k + 1 => by
  obtain ⟨ih0, ih1, ih2, ih3, ih4⟩ := spec_taMost.mono_l k
  refine ⟨?_, ?_, ?_, ?_, ?_⟩
  ·intro y0 y1 y2
   unfold spec_taMost.f
   repeat' first
   | (with_reducible exact ih0 _ _ _)
   | (with_reducible exact ih1 _ _ _)
   | (with_reducible exact ih2 _ _ _ _ _)
   | (with_reducible exact ih3 _ _ _ _ _ _)
   | (with_reducible exact ih4 _ _ _)
   | (with_reducible exact LeO.refl _)
   | (with_reducible exact LeO.none _)
   | (with_reducible refine LeO.ite ?_ ?_)
   | (with_reducible refine LeO.bind ?_ (fun _ => ?_))
   | exact ih0 _ _ _
   | exact ih1 _ _ _
   | exact ih2 _ _ _ _ _
   | exact ih3 _ _ _ _ _ _
   | exact ih4 _ _ _
   | exact LeO.none _
   | refine LeO.ite ?_ ?_
   | refine LeO.bind ?_ (fun _ => ?_)
  ·intro y0 y1 y2
   unfold spec_taMost.j1
   repeat' first
   | (with_reducible exact ih0 _ _ _)
   | (with_reducible exact ih1 _ _ _)
   | (with_reducible exact ih2 _ _ _ _ _)
   | (with_reducible exact ih3 _ _ _ _ _ _)
   | (with_reducible exact ih4 _ _ _)
   | (with_reducible exact LeO.refl _)
   | (with_reducible exact LeO.none _)
   | (with_reducible refine LeO.ite ?_ ?_)
   | (with_reducible refine LeO.bind ?_ (fun _ => ?_))
   | exact ih0 _ _ _
   | exact ih1 _ _ _
   | exact ih2 _ _ _ _ _
   | exact ih3 _ _ _ _ _ _
   | exact ih4 _ _ _
   | exact LeO.none _
   | refine LeO.ite ?_ ?_
   | refine LeO.bind ?_ (fun _ => ?_)
  ·intro y0 y1 y2 y3 y4
   unfold spec_taMost.l1
   repeat' first
   | (with_reducible exact ih0 _ _ _)
   | (with_reducible exact ih1 _ _ _)
   | (with_reducible exact ih2 _ _ _ _ _)
   | (with_reducible exact ih3 _ _ _ _ _ _)
   | (with_reducible exact ih4 _ _ _)
   | (with_reducible exact LeO.refl _)
   | (with_reducible exact LeO.none _)
   | (with_reducible refine LeO.ite ?_ ?_)
   | (with_reducible refine LeO.bind ?_ (fun _ => ?_))
   | exact ih0 _ _ _
   | exact ih1 _ _ _
   | exact ih2 _ _ _ _ _
   | exact ih3 _ _ _ _ _ _
   | exact ih4 _ _ _
   | exact LeO.none _
   | refine LeO.ite ?_ ?_
   | refine LeO.bind ?_ (fun _ => ?_)
  ·intro y0 y1 y2 y3 y4 y5
   unfold spec_taMost.j3
   repeat' first
   | (with_reducible exact ih0 _ _ _)
   | (with_reducible exact ih1 _ _ _)
   | (with_reducible exact ih2 _ _ _ _ _)
   | (with_reducible exact ih3 _ _ _ _ _ _)
   | (with_reducible exact ih4 _ _ _)
   | (with_reducible exact LeO.refl _)
   | (with_reducible exact LeO.none _)
   | (with_reducible refine LeO.ite ?_ ?_)
   | (with_reducible refine LeO.bind ?_ (fun _ => ?_))
   | exact ih0 _ _ _
   | exact ih1 _ _ _
   | exact ih2 _ _ _ _ _
   | exact ih3 _ _ _ _ _ _
   | exact ih4 _ _ _
   | exact LeO.none _
   | refine LeO.ite ?_ ?_
   | refine LeO.bind ?_ (fun _ => ?_)
  ·intro y0 y1 y2
   unfold spec_taMost.l0
   repeat' first
   | (with_reducible exact ih0 _ _ _)
   | (with_reducible exact ih1 _ _ _)
   | (with_reducible exact ih2 _ _ _ _ _)
   | (with_reducible exact ih3 _ _ _ _ _ _)
   | (with_reducible exact ih4 _ _ _)
   | (with_reducible exact LeO.refl _)
   | (with_reducible exact LeO.none _)
   | (with_reducible refine LeO.ite ?_ ?_)
   | (with_reducible refine LeO.bind ?_ (fun _ => ?_))
   | exact ih0 _ _ _
   | exact ih1 _ _ _
   | exact ih2 _ _ _ _ _
   | exact ih3 _ _ _ _ _ _
   | exact ih4 _ _ _
   | exact LeO.none _
   | refine LeO.ite ?_ ?_
   | refine LeO.bind ?_ (fun _ => ?_)
theorem spec_taMost.mono : ∀ a0 a1 a2 k, LeO (spec_taMost.f k a0 a1 a2) (spec_taMost.f (k + 1) a0 a1 a2) := by
 intro a0 a1 a2 k
 obtain ⟨ih0, ih1, ih2, ih3, ih4⟩ := spec_taMost.mono_l k
 exact ih0 a0 a1 a2
set_option maxHeartbeats 8000000 in
set_option maxRecDepth 100000 in
theorem spec_taMost.calls (k : Nat) : ∀ (A0 : Option Addr) (c0 : Nat) (l0 : List (List Bool)) (P1_ : Nat → Prop) (u9000_ : Value) (l1 : List Bool) (a2 : Int) (r1 : Int) (r2 : List Bool) (w0 w : World) (hB : Below w0.heap.size w0 w) (hr0 : ∀ W_, Kept w W_ (fun k_ => P1_ k_) → Kd.C (Kd.slice 4 Kd.bool) W_ A0 l0.length l0) (hc0 : l0.length ≤ c0) (ho1 : Kd.R Kd.bool 4 w w0.heap.size P1_ u9000_ l1) (h : spec_taMost.f k l0 l1 a2 = some (r1, r2)),
  Calls Tryd.prog 86 #[.slice A0 l0.length c0, u9000_, .int .i64 a2] w fun e w' => e = .returned (.int .i64 r1) ∧ Kd.R Kd.bool 4 w' w0.heap.size (fun k_ => (P1_ k_ ∨ w.heap.size ≤ k_)) u9000_ r2 ∧ Below w0.heap.size w0 w' ∧ Kept w w' (fun k_ => P1_ k_) := by
 induction k using Nat.strongRecOn with
 | _ k ih =>
 intro A0 c0 l0 P1_ u9000_ l1 a2 r1 r2 w0 w hB hr0 hc0 ho1 h
 cases k with
 | zero => exact absurd h (by simp [spec_taMost.f])
 | succ k =>
 simp only [spec_taMost.f] at h
 have HR0 := Aside0.mk hr0
 have HC0 := Aside0.mk hc0
 clear hr0 hc0
 have HO1 := Aside0.mk (show Kd.R Kd.bool 4 w w0.heap.size (fun k_ => (P1_ k_ ∨ w.heap.size ≤ k_)) u9000_ l1 from Kd.R_mono ho1 (fun k_ hk => (.inl hk)))
 have HK := Aside0.mk (Kept.refl w (fun k_ => P1_ k_))
 have HW0 := Aside0.mk hB.size
 have HB := Aside0.mk hB
 clear hB
 have H : (spec_taMost.l0 k l0 l1 a2) = some (r1, r2) := h
 clear h
 have HC4 := Aside0.mk H
 clear H
 go_enter Tryd.func86, Tryd.ntmps86
 go_upto_block 0 with (fail)
 go_cut [2] (fun v2 wc => ∃ (kq : Nat) (x2_3 : Int), v2 = .int .i64 x2_3 ∧ Aside0 (spec_taMost.j1 kq l0 l1 x2_3 = some (r1, r2)) ∧ Aside0 (kq ≤ k) ∧ Aside0 (Kd.R Kd.bool 4 wc w0.heap.size (fun k_ => (P1_ k_ ∨ w.heap.size ≤ k_)) u9000_ l1) ∧ Aside0 (Kept w wc (fun k_ => P1_ k_)) ∧ Aside0 (Below w0.heap.size w0 wc))
 case first =>
  have H := HC4.out
  clear HC4
  have H' := Aside0.mk H
  clear H
  go_wp2
  go_loopg [2] k (fun kq v2 w' => ∃ (x2_1 : Int), v2 = .int .i64 x2_1 ∧ Aside0 (spec_taMost.l0 kq l0 l1 x2_1 = some (r1, r2)) ∧ Aside0 (kq ≤ k) ∧ Aside0 (Kd.R Kd.bool 4 w' w0.heap.size (fun k_ => (P1_ k_ ∨ w.heap.size ≤ k_)) u9000_ l1) ∧ Aside0 (Kept w w' (fun k_ => P1_ k_)) ∧ Aside0 (Below w0.heap.size w0 w'))
  case atStart => exact ⟨(a2), (by first | rfl | (simp; done) | (simp [*]; done)), H', ⟨Nat.le_refl _⟩, ⟨rU HO1⟩, ⟨by repeat (first | (with_reducible first | exact HK.out | apply Kept.alloc | apply Kept.drewN | apply Kept.drew) | exact HK.out)⟩, ⟨hB⟩⟩
  case round =>
   clear H'
   try clear p2
   obtain ⟨x2_1, rfl, HA, HK1, HO_1, HK, HB⟩ := hrel
   cases gk with
   | zero => exact absurd HA.out (by simp [spec_taMost.l0])
   | succ k1 =>
    have H := HA.out
    clear HA
    simp only [spec_taMost.l0] at H
    by_cases c5 : x2_1 < (l1.length : Int)
    ·rw [if_pos c5] at H
     have c5b0 : decide (x2_1 < (l1.length : Int)) = true := decide_eq_true c5
     clear c5
     (first | rw [c5b0] | (simp only [i64_w, i32_w]; rw [c5b0]) | skip)
     by_cases c6 : 0 ≤ x2_1
     ·rw [if_pos c6] at H
      have c6b0 : decide (0 ≤ x2_1) = true := decide_eq_true c6
      clear c6
      obtain ⟨bq7, hbq7⟩ : ∃ b_ : Bool, b_ = (rdOf false l1 x2_1) := ⟨_, rfl⟩
      replace H : (if bq7 = true then (spec_taMost.l0 k1 l0 l1 (wrap64 (x2_1 + 1))) else (spec_taMost.j1 k1 l0 l1 x2_1)) = some (r1, r2) := by rw [← hbq7] at H; exact H
      have Nbq7 := Aside0.mk hbq7
      clear hbq7
      by_cases c8 : bq7 = true
      ·subst c8
       rw [if_pos rfl] at H
       have H' := Aside0.mk H
       clear H
       obtain ⟨Ao9, co9, eo9⟩ := Kd.R_slice HO_1.out
       subst eo9
       have p162 : 0 ≤ (x2_1 : Int) := of_decide_eq_true (by first | (with_reducible assumption) | assumption)
       have q162 : x2_1 < (l1.length : Int) := of_decide_eq_true (by first | (with_reducible assumption) | assumption)
       obtain ⟨ad162, e162, hx162_0⟩ := Kd.at_bool (Kd.R_reads' HO_1.out).2.2 x2_1 p162 q162
       (try rw [← Nbq7.out] at hx162_0)
       cases e162
       replace p162 := eq_true p162
       replace q162 := eq_true q162
       go_wp2
       go_roundg k1
       case measure => have := HK1.out; omega
       case rel => exact ⟨(wrap64 (x2_1 + 1)), (by first | rfl | (simp; done) | (simp [*]; done)), H', ⟨by have := HK1.out; omega⟩, ⟨rU HO_1⟩, ⟨by repeat (first | (with_reducible first | exact HK.out | apply Kept.alloc | apply Kept.drewN | apply Kept.drew) | exact HK.out)⟩, ⟨hB⟩⟩
      ·replace c8 := Bool.eq_false_iff.mpr c8
       subst c8
       rw [if_neg (show ¬ (false = true) by decide)] at H
       have H' := Aside0.mk H
       clear H
       obtain ⟨Ao10, co10, eo10⟩ := Kd.R_slice HO_1.out
       subst eo10
       have p162 : 0 ≤ (x2_1 : Int) := of_decide_eq_true (by first | (with_reducible assumption) | assumption)
       have q162 : x2_1 < (l1.length : Int) := of_decide_eq_true (by first | (with_reducible assumption) | assumption)
       obtain ⟨ad162, e162, hx162_0⟩ := Kd.at_bool (Kd.R_reads' HO_1.out).2.2 x2_1 p162 q162
       (try rw [← Nbq7.out] at hx162_0)
       cases e162
       replace p162 := eq_true p162
       replace q162 := eq_true q162
       go_wp2
       go_meet
       case rel => exact ⟨_, (x2_1), (by first | rfl | (simp; done) | (simp [*]; done)), H', ⟨by have := HK1.out; first | omega | exact Nat.le_refl _⟩, ⟨rU HO_1⟩, ⟨by repeat (first | (with_reducible first | exact HK.out | apply Kept.alloc | apply Kept.drewN | apply Kept.drew) | exact HK.out)⟩, ⟨hB⟩⟩
     ·rw [if_neg c6] at H
      exact absurd H (by simp)
    ·rw [if_neg c5] at H
     have c5b0 : decide (x2_1 < (l1.length : Int)) = false := decide_eq_false c5
     clear c5
     (first | rw [c5b0] | (simp only [i64_w, i32_w]; rw [c5b0]) | skip)
     have H' := Aside0.mk H
     clear H
     obtain ⟨Ao11, co11, eo11⟩ := Kd.R_slice HO_1.out
     subst eo11
     go_wp2
     go_meet
     case rel => exact ⟨_, (x2_1), (by first | rfl | (simp; done) | (simp [*]; done)), H', ⟨by have := HK1.out; first | omega | exact Nat.le_refl _⟩, ⟨rU HO_1⟩, ⟨by repeat (first | (with_reducible first | exact HK.out | apply Kept.alloc | apply Kept.drewN | apply Kept.drew) | exact HK.out)⟩, ⟨hB⟩⟩
 case rest =>
  clear HC4
  try clear p1
  try clear q1
  try clear hx1
  try clear p2
  try clear c5
  try clear c5b0
  try clear c6
  try clear c6b0
  try clear p6
  try clear q7
  try clear c8
  try clear hx162_0
  try clear p162
  try clear p2
  try clear q162
  obtain ⟨kq, x2_3, rfl, HA, HJ3, HO_1, HK, HB⟩ := hcut
  cases kq with
  | zero => exact absurd HA.out (by simp [spec_taMost.j1])
  | succ kj3 =>
   have H := HA.out
   clear HA
   simp only [spec_taMost.j1] at H
   by_cases c12 : x2_3 = (l1.length : Int)
   ·rw [if_pos c12] at H
    have c12b0 : (x2_3 == (l1.length : Int)) = true := beq_iff_eq.mpr c12
    have c12b1 : (x2_3 != (l1.length : Int)) = false := bne_eq_false_iff_eq.mpr c12
    clear c12
    simp only [Option.some.injEq, Prod.mk.injEq] at H
    obtain ⟨rfl, rfl⟩ := H
    obtain ⟨Ao13, co13, eo13⟩ := Kd.R_slice HO_1.out
    subst eo13
    go_wp2
    go_ret
    exact ⟨by first | rfl | (simp [errW_none, errW_some] <;> rfl) | (simp [*, errW_none, errW_some] <;> rfl), rU HO_1, hB, by repeat (first | (with_reducible first | exact HK.out | apply Kept.alloc | apply Kept.drewN | apply Kept.drew) | exact HK.out)⟩
   ·rw [if_neg c12] at H
    have c12b0 : (x2_3 == (l1.length : Int)) = false := beq_eq_false_iff_ne.mpr c12
    have c12b1 : (x2_3 != (l1.length : Int)) = true := bne_iff_ne.mpr c12
    replace H := Option.bind_eq_some_iff.mp H
    obtain ⟨⟨t163, t164⟩, A140, H⟩ := H
    try dsimp only at H
    have A14 := Aside0.mk A140
    clear A140
    have H' := Aside0.mk H
    clear H
    obtain ⟨Ao15, co15, eo15⟩ := Kd.R_slice HO_1.out
    subst eo15
    go_wp2_with (first | ((with_reducible refine gate_callee (f := 86) rfl ?_); refine goC (N := some 29) Tryd.func86 #[.slice A0 l0.length c0, .slice Ao15 l1.length co15, .int .i64 (wrap64 (x2_3 + 1))] rfl ?_; (with_reducible refine (ih kj3 (by have := HJ3.out; omega) _ _ l0 (fun k_ => some k_ = (.slice Ao15 l1.length co15 : Value).ownBlock) (.slice Ao15 l1.length co15) l1 (wrap64 (x2_3 + 1)) t163 t164 w0 _ ?side1 ?side2 ?side3 ?side4 A14.out).mono ?_); (case side1 => repeat (first | (with_reducible first | exact HB.out | apply below_alloc | apply pw_below_drewN | apply below_drew1) | exact HB.out)); (case side2 => exact Kd.C_kept_call HR0.out (by repeat (first | (with_reducible first | exact HK.out | apply Kept.alloc | apply Kept.drewN | apply Kept.drew) | exact HK.out)) (fun k_ hs_ => (fun e_ => (HO_1.out.1 k_ e_.symm)) hs_)); (case side3 => exact HC0.out); (case side4 => exact Kd.R_tight rfl HO_1.out); rintro e w16 ⟨rfl, hy0, hb, hkp⟩; refine ⟨_, rfl, ?_⟩; replace HK := Aside0.mk (Kept.then_ (S := (fun k_ => P1_ k_)) (by repeat (first | (with_reducible first | exact HK.out | apply Kept.alloc | apply Kept.drewN | apply Kept.drew) | exact HK.out)) hkp (fun k_ hs_ => (fun e_ => (HO_1.out.1 k_ e_.symm)) hs_)); replace HO_1 := Aside0.mk (Kd.R_reok rfl hy0 (fun k_ e_ => HO_1.out.1 k_ e_)); replace HB := Aside0.mk (hb); (try clear hb); (try clear hkp); (try clear hy0)))
    go_loopg [7, 8] kj3 (fun kq v7 v8 w' => ∃ (x1_2 : List Bool) (x7_2 : Int) (x8_2 : Int), v7 = .int .i64 x7_2 ∧ v8 = .int .i64 x8_2 ∧ Aside0 (spec_taMost.l1 kq l0 x1_2 x2_3 x7_2 x8_2 = some (r1, r2)) ∧ Aside0 (kq ≤ kj3) ∧ Aside0 (Kd.R Kd.bool 4 w' w0.heap.size (fun k_ => (P1_ k_ ∨ w.heap.size ≤ k_)) (.slice Ao15 l1.length co15) x1_2) ∧ Aside0 (Kept w w' (fun k_ => P1_ k_)) ∧ Aside0 (Below w0.heap.size w0 w'))
    case atStart => exact ⟨(t164), (t163), (wrap64 (x2_3 + 1)), (by first | rfl | (simp; done) | (simp [*]; done)), (by first | rfl | (simp; done) | (simp [*]; done)), H', ⟨Nat.le_refl _⟩, ⟨rU HO_1⟩, ⟨by repeat (first | (with_reducible first | exact HK.out | apply Kept.alloc | apply Kept.drewN | apply Kept.drew) | exact HK.out)⟩, ⟨hB⟩⟩
    case round =>
     clear H'
     try clear c1
     try clear p1
     try clear q1
     try clear hx1
     try clear p2
     try clear c5
     try clear c5b0
     try clear c6
     try clear c6b0
     try clear p6
     try clear q7
     try clear c8
     try clear c12
     try clear c12b0
     try clear c12b1
     try clear p16
     try clear q16
     try clear hx16
     try clear hx162_0
     try clear p1
     try clear p162
     try clear p2
     try clear p6
     try clear q1
     try clear q162
     try clear q7
     obtain ⟨x1_2, x7_2, x8_2, rfl, rfl, HA, HK2, HO_1, HK, HB⟩ := hrel
     have hl1_2 := (Kd.R_reads' HO_1.out).1
     rw [hl1_2] at HO_1
     (try simp only [hl1_2])
     cases gk with
     | zero => exact absurd HA.out (by simp [spec_taMost.l1])
     | succ k2 =>
      have H := HA.out
      clear HA
      simp only [spec_taMost.l1] at H
      by_cases c17 : x8_2 < (x1_2.length : Int)
      ·rw [if_pos c17] at H
       have c17b0 : decide (x8_2 < (x1_2.length : Int)) = true := decide_eq_true c17
       (try (have c17b0m := c17b0; simp only [hl1_2] at c17b0m))
       clear c17
       have HC18 := Aside0.mk H
       clear H
       go_upto_region 9 with (fail)
       go_cut [51] (fun v51 wc => ∃ (kq : Nat) (x51_17 : Bool), v51 = .bool x51_17 ∧ Aside0 (spec_taMost.j3 kq l0 x1_2 x2_3 x7_2 x8_2 x51_17 = some (r1, r2)) ∧ Aside0 (kq ≤ k2) ∧ Aside0 (Kd.R Kd.bool 4 wc w0.heap.size (fun k_ => (P1_ k_ ∨ w.heap.size ≤ k_)) (.slice Ao15 x1_2.length co15) x1_2) ∧ Aside0 (Kept w wc (fun k_ => P1_ k_)) ∧ Aside0 (Below w0.heap.size w0 wc))
       case first =>
        have H := HC18.out
        clear HC18
        by_cases c19 : 0 ≤ x2_3
        ·rw [if_pos c19] at H
         have c19b0 : decide (0 ≤ x2_3) = true := decide_eq_true c19
         clear c19
         (first | rw [c19b0] | (simp only [i64_w, i32_w]; rw [c19b0]) | skip)
         by_cases c20 : x2_3 < (l0.length : Int)
         ·rw [if_pos c20] at H
          have c20b0 : decide (x2_3 < (l0.length : Int)) = true := decide_eq_true c20
          (try (have c20b0m := c20b0; simp only [hl1_2] at c20b0m))
          clear c20
          by_cases c21 : 0 ≤ x8_2
          ·rw [if_pos c21] at H
           have c21b0 : decide (0 ≤ x8_2) = true := decide_eq_true c21
           clear c21
           by_cases c22 : x8_2 < ((rd_L4 l0 x2_3).length : Int)
           ·rw [if_pos c22] at H
            have c22b0 : decide (x8_2 < ((rd_L4 l0 x2_3).length : Int)) = true := decide_eq_true c22
            (try (have c22b0m := c22b0; simp only [hl1_2] at c22b0m))
            clear c22
            obtain ⟨bq23, hbq23⟩ : ∃ b_ : Bool, b_ = (rdOf false (rd_L4 l0 x2_3) x8_2) := ⟨_, rfl⟩
            replace H : (if bq23 = true then (spec_taMost.j3 k2 l0 x1_2 x2_3 x7_2 x8_2 (!(rdOf false x1_2 x8_2))) else (spec_taMost.j3 k2 l0 x1_2 x2_3 x7_2 x8_2 false)) = some (r1, r2) := by rw [← hbq23] at H; exact H
            have Nbq23 := Aside0.mk hbq23
            clear hbq23
            by_cases c24 : bq23 = true
            ·subst c24
             rw [if_pos rfl] at H
             have H' := Aside0.mk H
             clear H
             have p165 : 0 ≤ (x2_3 : Int) := of_decide_eq_true (by first | (with_reducible assumption) | assumption)
             have q165 : x2_3 < (l0.length : Int) := of_decide_eq_true (by first | (with_reducible assumption) | assumption)
             obtain ⟨ad165, A165_0, c165_0, e165, hx165_0, hl165_0, hi165_0⟩ := at_L4 (Kd.C_kept_now HR0.out HK.out) x2_3 p165 q165
             cases e165
             have HR165_0 := Aside0.mk hi165_0
             have HC165_0 := Aside0.mk hl165_0
             clear hi165_0 hl165_0
             replace p165 := eq_true p165
             replace q165 := eq_true q165
             have p166 : 0 ≤ (x8_2 : Int) := of_decide_eq_true (by first | (with_reducible assumption) | assumption)
             have q166 : x8_2 < ((rd_L4 l0 x2_3).length : Int) := of_decide_eq_true (by first | (with_reducible assumption) | assumption)
             obtain ⟨ad166, e166, hx166_0⟩ := Kd.at_bool (by repeat (first | (with_reducible exact HR165_0.out) | (with_reducible refine Kd.C_alloc ?_ _) | (with_reducible refine Kd.C_drewN ?_ _) | (with_reducible refine Kd.C_drew ?_) | exact HR165_0.out)) x8_2 p166 q166
             (try rw [← Nbq23.out] at hx166_0)
             cases e166
             replace p166 := eq_true p166
             replace q166 := eq_true q166
             have p167 : 0 ≤ (x8_2 : Int) := of_decide_eq_true (by first | (with_reducible assumption) | assumption)
             have q167 : x8_2 < (x1_2.length : Int) := of_decide_eq_true (by first | (with_reducible assumption) | assumption)
             obtain ⟨ad167, e167, hx167_0⟩ := Kd.at_bool (Kd.R_reads' HO_1.out).2.2 x8_2 p167 q167
             (try rw [← Nbq23.out] at hx167_0)
             cases e167
             replace p167 := eq_true p167
             replace q167 := eq_true q167
             go_wp2
             go_meet
             case rel => exact ⟨_, (!(rdOf false x1_2 x8_2)), (by first | rfl | (simp; done) | (simp [*]; done)), H', ⟨by have := HJ3.out; have := HK2.out; first | omega | exact Nat.le_refl _⟩, ⟨by (try simp only [hl1_2]); (with_reducible repeat (first | apply Kd.R_alloc | apply Kd.R_drewN | apply Kd.R_drew)); exact HO_1.out⟩, ⟨by repeat (first | (with_reducible first | exact HK.out | apply Kept.alloc | apply Kept.drewN | apply Kept.drew) | exact HK.out)⟩, ⟨hB⟩⟩
            ·replace c24 := Bool.eq_false_iff.mpr c24
             subst c24
             rw [if_neg (show ¬ (false = true) by decide)] at H
             have H' := Aside0.mk H
             clear H
             have p165 : 0 ≤ (x2_3 : Int) := of_decide_eq_true (by first | (with_reducible assumption) | assumption)
             have q165 : x2_3 < (l0.length : Int) := of_decide_eq_true (by first | (with_reducible assumption) | assumption)
             obtain ⟨ad165, A165_0, c165_0, e165, hx165_0, hl165_0, hi165_0⟩ := at_L4 (Kd.C_kept_now HR0.out HK.out) x2_3 p165 q165
             cases e165
             have HR165_0 := Aside0.mk hi165_0
             have HC165_0 := Aside0.mk hl165_0
             clear hi165_0 hl165_0
             replace p165 := eq_true p165
             replace q165 := eq_true q165
             have p166 : 0 ≤ (x8_2 : Int) := of_decide_eq_true (by first | (with_reducible assumption) | assumption)
             have q166 : x8_2 < ((rd_L4 l0 x2_3).length : Int) := of_decide_eq_true (by first | (with_reducible assumption) | assumption)
             obtain ⟨ad166, e166, hx166_0⟩ := Kd.at_bool (by repeat (first | (with_reducible exact HR165_0.out) | (with_reducible refine Kd.C_alloc ?_ _) | (with_reducible refine Kd.C_drewN ?_ _) | (with_reducible refine Kd.C_drew ?_) | exact HR165_0.out)) x8_2 p166 q166
             (try rw [← Nbq23.out] at hx166_0)
             cases e166
             replace p166 := eq_true p166
             replace q166 := eq_true q166
             go_wp2
             go_meet
             case rel => exact ⟨_, (false), (by first | rfl | (simp; done) | (simp [*]; done)), H', ⟨by have := HJ3.out; have := HK2.out; first | omega | exact Nat.le_refl _⟩, ⟨by (try simp only [hl1_2]); (with_reducible repeat (first | apply Kd.R_alloc | apply Kd.R_drewN | apply Kd.R_drew)); exact HO_1.out⟩, ⟨by repeat (first | (with_reducible first | exact HK.out | apply Kept.alloc | apply Kept.drewN | apply Kept.drew) | exact HK.out)⟩, ⟨hB⟩⟩
           ·rw [if_neg c22] at H
            exact absurd H (by simp)
          ·rw [if_neg c21] at H
           exact absurd H (by simp)
         ·rw [if_neg c20] at H
          exact absurd H (by simp)
        ·rw [if_neg c19] at H
         exact absurd H (by simp)
       case rest =>
        clear HC18
        try clear c1
        try clear p1
        try clear q1
        try clear hx1
        try clear c2
        try clear p2
        try clear q2
        try clear c5
        try clear c5b0
        try clear c6
        try clear c6b0
        try clear p6
        try clear q7
        try clear c8
        try clear c12
        try clear c12b0
        try clear c12b1
        try clear c16
        try clear p16
        try clear q16
        try clear hx16
        try clear c17
        try clear c17b0
        try clear c19
        try clear c19b0
        try clear c20
        try clear c20b0
        try clear c21
        try clear c21b0
        try clear c22
        try clear c22b0
        try clear q23
        try clear c24
        try clear hx162_0
        try clear hx165_0
        try clear hx166_0
        try clear hx167_0
        try clear p1
        try clear p16
        try clear p162
        try clear p165
        try clear p166
        try clear p167
        try clear p2
        try clear p6
        try clear q1
        try clear q16
        try clear q162
        try clear q165
        try clear q166
        try clear q167
        try clear q7
        obtain ⟨kq, x51_17, rfl, HA, HJ17, HO_1, HK, HB⟩ := hcut
        cases kq with
        | zero => exact absurd HA.out (by simp [spec_taMost.j3])
        | succ kj17 =>
         have H := HA.out
         clear HA
         simp only [spec_taMost.j3] at H
         by_cases c25 : x51_17 = true
         ·subst c25
          rw [if_pos rfl] at H
          by_cases c26 : 0 ≤ x8_2
          ·rw [if_pos c26] at H
           have c26b0 : decide (0 ≤ x8_2) = true := decide_eq_true c26
           clear c26
           by_cases c27 : x8_2 < (x1_2.length : Int)
           ·rw [if_pos c27] at H
            have c27b0 : decide (x8_2 < (x1_2.length : Int)) = true := decide_eq_true c27
            (try (have c27b0m := c27b0; simp only [hl1_2] at c27b0m))
            clear c27
            obtain ⟨y168, hy168⟩ : ∃ y_ : List Bool, y_ = (x1_2.set (x8_2 : Int).toNat true) := ⟨_, rfl⟩
            replace H : ((spec_taMost.f kj17 l0 y168 (wrap64 (x2_3 + 1))).bind fun bt169 => ((spec_l1Most.f x7_2 (wrap64 (1 + bt169.1))).bind fun t171 => (spec_taMost.l1 kj17 l0 (bt169.2.set (x8_2 : Int).toNat false) x2_3 t171 (wrap64 (x8_2 + 1))))) = some (r1, r2) := by first | (rw [hy168]; with_reducible exact H) | (have H2_ := (Option.bind_some _ _).symm.trans H; rw [hy168]; with_reducible exact H2_) | (have H2_ := (Option.bind_some _ _).symm.trans H; with_reducible exact H2_) | with_reducible exact H | (rw [hy168]; exact H) | exact H
            have Ny168 := Aside0.mk hy168
            clear hy168
            replace H := Option.bind_eq_some_iff.mp H
            obtain ⟨⟨t169, t170⟩, A290, H⟩ := H
            try dsimp only at H
            have A29 := Aside0.mk A290
            clear A290
            replace H := Option.bind_eq_some_iff.mp H
            obtain ⟨t171, A300, H⟩ := H
            try dsimp only at H
            have A30 := Aside0.mk A300
            clear A300
            obtain ⟨y172, hy172⟩ : ∃ y_ : List Bool, y_ = (t170.set (x8_2 : Int).toNat false) := ⟨_, rfl⟩
            replace H : (spec_taMost.l1 kj17 l0 y172 x2_3 t171 (wrap64 (x8_2 + 1))) = some (r1, r2) := by first | (rw [hy172]; with_reducible exact H) | (have H2_ := (Option.bind_some _ _).symm.trans H; rw [hy172]; with_reducible exact H2_) | (have H2_ := (Option.bind_some _ _).symm.trans H; with_reducible exact H2_) | with_reducible exact H | (rw [hy172]; exact H) | exact H
            have Ny172 := Aside0.mk hy172
            clear hy172
            have H' := Aside0.mk H
            clear H
            have p28 : 0 ≤ (x8_2 : Int) := of_decide_eq_true (by first | (with_reducible assumption) | assumption)
            have q28 : (x8_2 : Int) < ((x1_2.length : Int) : Int) := of_decide_eq_true (by first | (with_reducible assumption) | assumption)
            obtain ⟨go28, co28, eo28, gb28, gl28, cl28, HG28⟩ := Kd.R_form HO_1.out (by omega)
            (first | cases eo28 | (injection eo28 with ea_ en_ ec_; (first | subst ea_ | (injection ea_ with ea_; subst ea_)); subst ec_; clear en_))
            have GB28 := Aside0.mk gb28
            have GG28 := Aside0.mk HG28
            clear gb28 gl28 HG28
            have HMgo28 := Aside0.mk (show (P1_ go28 ∨ w.heap.size ≤ go28) from (HO_1.out.1 _ rfl))
            obtain ⟨hx28_0, hf28_0⟩ := Kd.R_celln false HO_1.out (x8_2 : Int) p28 q28
            replace p28 := eq_true p28
            replace q28 := eq_true q28
            have HP32 := Kd.R_putg HO_1.out (x8_2 : Int) true
            go_wp2_with (first | ((with_reducible refine gate_store (t := 4) (p := 54) rfl ?_); refine store_event (t := 4) (p := 54) (v := ?vo_w33) (w1 := (wc.setCell ⟨go28, (x8_2 : Int).toNat, none⟩ (.bool true))) ?hg ?ho ?hn ?hr ?_; (case ho => rfl); (case hg => rfl); (case hn => rfl); (case hr => first | (go_simp; done) | (go_simp; rfl)); intro w33 hw; have hg : wc.grownBy w33 (some go28) := (by rw [hw]; exact HP32.2); have hp_ : Kd.R Kd.bool 4 w33 w0.heap.size (fun k_ => (P1_ k_ ∨ w.heap.size ≤ k_)) (.slice (some ⟨go28, 0, none⟩) x1_2.length co15) y168 := (by rw [hw, Ny168.out]; exact HP32.1); clear HP32; replace HK := Aside0.mk (Kept.of_grown (S := (fun k_ => P1_ k_)) hg (by repeat (first | (with_reducible first | exact HK.out | apply Kept.alloc | apply Kept.drewN | apply Kept.drew) | exact HK.out)) (fun k_ e_ => (HO_1.out.1 k_ e_))); replace HO_1 := Aside0.mk (hp_); replace HB := Aside0.mk ((by rw [hw]; exact below_set (HB.out) GB28.out : Below w0.heap.size w0 w33)); clear hg hw hp_) | ((with_reducible refine gate_callee (f := 86) rfl ?_); refine goC (N := some 60) Tryd.func86 #[.slice A0 l0.length c0, .slice (some ⟨go28, 0, none⟩) x1_2.length co15, .int .i64 (wrap64 (x2_3 + 1))] rfl ?_; (with_reducible refine (ih kj17 (by have := HJ3.out; have := HK2.out; have := HJ17.out; omega) _ _ l0 (fun k_ => some k_ = (.slice (some ⟨go28, 0, none⟩) x1_2.length co15 : Value).ownBlock) (.slice (some ⟨go28, 0, none⟩) x1_2.length co15) y168 (wrap64 (x2_3 + 1)) t169 t170 w0 _ ?side1 ?side2 ?side3 ?side4 A29.out).mono ?_); (case side1 => repeat (first | (with_reducible first | exact HB.out | apply below_alloc | apply pw_below_drewN | apply below_drew1) | exact HB.out)); (case side2 => exact Kd.C_kept_call HR0.out (by repeat (first | (with_reducible first | exact HK.out | apply Kept.alloc | apply Kept.drewN | apply Kept.drew) | exact HK.out)) (fun k_ hs_ => (fun e_ => (HO_1.out.1 k_ e_.symm)) hs_)); (case side3 => exact HC0.out); (case side4 => exact Kd.R_tight rfl HO_1.out); rintro e w34 ⟨rfl, hy0, hb, hkp⟩; refine ⟨_, rfl, ?_⟩; replace HK := Aside0.mk (Kept.then_ (S := (fun k_ => P1_ k_)) (by repeat (first | (with_reducible first | exact HK.out | apply Kept.alloc | apply Kept.drewN | apply Kept.drew) | exact HK.out)) hkp (fun k_ hs_ => (fun e_ => (HO_1.out.1 k_ e_.symm)) hs_)); replace HO_1 := Aside0.mk (Kd.R_reok rfl hy0 (fun k_ e_ => HO_1.out.1 k_ e_)); replace HB := Aside0.mk (hb); (try clear hb); (try clear hkp); (try clear hy0)) | ((with_reducible refine gate_callee (f := 53) rfl ?_); refine goC (N := some 62) Tryd.func53 #[.int .i64 x7_2, .int .i64 (wrap64 (1 + t169))] rfl ?_; (with_reducible refine (spec_l1Most.calls x7_2 (wrap64 (1 + t169)) t171 _ A30.out).mono ?_); rintro e w' ⟨rfl, ⟨nd, rfl⟩⟩; refine ⟨_, rfl, ?_⟩; (try (rw [drewN_self w34]; generalize hq_ : World.drewN w34 _ = w34; have n0_ : Aside0 (Kd.R Kd.bool 4 w34 w0.heap.size (fun k_ => (P1_ k_ ∨ w.heap.size ≤ k_)) (.slice (some ⟨go28, 0, none⟩) x1_2.length co15) t170) := ⟨by rw [← hq_]; exact (rU HO_1)⟩; have n1_ : Aside0 (Kept w w34 (fun k_ => P1_ k_)) := ⟨by rw [← hq_]; exact (by repeat (first | (with_reducible first | exact HK.out | apply Kept.alloc | apply Kept.drewN | apply Kept.drew) | exact HK.out))⟩; have n2_ : Aside0 (Below w0.heap.size w0 w34) := ⟨by rw [← hq_]; exact hB⟩; clear HO_1 HK HB hq_; have HO_1 := n0_; have HK := n1_; have HB := n2_; clear n0_ n1_ n2_)); have p31 : 0 ≤ (x8_2 : Int) := of_decide_eq_true (by first | (with_reducible assumption) | assumption); have q31 : (x8_2 : Int) < ((x1_2.length : Int) : Int) := of_decide_eq_true (by first | (with_reducible assumption) | assumption); obtain ⟨hx31_0, hf31_0⟩ := Kd.R_celln false HO_1.out (x8_2 : Int) p31 q31; replace p31 := eq_true p31; replace q31 := eq_true q31; obtain ⟨hy35_, hz35_⟩ := Kd.R_celln false HO_1.out (x8_2 : Int) (of_decide_eq_true (by first | (with_reducible assumption) | assumption)) (of_decide_eq_true (by first | (with_reducible assumption) | assumption)); have HP35 := Kd.R_putg HO_1.out (x8_2 : Int) false) | ((with_reducible refine gate_store (t := 4) (p := 65) rfl ?_); refine store_event (t := 4) (p := 65) (v := ?vo_w36) (w1 := (w34.setCell ⟨go28, (x8_2 : Int).toNat, none⟩ (.bool false))) ?hg ?ho ?hn ?hr ?_; (case ho => rfl); (case hg => rfl); (case hn => rfl); (case hr => first | (go_simp; done) | (go_simp; rfl)); intro w36 hw; have hg : w34.grownBy w36 (some go28) := (by rw [hw]; exact HP35.2); have hp_ : Kd.R Kd.bool 4 w36 w0.heap.size (fun k_ => (P1_ k_ ∨ w.heap.size ≤ k_)) (.slice (some ⟨go28, 0, none⟩) x1_2.length co15) y172 := (by rw [hw, Ny172.out]; exact HP35.1); clear HP35; replace HK := Aside0.mk (Kept.of_grown (S := (fun k_ => P1_ k_)) hg (by repeat (first | (with_reducible first | exact HK.out | apply Kept.alloc | apply Kept.drewN | apply Kept.drew) | exact HK.out)) (fun k_ e_ => (HO_1.out.1 k_ e_))); replace HO_1 := Aside0.mk (hp_); replace HB := Aside0.mk ((by rw [hw]; exact below_set (HB.out) GB28.out : Below w0.heap.size w0 w36)); clear hg hw hp_))
            (try simp only [← hl1_2])
            go_roundg kj17
            case measure => have := HJ3.out; have := HK2.out; have := HJ17.out; omega
            case rel => exact ⟨(y172), (t171), (wrap64 (x8_2 + 1)), (by first | rfl | (simp; done) | (simp [*]; done)), (by first | rfl | (simp; done) | (simp [*]; done)), H', ⟨by have := HJ3.out; have := HK2.out; have := HJ17.out; omega⟩, ⟨by (try simp only [hl1_2]); (with_reducible repeat (first | apply Kd.R_alloc | apply Kd.R_drewN | apply Kd.R_drew)); exact HO_1.out⟩, ⟨by repeat (first | (with_reducible first | exact HK.out | apply Kept.alloc | apply Kept.drewN | apply Kept.drew) | exact HK.out)⟩, ⟨hB⟩⟩
           ·rw [if_neg c27] at H
            exact absurd H (by simp)
          ·rw [if_neg c26] at H
           exact absurd H (by simp)
         ·replace c25 := Bool.eq_false_iff.mpr c25
          subst c25
          rw [if_neg (show ¬ (false = true) by decide)] at H
          have H' := Aside0.mk H
          clear H
          go_wp2
          (try simp only [← hl1_2])
          go_roundg kj17
          case measure => have := HJ3.out; have := HK2.out; have := HJ17.out; omega
          case rel => exact ⟨(x1_2), (x7_2), (wrap64 (x8_2 + 1)), (by first | rfl | (simp; done) | (simp [*]; done)), (by first | rfl | (simp; done) | (simp [*]; done)), H', ⟨by have := HJ3.out; have := HK2.out; have := HJ17.out; omega⟩, ⟨by (try simp only [hl1_2]); (with_reducible repeat (first | apply Kd.R_alloc | apply Kd.R_drewN | apply Kd.R_drew)); exact HO_1.out⟩, ⟨by repeat (first | (with_reducible first | exact HK.out | apply Kept.alloc | apply Kept.drewN | apply Kept.drew) | exact HK.out)⟩, ⟨hB⟩⟩
      ·rw [if_neg c17] at H
       have c17b0 : decide (x8_2 < (x1_2.length : Int)) = false := decide_eq_false c17
       (try (have c17b0m := c17b0; simp only [hl1_2] at c17b0m))
       clear c17
       simp only [Option.some.injEq, Prod.mk.injEq] at H
       obtain ⟨rfl, rfl⟩ := H
       go_wp2
       go_ret
       exact ⟨by first | rfl | (simp [errW_none, errW_some] <;> rfl) | (simp [*, errW_none, errW_some] <;> rfl), (by first | exact (rU HO_1) | (simp only [hl1_2]; exact (rU HO_1))), hB, by repeat (first | (with_reducible first | exact HK.out | apply Kept.alloc | apply Kept.drewN | apply Kept.drew) | exact HK.out)⟩

end Go.Proofs.YtjpfbkkikcpmhaaDoor.PFnExactMostInPairs
