-- Of this session's own program wip/gen/gen.py (it drives the kit's print): contracts of the functions that the law reaches.
import Derived.Test.YtjpfbkkikcpmhaaDoorPFnExactMakePuzzlex0
import Derived.Test.YtjpfbkkikcpmhaaDoorPFnExactMakePuzzlex6
import Derived.Test.YtjpfbkkikcpmhaaDoorPFnExactMakePuzzlex7
import Derived.Test.YtjpfbkkikcpmhaaDoorPFnExactMakePuzzlex8
namespace Go.Proofs.YtjpfbkkikcpmhaaDoor.PFnExactMakePuzzle
open Go.RowKit Go.Proofs.YtjpfbkkikcpmhaaDoorW.PrintWords Go.Proofs.YtjpfbkkikcpmhaaDoorW.PrintLast Go.Proofs.YtjpfbkkikcpmhaaDoorW.PrintMore Go.Proofs.YtjpfbkkikcpmhaaDoor.Base
attribute [local go_sem] max2_int min2_int max_two min_two max_three min_three max_four min_four   -- for this text's walks alone
set_option linter.unusedVariables false
set_option linter.unusedSimpArgs false

/-! ### impl_table_parts: function 107 -/
mutual
def impl_table_parts.l0 : Nat → List Int → List (List Int) → Int → Int → Int → Option ((List (List Int)))
 | 0, _, _, _, _, _ => none
 | k + 1, x0, x3, x4, x11, x12 => if x12 < x11 then (if 0 ≤ x12 then (if (Go.bits .and .u16 (shr .u16 x4 x12) 1) = 1 then (impl_table_parts.l0 k x0 x3 x4 x11 (wrap64 (x12 + 1))) else (impl_table_parts.l1 k x0 x3 x4 (shl .u16 1 x12) x11 x12 (x0.length : Int) 0)) else (none)) else (some x3)
def impl_table_parts.l1 : Nat → List Int → List (List Int) → Int → Int → Int → Int → Int → Int → Option ((List (List Int)))
 | 0, _, _, _, _, _, _, _, _ => none
 | k + 1, x0, x3, x4, x6, x11, x12, x23, x24 => if x24 < x23 then ((impl_listed.f k x6).bind fun t366 => (impl_table_parts.l2 k x0 x3 x4 x6 x11 x12 x23 x24 t366 (t366.length : Int) 0)) else ((impl_listed.f k x6).bind fun t360 => (if x3.length < 5864062014805 then (impl_table_parts.l0 k x0 (x3 ++ [t360]) (Go.bits .or .u16 x4 x6) x11 (wrap64 (x12 + 1))) else (none)))
def impl_table_parts.l2 : Nat → List Int → List (List Int) → Int → Int → Int → Int → Int → Int → List Int → Int → Int → Option ((List (List Int)))
 | 0, _, _, _, _, _, _, _, _, _, _, _ => none
 | k + 1, x0, x3, x4, x6, x11, x12, x23, x24, x27, x28, x29 => if x29 < x28 then (if 0 ≤ x29 then (if x29 < (x27.length : Int) then (if 0 ≤ (rd x27 x29) then (if (rd x27 x29) < (x0.length : Int) then (impl_table_parts.l2 k x0 x3 x4 (Go.bits .or .u16 x6 (rd x0 (rd x27 x29))) x11 x12 x23 x24 x27 x28 (wrap64 (x29 + 1))) else (none)) else (none)) else (none)) else (none)) else (impl_table_parts.l1 k x0 x3 x4 x6 x11 x12 x23 (wrap64 (x24 + 1)))
end
def impl_table_parts.f (k : Nat) (l0 : List Int) : Option ((List (List Int))) := impl_table_parts.l0 k l0 (([] : List (List Int))) 0 (l0.length : Int) 0
theorem impl_table_parts.mono_l : ∀ k, (∀ y0 y1 y2 y3 y4, LeO (impl_table_parts.l0 k y0 y1 y2 y3 y4) (impl_table_parts.l0 (k + 1) y0 y1 y2 y3 y4)) ∧ (∀ y0 y1 y2 y3 y4 y5 y6 y7, LeO (impl_table_parts.l1 k y0 y1 y2 y3 y4 y5 y6 y7) (impl_table_parts.l1 (k + 1) y0 y1 y2 y3 y4 y5 y6 y7)) ∧ (∀ y0 y1 y2 y3 y4 y5 y6 y7 y8 y9 y10, LeO (impl_table_parts.l2 k y0 y1 y2 y3 y4 y5 y6 y7 y8 y9 y10) (impl_table_parts.l2 (k + 1) y0 y1 y2 y3 y4 y5 y6 y7 y8 y9 y10))
 | 0 => ⟨fun _ _ _ _ _ r h => by simp [impl_table_parts.l0] at h, fun _ _ _ _ _ _ _ _ r h => by simp [impl_table_parts.l1] at h, fun _ _ _ _ _ _ _ _ _ _ _ r h => by simp [impl_table_parts.l2] at h⟩
 | k + 1 => by
  obtain ⟨ih0, ih1, ih2⟩ := impl_table_parts.mono_l k
  refine ⟨?_, ?_, ?_⟩
  ·intro y0 y1 y2 y3 y4
   unfold impl_table_parts.l0
   repeat' first
   | (with_reducible exact ih0 _ _ _ _ _)
   | (with_reducible exact ih1 _ _ _ _ _ _ _ _)
   | (with_reducible exact ih2 _ _ _ _ _ _ _ _ _ _ _)
   | (with_reducible exact impl_listed.mono _ _)
   | (with_reducible exact LeO.refl _)
   | (with_reducible exact LeO.none _)
   | (with_reducible refine LeO.ite ?_ ?_)
   | (with_reducible refine LeO.bind ?_ (fun _ => ?_))
   | exact ih0 _ _ _ _ _
   | exact ih1 _ _ _ _ _ _ _ _
   | exact ih2 _ _ _ _ _ _ _ _ _ _ _
   | exact impl_listed.mono _ _
   | exact LeO.none _
   | refine LeO.ite ?_ ?_
   | refine LeO.bind ?_ (fun _ => ?_)
  ·intro y0 y1 y2 y3 y4 y5 y6 y7
   unfold impl_table_parts.l1
   repeat' first
   | (with_reducible exact ih0 _ _ _ _ _)
   | (with_reducible exact ih1 _ _ _ _ _ _ _ _)
   | (with_reducible exact ih2 _ _ _ _ _ _ _ _ _ _ _)
   | (with_reducible exact impl_listed.mono _ _)
   | (with_reducible exact LeO.refl _)
   | (with_reducible exact LeO.none _)
   | (with_reducible refine LeO.ite ?_ ?_)
   | (with_reducible refine LeO.bind ?_ (fun _ => ?_))
   | exact ih0 _ _ _ _ _
   | exact ih1 _ _ _ _ _ _ _ _
   | exact ih2 _ _ _ _ _ _ _ _ _ _ _
   | exact impl_listed.mono _ _
   | exact LeO.none _
   | refine LeO.ite ?_ ?_
   | refine LeO.bind ?_ (fun _ => ?_)
  ·intro y0 y1 y2 y3 y4 y5 y6 y7 y8 y9 y10
   unfold impl_table_parts.l2
   repeat' first
   | (with_reducible exact ih0 _ _ _ _ _)
   | (with_reducible exact ih1 _ _ _ _ _ _ _ _)
   | (with_reducible exact ih2 _ _ _ _ _ _ _ _ _ _ _)
   | (with_reducible exact impl_listed.mono _ _)
   | (with_reducible exact LeO.refl _)
   | (with_reducible exact LeO.none _)
   | (with_reducible refine LeO.ite ?_ ?_)
   | (with_reducible refine LeO.bind ?_ (fun _ => ?_))
   | exact ih0 _ _ _ _ _
   | exact ih1 _ _ _ _ _ _ _ _
   | exact ih2 _ _ _ _ _ _ _ _ _ _ _
   | exact impl_listed.mono _ _
   | exact LeO.none _
   | refine LeO.ite ?_ ?_
   | refine LeO.bind ?_ (fun _ => ?_)
theorem impl_table_parts.mono : ∀ a0 k, LeO (impl_table_parts.f k a0) (impl_table_parts.f (k + 1) a0) := by
 intro a0 k
 obtain ⟨ih0, ih1, ih2⟩ := impl_table_parts.mono_l k
 unfold impl_table_parts.f
 repeat' first
   | (with_reducible exact ih0 _ _ _ _ _)
   | (with_reducible exact ih1 _ _ _ _ _ _ _ _)
   | (with_reducible exact ih2 _ _ _ _ _ _ _ _ _ _ _)
   | (with_reducible exact impl_listed.mono _ _)
   | (with_reducible exact LeO.refl _)
   | (with_reducible exact LeO.none _)
   | (with_reducible refine LeO.ite ?_ ?_)
   | (with_reducible refine LeO.bind ?_ (fun _ => ?_))
   | exact ih0 _ _ _ _ _
   | exact ih1 _ _ _ _ _ _ _ _
   | exact ih2 _ _ _ _ _ _ _ _ _ _ _
   | exact impl_listed.mono _ _
   | exact LeO.none _
   | refine LeO.ite ?_ ?_
   | refine LeO.bind ?_ (fun _ => ?_)
set_option maxHeartbeats 8000000 in
set_option maxRecDepth 100000 in
theorem impl_table_parts.calls (k : Nat) (A0 : Option Addr) (c0 : Nat) (l0 : List Int) (r : List (List Int)) (w : World) (hr0 : Kd.C (Kd.int .u16) w A0 l0.length l0) (hc0 : l0.length ≤ c0) (h : impl_table_parts.f k l0 = some r) (hG : GTab 0 w := by first | exact Aside0.out ‹Aside0 (GTab _ _)› | exact GTab.up (Aside0.out ‹Aside0 (GTab _ _)›) (by repeat (first | (with_reducible first | exact Below.refl _ _ | exact Aside0.out ‹Aside0 (Below _ _ _)› | apply below_alloc | apply pw_below_drewN | apply below_drew1 | refine below_set ?_ (Aside0.out (by assumption))) | exact Aside0.out ‹Aside0 (Below _ _ _)›))) :
  Calls Tryd.prog 107 #[.slice A0 l0.length c0] w fun e w' => ∃ v0_ : Value, e = .returned (v0_) ∧ Kd.S (Kd.slice 3 (Kd.int .i64)) 75 w' w.heap.size (fun _ => True) v0_ r ∧ Below w.heap.size w w' := by
 have HG := Aside0.mk (p := GTab _ _) hG
 clear hG
 have HR0 := Aside0.mk hr0
 have HC0 := Aside0.mk hc0
 clear hr0 hc0
 have HB := Aside0.mk (Below.refl w.heap.size w)
 have H : (impl_table_parts.l0 k l0 (([] : List (List Int))) 0 (l0.length : Int) 0) = some r := h
 clear h
 obtain ⟨y357, hy357⟩ : ∃ y_ : List (List Int), y_ = (([] : List (List Int))) := ⟨_, rfl⟩
 replace H : (impl_table_parts.l0 k l0 y357 0 (l0.length : Int) 0) = some r := by first | (rw [hy357]; with_reducible exact H) | (have H2_ := (Option.bind_some _ _).symm.trans H; rw [hy357]; with_reducible exact H2_) | (have H2_ := (Option.bind_some _ _).symm.trans H; with_reducible exact H2_) | with_reducible exact H | (rw [hy357]; exact H) | exact H
 have Ny357 := Aside0.mk hy357
 clear hy357
 have H' := Aside0.mk H
 clear H
 go_enter Tryd.func107, Tryd.ntmps107
 go_wp2_with (first | ((with_reducible refine gate_dst (N := 9) rfl ?_); refine Kd.S_lit (Kd.slice 3 (Kd.int .i64)) _ 75 ?hg (N := 9) ?hd (xs := ([] : List (List Int))) (inner := []) (ok := fun _ => True) (okp := fun _ => True) ?hr ?hp (fun _ hk => hk) trivial (Below.refl _ _) (Nat.le_refl _) (by simp) ?_; (case hd => rfl); (case hg => rfl); (case hr => first | (go_simp; done) | (go_simp; rfl)); (case hp => exact (Reps.none _ _)); intro v358 w2 ho3 hb hg_ hnew_; clear hg_ hnew_; (first | rw [← Ny357.out] at ho3 | (simp only [Int.reduceToNat] at ho3; rw [← Ny357.out] at ho3)); have HO359 := Aside0.mk (Kd.S_lower ho3 (below_size hB)); replace HB := hS HB hb; clear hb ho3))
 go_loopg [3, 4, 12] k (fun kq v3 v4 v12 w' => ∃ (x3_1 : List (List Int)) (x4_1 : Int) (x12_1 : Int), v4 = .int .u16 x4_1 ∧ v12 = .int .i64 x12_1 ∧ Aside0 (impl_table_parts.l0 kq l0 x3_1 x4_1 (l0.length : Int) x12_1 = some r) ∧ Aside0 (kq ≤ k) ∧ Aside0 (Kd.S (Kd.slice 3 (Kd.int .i64)) 75 w' w.heap.size (fun _ => True) v3 x3_1) ∧ Aside0 (Below w.heap.size w w'))
 case atStart => exact ⟨(y357), (0), (0), (by first | rfl | (simp; done) | (simp [*]; done)), (by first | rfl | (simp; done) | (simp [*]; done)), H', ⟨Nat.le_refl _⟩, ⟨sU HO359⟩, ⟨hB⟩⟩
 case round =>
  clear H'
  try clear c1
  try clear p2
  obtain ⟨x3_1, x4_1, x12_1, rfl, rfl, HA, HK1, HO_3, HB⟩ := hrel
  cases gk with
  | zero => exact absurd HA.out (by simp [impl_table_parts.l0])
  | succ k1 =>
   have H := HA.out
   clear HA
   simp only [impl_table_parts.l0] at H
   by_cases c4 : x12_1 < (l0.length : Int)
   ·rw [if_pos c4] at H
    have c4b0 : decide (x12_1 < (l0.length : Int)) = true := decide_eq_true c4
    clear c4
    by_cases c5 : 0 ≤ x12_1
    ·rw [if_pos c5] at H
     have c5b0 := eq_true c5
     have c5b1 : decide (0 ≤ x12_1) = true := decide_eq_true c5
     clear c5
     obtain ⟨ji6, hji6⟩ : ∃ j_ : Int, (shr .u16 x4_1 x12_1) = j_ := ⟨_, rfl⟩
     replace H : (if (Go.bits .and .u16 (ji6) 1) = 1 then (impl_table_parts.l0 k1 l0 x3_1 x4_1 (l0.length : Int) (wrap64 (x12_1 + 1))) else (impl_table_parts.l1 k1 l0 x3_1 x4_1 (shl .u16 1 x12_1) (l0.length : Int) x12_1 (l0.length : Int) 0)) = some r := by first | (rw [hji6] at H; exact H) | (simp only [hji6] at H ⊢; exact H)
     have hji6_ : (x4_1 / 2 ^ min x12_1.toNat 16) = ji6 := hji6
     have hji6z : x12_1 ≤ 16 → (x4_1 / 2 ^ x12_1.toNat) = ji6 := shr_small hji6
     by_cases c7 : (Go.bits .and .u16 (ji6) 1) = 1
     ·rw [if_pos c7] at H
      have c7b0 : ((Go.bits .and .u16 (ji6) 1) == 1) = true := beq_iff_eq.mpr c7
      have c7b1 : ((Go.bits .and .u16 (ji6) 1) != 1) = false := bne_eq_false_iff_eq.mpr c7
      clear c7
      have H' := Aside0.mk H
      clear H
      go_wp2
      go_roundg k1
      case measure => have := HK1.out; omega
      case rel => exact ⟨(x3_1), (x4_1), (wrap64 (x12_1 + 1)), (by first | rfl | (simp; done) | (simp [*]; done)), (by first | rfl | (simp; done) | (simp [*]; done)), H', ⟨by have := HK1.out; omega⟩, ⟨sU HO_3⟩, ⟨hB⟩⟩
     ·rw [if_neg c7] at H
      have c7b0 : ((Go.bits .and .u16 (ji6) 1) == 1) = false := beq_eq_false_iff_ne.mpr c7
      have c7b1 : ((Go.bits .and .u16 (ji6) 1) != 1) = true := bne_iff_ne.mpr c7
      have c8b0 := eq_true (of_decide_eq_true (by first | (with_reducible assumption) | assumption) : 0 ≤ x12_1)
      obtain ⟨ji9, hji9⟩ : ∃ j_ : Int, (shl .u16 1 x12_1) = j_ := ⟨_, rfl⟩
      replace H : (impl_table_parts.l1 k1 l0 x3_1 x4_1 ji9 (l0.length : Int) x12_1 (l0.length : Int) 0) = some r := by first | (rw [hji9] at H; exact H) | (simp only [hji9] at H ⊢; exact H)
      have hji9_ : (IntKind.u16.wrap (1 * 2 ^ min x12_1.toNat 16)) = ji9 := hji9
      have hji9z : x12_1 ≤ 16 → (IntKind.u16.wrap (1 * 2 ^ x12_1.toNat)) = ji9 := shl_small hji9
      have hji9u : (IntKind.u16.wrap (2 ^ min x12_1.toNat 16)) = ji9 := by have h_ := hji9_; rw [Int.one_mul] at h_; exact h_
      have hji9v : x12_1 ≤ 16 → (IntKind.u16.wrap (2 ^ x12_1.toNat)) = ji9 := fun hle_ => by have h_ := hji9z hle_; rw [Int.one_mul] at h_; exact h_
      have H' := Aside0.mk H
      clear H
      go_wp2
      go_loopg [6, 24] k1 (fun kq v6 v24 w' => ∃ (x6_2 : Int) (x24_2 : Int), v6 = .int .u16 x6_2 ∧ v24 = .int .i64 x24_2 ∧ Aside0 (impl_table_parts.l1 kq l0 x3_1 x4_1 x6_2 (l0.length : Int) x12_1 (l0.length : Int) x24_2 = some r) ∧ Aside0 (kq ≤ k1) ∧ Aside0 (Kd.S (Kd.slice 3 (Kd.int .i64)) 75 w' w.heap.size (fun _ => True) u3 x3_1) ∧ Aside0 (Below w.heap.size w w'))
      case atStart => exact ⟨(ji9), (0), (by first | rfl | (simp; done) | (simp only [← hji9] <;> (first | rfl | simp)) | (simp [*]; done)), (by first | rfl | (simp; done) | (simp [*]; done)), H', ⟨Nat.le_refl _⟩, ⟨sU HO_3⟩, ⟨hB⟩⟩
      case round =>
       clear H'
       try clear c1
       try clear p2
       try clear c4
       try clear c4b0
       try clear c5
       try clear c5b0
       try clear c5b1
       try clear p6
       try clear c7
       try clear c7b0
       try clear c7b1
       try clear c8
       try clear c8b0
       try clear p2
       obtain ⟨x6_2, x24_2, rfl, rfl, HA, HK2, HO_3, HB⟩ := hrel
       cases gk with
       | zero => exact absurd HA.out (by simp [impl_table_parts.l1])
       | succ k2 =>
        have H := HA.out
        clear HA
        simp only [impl_table_parts.l1] at H
        by_cases c10 : x24_2 < (l0.length : Int)
        ·rw [if_pos c10] at H
         have c10b0 : decide (x24_2 < (l0.length : Int)) = true := decide_eq_true c10
         clear c10
         replace H := Option.bind_eq_some_iff.mp H
         obtain ⟨t366, A110, H⟩ := H
         try dsimp only at H
         have A11 := Aside0.mk A110
         clear A110
         have H' := Aside0.mk H
         clear H
         go_wp2_with (first | ((with_reducible refine gate_callee (f := 78) rfl ?_); refine goC (N := some 27) Tryd.func78 #[.int .u16 x6_2] rfl ?_; (with_reducible refine (impl_listed.calls k2 x6_2 t366 _ A11.out).mono ?_); rintro e w12 ⟨v367, rfl, ho0, hb⟩; refine ⟨_, rfl, ?_⟩; have HO368 := Aside0.mk (Kd.R_lower ho0 (below_size hB)); replace HO_3 := Aside0.mk (Kd.S_elder' (sU HO_3) (Kd.R_base ho0) hb); replace HB := hS HB hb; (try clear hb); (try clear hb2); (try clear hk); (try clear hi); (try clear ho0); obtain ⟨Ao13, co13, eo13⟩ := Kd.R_slice HO368.out; subst eo13))
         go_loopg [6, 29] k2 (fun kq v6 v29 w' => ∃ (x6_3 : Int) (x29_3 : Int), v6 = .int .u16 x6_3 ∧ v29 = .int .i64 x29_3 ∧ Aside0 (impl_table_parts.l2 kq l0 x3_1 x4_1 x6_3 (l0.length : Int) x12_1 (l0.length : Int) x24_2 t366 (t366.length : Int) x29_3 = some r) ∧ Aside0 (kq ≤ k2) ∧ Aside0 (Kd.S (Kd.slice 3 (Kd.int .i64)) 75 w' w.heap.size (fun k_ => some k_ ≠ ((.slice Ao13 t366.length co13) : Value).ownBlock) u3 x3_1) ∧ Aside0 (Kd.R (Kd.int .i64) 3 w' w.heap.size (fun _ => True) (.slice Ao13 t366.length co13) t366) ∧ Aside0 (Below w.heap.size w w'))
         case atStart => exact ⟨(x6_2), (0), (by first | rfl | (simp; done) | (simp [*]; done)), (by first | rfl | (simp; done) | (simp [*]; done)), H', ⟨Nat.le_refl _⟩, ⟨by (with_reducible repeat (first | apply Kd.S_alloc | apply Kd.S_drewN | apply Kd.S_drew)); exact Kd.S_mono HO_3.out (fun _ hk => hk.2)⟩, ⟨rU HO368⟩, ⟨hB⟩⟩
         case round =>
          clear H'
          try clear c1
          try clear p2
          try clear c4
          try clear c4b0
          try clear c5
          try clear c5b0
          try clear c5b1
          try clear p6
          try clear c7
          try clear c7b0
          try clear c7b1
          try clear c8
          try clear c8b0
          try clear c10
          try clear c10b0
          try clear p2
          try clear p6
          obtain ⟨x6_3, x29_3, rfl, rfl, HA, HK3, HO_3, HO_27, HB⟩ := hrel
          cases gk with
          | zero => exact absurd HA.out (by simp [impl_table_parts.l2])
          | succ k3 =>
           have H := HA.out
           clear HA
           simp only [impl_table_parts.l2] at H
           by_cases c14 : x29_3 < (t366.length : Int)
           ·rw [if_pos c14] at H
            have c14b0 : decide (x29_3 < (t366.length : Int)) = true := decide_eq_true c14
            clear c14
            by_cases c15 : 0 ≤ x29_3
            ·rw [if_pos c15] at H
             have c15b0 : decide (0 ≤ x29_3) = true := decide_eq_true c15
             clear c15
             by_cases c16 : x29_3 < (t366.length : Int)
             ·rw [if_pos c16] at H
              have c16b0 : decide (x29_3 < (t366.length : Int)) = true := decide_eq_true c16
              clear c16
              by_cases c17 : 0 ≤ (rd t366 x29_3)
              ·rw [if_pos c17] at H
               have c17b0 : decide (0 ≤ (rd t366 x29_3)) = true := decide_eq_true c17
               clear c17
               by_cases c18 : (rd t366 x29_3) < (l0.length : Int)
               ·rw [if_pos c18] at H
                have c18b0 : decide ((rd t366 x29_3) < (l0.length : Int)) = true := decide_eq_true c18
                clear c18
                have H' := Aside0.mk H
                clear H
                have p369 : 0 ≤ (x29_3 : Int) := of_decide_eq_true (by first | (with_reducible assumption) | assumption)
                have q369 : x29_3 < (t366.length : Int) := of_decide_eq_true (by first | (with_reducible assumption) | assumption)
                obtain ⟨ad369, e369, hx369_0⟩ := Kd.at_int (Kd.R_reads' HO_27.out).2.2 x29_3 p369 q369
                cases e369
                replace p369 := eq_true p369
                replace q369 := eq_true q369
                have p370 : 0 ≤ ((rd t366 x29_3) : Int) := of_decide_eq_true (by first | (with_reducible assumption) | assumption)
                have q370 : (rd t366 x29_3) < (l0.length : Int) := of_decide_eq_true (by first | (with_reducible assumption) | assumption)
                obtain ⟨ad370, e370, hx370_0⟩ := Kd.at_int HR0.out (rd t366 x29_3) p370 q370
                cases e370
                replace hx370_0 := (HB.out.cell (World.block_lt_of_cell? w _ hx370_0)).trans hx370_0
                replace p370 := eq_true p370
                replace q370 := eq_true q370
                go_wp2
                go_roundg k3
                case measure => have := HK1.out; have := HK2.out; have := HK3.out; omega
                case rel => exact ⟨(Go.bits .or .u16 x6_3 (rd l0 (rd t366 x29_3))), (wrap64 (x29_3 + 1)), (by first | rfl | (simp; done) | (simp [*]; done)), (by first | rfl | (simp; done) | (simp [*]; done)), H', ⟨by have := HK1.out; have := HK2.out; have := HK3.out; omega⟩, ⟨sU HO_3⟩, ⟨rU HO_27⟩, ⟨hB⟩⟩
               ·rw [if_neg c18] at H
                exact absurd H (by simp)
              ·rw [if_neg c17] at H
               exact absurd H (by simp)
             ·rw [if_neg c16] at H
              exact absurd H (by simp)
            ·rw [if_neg c15] at H
             exact absurd H (by simp)
           ·rw [if_neg c14] at H
            have c14b0 : decide (x29_3 < (t366.length : Int)) = false := decide_eq_false c14
            clear c14
            have H' := Aside0.mk H
            clear H
            go_wp2
            go_roundg k3
            case measure => have := HK1.out; have := HK2.out; have := HK3.out; omega
            case rel => exact ⟨(x6_3), (wrap64 (x24_2 + 1)), (by first | rfl | (simp; done) | (simp [*]; done)), (by first | rfl | (simp; done) | (simp [*]; done)), H', ⟨by have := HK1.out; have := HK2.out; have := HK3.out; omega⟩, ⟨by (with_reducible repeat (first | apply Kd.S_alloc | apply Kd.S_drewN | apply Kd.S_drew)); exact Kd.S_mono HO_3.out (fun _ hk => trivial)⟩, ⟨hB⟩⟩
        ·rw [if_neg c10] at H
         have c10b0 : decide (x24_2 < (l0.length : Int)) = false := decide_eq_false c10
         clear c10
         replace H := Option.bind_eq_some_iff.mp H
         obtain ⟨t360, A190, H⟩ := H
         try dsimp only at H
         have A19 := Aside0.mk A190
         clear A190
         by_cases c20 : x3_1.length < 5864062014805
         ·rw [if_pos c20] at H
          have LMc20 := Aside0.mk c20
          clear c20
          obtain ⟨y363, hy363⟩ : ∃ y_ : List (List Int), y_ = (x3_1 ++ [t360]) := ⟨_, rfl⟩
          replace H : (impl_table_parts.l0 k2 l0 y363 (Go.bits .or .u16 x4_1 x6_2) (l0.length : Int) (wrap64 (x12_1 + 1))) = some r := by first | (rw [hy363]; with_reducible exact H) | (have H2_ := (Option.bind_some _ _).symm.trans H; rw [hy363]; with_reducible exact H2_) | (have H2_ := (Option.bind_some _ _).symm.trans H; with_reducible exact H2_) | with_reducible exact H | (rw [hy363]; exact H) | exact H
          have Ny363 := Aside0.mk hy363
          clear hy363
          have H' := Aside0.mk H
          clear H
          go_wp2_with (first | ((with_reducible refine gate_callee (f := 78) rfl ?_); refine goC (N := some 46) Tryd.func78 #[.int .u16 x6_2] rfl ?_; (with_reducible refine (impl_listed.calls k2 x6_2 t360 _ A19.out).mono ?_); rintro e w21 ⟨v361, rfl, ho0, hb⟩; refine ⟨_, rfl, ?_⟩; have HO362 := Aside0.mk (Kd.R_lower ho0 (below_size hB)); replace HO_3 := Aside0.mk (Kd.S_elder' (sU HO_3) (Kd.R_base ho0) hb); replace HB := hS HB hb; (try clear hb); (try clear hb2); (try clear hk); (try clear hi); (try clear ho0); obtain ⟨Ao23, co23, eo23⟩ := Kd.R_slice HO362.out; subst eo23) | ((with_reducible refine gate_builtin (b := .append) (xs := #[.tmp 44, .tmp 47]) rfl ?_); at_builtin; refine Kd.S_append (Kd.slice 3 (Kd.int .i64)) (w0 := w) w.heap.size rfl (.tmp 44) (.tmp 47) 58 75 (.slice none 0 0) 24 rfl Tryd.underlying58 info75 rfl (by decide) (by omega) u3 x3_1 t360 [.slice Ao23 t360.length co23] (fun _ => True) (fun k_ => some k_ = (.slice Ao23 t360.length co23 : Value).ownBlock) rfl rfl ?aP (fun k_ hk_ => ((Kd.R_mono (ok' := fun k_ => ((fun _ => True)) k_ ∧ some k_ ≠ (u3 : Value).ownBlock) (Kd.R_apart' (HO362.out) (Kd.S_typed HO_3.out) (by decide)) (fun k_ hk => ⟨trivial, hk.2⟩))).1 k_ hk_.symm) ?aF ?aO ?aB ?aS ?aL ?_; (case aP => exact Kd.M_row (Kd.R_mono (Kd.R_tight rfl (Kd.R_mono (ok' := fun k_ => ((fun _ => True)) k_ ∧ some k_ ≠ (u3 : Value).ownBlock) (Kd.R_apart' (HO362.out) (Kd.S_typed HO_3.out) (by decide)) (fun k_ hk => ⟨trivial, hk.2⟩))) (fun _ h_ => h_))); (case aB => exact hB); (case aF => exact (fun _ _ => trivial)); (case aO => exact (by (with_reducible repeat (first | apply Kd.S_alloc | apply Kd.S_drewN | apply Kd.S_drew)); exact Kd.S_mono HO_3.out (fun k_ hk => ⟨trivial, fun e_ => hk.2 e_⟩))); (case aS => exact (below_size hB)); (case aL => have := LMc20.out; omega); intro v364 w22 ho hb hg hat; rw [← Ny363.out] at ho; have HO365 := Aside0.mk (ho); replace HB := Aside0.mk (hb); clear HO_3; clear HO362; clear ho hb hg hat))
          go_roundg k2
          case measure => have := HK1.out; have := HK2.out; omega
          case rel => exact ⟨(y363), (Go.bits .or .u16 x4_1 x6_2), (wrap64 (x12_1 + 1)), (by first | rfl | (simp; done) | (simp [*]; done)), (by first | rfl | (simp; done) | (simp [*]; done)), H', ⟨by have := HK1.out; have := HK2.out; omega⟩, ⟨sU HO365⟩, ⟨hB⟩⟩
         ·rw [if_neg c20] at H
          exact absurd H (by simp)
    ·rw [if_neg c5] at H
     exact absurd H (by simp)
   ·rw [if_neg c4] at H
    have c4b0 : decide (x12_1 < (l0.length : Int)) = false := decide_eq_false c4
    clear c4
    obtain rfl := Option.some.inj H
    go_wp2
    go_ret
    exact ⟨_, by first | rfl | (simp [errW_none, errW_some] <;> rfl) | (simp [*, errW_none, errW_some] <;> rfl), sU HO_3, hB⟩

/-! ### impl_toldOf: function 65 -/
def impl_toldOf.f (k : Nat) (a0 : Int) (a1 : Int) (l2 : List Int) : Option (Int) := if a0 = 2 then ((impl_table_number.f l2 a1).bind fun t371 => (some t371)) else (if a0 = 3 then ((impl_table_numbers.f k l2).bind fun t372 => ((impl_sum.f k t372).bind fun t375 => (some (wrap64 (Int.tdiv t375 2))))) else (if a0 = 4 then ((impl_threes.f k (l2.length : Int) l2).bind fun t376 => (some (t376.length : Int))) else ((impl_table_parts.f k l2).bind fun t379 => (some (t379.length : Int)))))
theorem impl_toldOf.mono : ∀ a0 a1 a2 k, LeO (impl_toldOf.f k a0 a1 a2) (impl_toldOf.f (k + 1) a0 a1 a2) := by
 intro a0 a1 a2 k
 unfold impl_toldOf.f
 repeat' first
   | (with_reducible exact impl_sum.mono _ _)
   | (with_reducible exact impl_table_numbers.mono _ _)
   | (with_reducible exact impl_table_parts.mono _ _)
   | (with_reducible exact impl_threes.mono _ _ _)
   | (with_reducible exact LeO.refl _)
   | (with_reducible exact LeO.none _)
   | (with_reducible refine LeO.ite ?_ ?_)
   | (with_reducible refine LeO.bind ?_ (fun _ => ?_))
   | exact impl_sum.mono _ _
   | exact impl_table_numbers.mono _ _
   | exact impl_table_parts.mono _ _
   | exact impl_threes.mono _ _ _
   | exact LeO.none _
   | refine LeO.ite ?_ ?_
   | refine LeO.bind ?_ (fun _ => ?_)
set_option maxHeartbeats 8000000 in
set_option maxRecDepth 100000 in
theorem impl_toldOf.calls (k : Nat) (a0 : Int) (a1 : Int) (A2 : Option Addr) (c2 : Nat) (l2 : List Int) (r : Int) (w : World) (hr2 : Kd.C (Kd.int .u16) w A2 l2.length l2) (hc2 : l2.length ≤ c2) (h : impl_toldOf.f k a0 a1 l2 = some r) (hG : GTab 0 w := by first | exact Aside0.out ‹Aside0 (GTab _ _)› | exact GTab.up (Aside0.out ‹Aside0 (GTab _ _)›) (by repeat (first | (with_reducible first | exact Below.refl _ _ | exact Aside0.out ‹Aside0 (Below _ _ _)› | apply below_alloc | apply pw_below_drewN | apply below_drew1 | refine below_set ?_ (Aside0.out (by assumption))) | exact Aside0.out ‹Aside0 (Below _ _ _)›))) :
  Calls Tryd.prog 65 #[.int .i64 a0, .int .i64 a1, .slice A2 l2.length c2] w fun e w' => e = .returned (.int .i64 r) ∧ Below w.heap.size w w' := by
 have HG := Aside0.mk (p := GTab _ _) hG
 clear hG
 have HR2 := Aside0.mk hr2
 have HC2 := Aside0.mk hc2
 clear hr2 hc2
 have HB := Aside0.mk (Below.refl w.heap.size w)
 have H : (if a0 = 2 then ((impl_table_number.f l2 a1).bind fun t371 => (some t371)) else (if a0 = 3 then ((impl_table_numbers.f k l2).bind fun t372 => ((impl_sum.f k t372).bind fun t375 => (some (wrap64 (Int.tdiv t375 2))))) else (if a0 = 4 then ((impl_threes.f k (l2.length : Int) l2).bind fun t376 => (some (t376.length : Int))) else ((impl_table_parts.f k l2).bind fun t379 => (some (t379.length : Int)))))) = some r := h
 clear h
 by_cases c4 : a0 = 2
 ·rw [if_pos c4] at H
  have c4b0 : (a0 == 2) = true := beq_iff_eq.mpr c4
  have c4b1 : (a0 != 2) = false := bne_eq_false_iff_eq.mpr c4
  clear c4
  replace H := Option.bind_eq_some_iff.mp H
  obtain ⟨t371, A50, H⟩ := H
  replace H : (some t371) = some r := H
  have A5 := Aside0.mk A50
  clear A50
  obtain rfl := Option.some.inj H
  go_enter Tryd.func65, Tryd.ntmps65
  go_wp2_with (first | ((with_reducible refine gate_callee (f := 104) rfl ?_); refine goC (N := some 12) Tryd.func104 #[.slice A2 l2.length c2, .int .i64 a1] rfl ?_; (with_reducible refine (impl_table_number.calls _ _ l2 a1 t371 _ ?side1 ?side2 A5.out).mono ?_); (case side1 => exact cS HR2.out); (case side2 => exact HC2.out); rintro e w' ⟨rfl, ⟨nd, rfl⟩⟩; refine ⟨_, rfl, ?_⟩))
  go_ret
  exact ⟨by first | rfl | (simp [errW_none, errW_some] <;> rfl) | (simp [*, errW_none, errW_some] <;> rfl), hB⟩
 ·rw [if_neg c4] at H
  have c4b0 : (a0 == 2) = false := beq_eq_false_iff_ne.mpr c4
  have c4b1 : (a0 != 2) = true := bne_iff_ne.mpr c4
  by_cases c6 : a0 = 3
  ·rw [if_pos c6] at H
   have c6b0 : (a0 == 3) = true := beq_iff_eq.mpr c6
   have c6b1 : (a0 != 3) = false := bne_eq_false_iff_eq.mpr c6
   clear c6
   replace H := Option.bind_eq_some_iff.mp H
   obtain ⟨t372, A70, H⟩ := H
   try dsimp only at H
   have A7 := Aside0.mk A70
   clear A70
   replace H := Option.bind_eq_some_iff.mp H
   obtain ⟨t375, A80, H⟩ := H
   try dsimp only at H
   have A8 := Aside0.mk A80
   clear A80
   obtain rfl := Option.some.inj H
   go_enter Tryd.func65, Tryd.ntmps65
   go_wp2_with (first | ((with_reducible refine gate_callee (f := 105) rfl ?_); refine goC (N := some 16) Tryd.func105 #[.slice A2 l2.length c2] rfl ?_; (with_reducible refine (impl_table_numbers.calls k _ _ l2 t372 _ ?side1 ?side2 A7.out).mono ?_); (case side1 => exact cS HR2.out); (case side2 => exact HC2.out); rintro e w9 ⟨v373, rfl, ho0, hb⟩; refine ⟨_, rfl, ?_⟩; have HO374 := Aside0.mk (Kd.R_lower ho0 (below_size hB)); replace HB := hS HB hb; (try clear hb); (try clear hb2); (try clear hk); (try clear hi); (try clear ho0); obtain ⟨Ao10, co10, eo10⟩ := Kd.R_slice HO374.out; subst eo10) | ((with_reducible refine gate_callee (f := 83) rfl ?_); refine goC (N := some 17) Tryd.func83 #[.slice Ao10 t372.length co10] rfl ?_; (with_reducible refine (impl_sum.calls k _ _ t372 t375 _ ?side1 ?side2 A8.out).mono ?_); (case side1 => exact cS (Kd.R_reads' HO374.out).2.2); (case side2 => exact (Kd.R_reads' HO374.out).2.1); rintro e w' ⟨rfl, ⟨nd, rfl⟩⟩; refine ⟨_, rfl, ?_⟩))
   go_ret
   exact ⟨by first | rfl | (simp [errW_none, errW_some] <;> rfl) | (simp [*, errW_none, errW_some] <;> rfl), hB⟩
  ·rw [if_neg c6] at H
   have c6b0 : (a0 == 3) = false := beq_eq_false_iff_ne.mpr c6
   have c6b1 : (a0 != 3) = true := bne_iff_ne.mpr c6
   by_cases c11 : a0 = 4
   ·rw [if_pos c11] at H
    have c11b0 : (a0 == 4) = true := beq_iff_eq.mpr c11
    have c11b1 : (a0 != 4) = false := bne_eq_false_iff_eq.mpr c11
    clear c11
    replace H := Option.bind_eq_some_iff.mp H
    obtain ⟨t376, A120, H⟩ := H
    replace H : (some (t376.length : Int)) = some r := H
    have A12 := Aside0.mk A120
    clear A120
    obtain rfl := Option.some.inj H
    go_enter Tryd.func65, Tryd.ntmps65
    go_wp2_with (first | ((with_reducible refine gate_callee (f := 106) rfl ?_); refine goC (N := some 25) Tryd.func106 #[.int .i64 (l2.length : Int), .func (.func 64) #[.slice A2 l2.length c2] #[]] rfl ?_; (with_reducible refine (impl_threes.calls k (l2.length : Int) _ _ l2 t376 _ ?side1 ?side2 A12.out).mono ?_); (case side1 => exact cS HR2.out); (case side2 => exact HC2.out); rintro e w13 ⟨v377, rfl, ho0, hb⟩; refine ⟨_, rfl, ?_⟩; have HO378 := Aside0.mk (Kd.S_lower ho0 (below_size hB)); replace HB := hS HB hb; (try clear hb); (try clear hb2); (try clear hk); (try clear hi); (try clear ho0); obtain ⟨Ao14, co14, eo14⟩ := Kd.S_slice HO378.out; subst eo14))
    go_ret
    exact ⟨by first | rfl | (simp [errW_none, errW_some] <;> rfl) | (simp [*, errW_none, errW_some] <;> rfl), hB⟩
   ·rw [if_neg c11] at H
    have c11b0 : (a0 == 4) = false := beq_eq_false_iff_ne.mpr c11
    have c11b1 : (a0 != 4) = true := bne_iff_ne.mpr c11
    replace H := Option.bind_eq_some_iff.mp H
    obtain ⟨t379, A150, H⟩ := H
    replace H : (some (t379.length : Int)) = some r := H
    have A15 := Aside0.mk A150
    clear A150
    obtain rfl := Option.some.inj H
    go_enter Tryd.func65, Tryd.ntmps65
    go_wp2_with (first | ((with_reducible refine gate_callee (f := 107) rfl ?_); refine goC (N := some 28) Tryd.func107 #[.slice A2 l2.length c2] rfl ?_; (with_reducible refine (impl_table_parts.calls k _ _ l2 t379 _ ?side1 ?side2 A15.out).mono ?_); (case side1 => exact cS HR2.out); (case side2 => exact HC2.out); rintro e w16 ⟨v380, rfl, ho0, hb⟩; refine ⟨_, rfl, ?_⟩; have HO381 := Aside0.mk (Kd.S_lower ho0 (below_size hB)); replace HB := hS HB hb; (try clear hb); (try clear hb2); (try clear hk); (try clear hi); (try clear ho0); obtain ⟨Ao17, co17, eo17⟩ := Kd.S_slice HO381.out; subst eo17))
    go_ret
    exact ⟨by first | rfl | (simp [errW_none, errW_some] <;> rfl) | (simp [*, errW_none, errW_some] <;> rfl), hB⟩

/-! ### impl_MakePuzzle: function 15 (a text of this session's own) -/
/-- What the loop leaves: the number in its box, the clues in the puzzle's, and all else that lay there. -/
structure impl_MakePuzzle.MSt (w Wl : World) (gs go : Nat) (n : Int) (ok : Nat → Prop) (W : World) (z : Int) (v : Value) (xs : List S70) : Prop where
  sd : W.heap[gs]? = some (.cells #[.int .i64 z] 3 (0, 0))
  ou : W.heap[go]? = some (.cells #[.int .i64 n, v] 28 (0, 0))
  row : Kd.R k70 70 W Wl.heap.size ok v xs
  keep : ∀ k, k < Wl.heap.size → k ≠ gs → k ≠ go → W.heap[k]? = Wl.heap[k]?
  size : Wl.heap.size ≤ W.heap.size
  below : Below w.heap.size w W
/-- Where the boxes lie. -/
structure impl_MakePuzzle.Lie (w Wl : World) (gs go : Nat) : Prop where
  s0 : w.heap.size ≤ gs
  s1 : gs < Wl.heap.size
  o0 : w.heap.size ≤ go
  o1 : go < Wl.heap.size
  ne : gs ≠ go
section
variable {w Wl W W' : World} {gs go : Nat} {n z z2 : Int} {ok ok' : Nat → Prop} {v v' : Value} {xs ys : List S70}
theorem impl_MakePuzzle.MSt.later (s : impl_MakePuzzle.MSt w Wl gs go n ok W z v xs) (L : impl_MakePuzzle.Lie w Wl gs go) (hb : Below W.heap.size W W') : impl_MakePuzzle.MSt w Wl gs go n ok W' z v xs :=
  ⟨blk_below s.sd hb, blk_below s.ou hb, Kd.R_below s.row hb, fun k h1 h2 h3 => (hb.block k (Nat.lt_of_lt_of_le h1 s.size)).trans (s.keep k h1 h2 h3), Nat.le_trans s.size hb.size, below_step s.below hb⟩
theorem impl_MakePuzzle.MSt.drewN (s : impl_MakePuzzle.MSt w Wl gs go n ok W z v xs) (L : impl_MakePuzzle.Lie w Wl gs go) (m : Nat) : impl_MakePuzzle.MSt w Wl gs go n ok (W.drewN m) z v xs := s.later L (pw_below_drewN (Below.refl _ _) m)
theorem impl_MakePuzzle.MSt.box (s : impl_MakePuzzle.MSt w Wl gs go n ok W z v xs) (L : impl_MakePuzzle.Lie w Wl gs go) {g : Nat} (hg : g = W.heap.size) (hb : Below W.heap.size W W') : impl_MakePuzzle.MSt w Wl gs go n (fun k => k ≠ g) W' z v xs :=
  ⟨blk_below s.sd hb, blk_below s.ou hb, Kd.R_mono (Kd.R_below (Kd.R_bound s.row) hb) (fun k hk => by have := hk.2.2.1; omega), fun k h1 h2 h3 => (hb.block k (Nat.lt_of_lt_of_le h1 s.size)).trans (s.keep k h1 h2 h3), Nat.le_trans s.size hb.size, below_step s.below hb⟩
theorem impl_MakePuzzle.MSt.seed (s : impl_MakePuzzle.MSt w Wl gs go n ok W z v xs) (L : impl_MakePuzzle.Lie w Wl gs go) : impl_MakePuzzle.MSt w Wl gs go n ok (W.setCell ⟨gs, 0, none⟩ (.int .i64 z2)) z2 v xs :=
  ⟨blk_set s.sd 0 _, blk_far s.ou (p := ⟨gs, 0, none⟩) (Ne.symm L.ne) _, Kd.R_mono (Kd.R_far (p := ⟨gs, 0, none⟩) (Kd.R_bound s.row) (fun k hk => by have := hk.2.1; have := L.s1; simp only; omega) _) (fun _ hk => hk.1), fun k h1 h2 h3 => (Below.heap_setCell W ⟨gs, 0, none⟩ _ k h2).trans (s.keep k h1 h2 h3), by simpa using s.size, s.below.setCell L.s0 _⟩
theorem impl_MakePuzzle.MSt.far (s : impl_MakePuzzle.MSt w Wl gs go n ok W z v xs) (L : impl_MakePuzzle.Lie w Wl gs go) {g j : Nat} {u : Value} (hg : Wl.heap.size ≤ g) (hok : ∀ k, ok k → k ≠ g) : impl_MakePuzzle.MSt w Wl gs go n ok (W.setCell ⟨g, j, none⟩ u) z v xs :=
  ⟨blk_far s.sd (p := ⟨g, j, none⟩) (by have := L.s1; simp only; omega) _, blk_far s.ou (p := ⟨g, j, none⟩) (by have := L.o1; simp only; omega) _, Kd.R_far s.row hok _, fun k h1 h2 h3 => (Below.heap_setCell W ⟨g, j, none⟩ _ k (by simp only; omega)).trans (s.keep k h1 h2 h3), by simpa using s.size, s.below.setCell (show w.heap.size ≤ g by have := L.s0; have := L.s1; omega) _⟩
theorem impl_MakePuzzle.MSt.add (s : impl_MakePuzzle.MSt w Wl gs go n ok W z v xs) (L : impl_MakePuzzle.Lie w Wl gs go) (ho : Kd.R k70 70 W' Wl.heap.size ok' v' ys) (hb : Below Wl.heap.size W W') : impl_MakePuzzle.MSt w Wl gs go n (fun _ => True) (W'.setCell ⟨go, 1, none⟩ v') z v' ys :=
  ⟨blk_far ((hb.block gs L.s1).trans s.sd) (p := ⟨go, 1, none⟩) L.ne _, blk_set ((hb.block go L.o1).trans s.ou) 1 _, Kd.R_mono (Kd.R_far (p := ⟨go, 1, none⟩) (Kd.R_bound ho) (fun k hk => by have := hk.2.1; have := L.o1; simp only; omega) _) (fun _ _ => trivial), fun k h1 h2 h3 => ((Below.heap_setCell W' ⟨go, 1, none⟩ _ k h3).trans (hb.block k h1)).trans (s.keep k h1 h2 h3), by simpa using Nat.le_trans s.size hb.size, (s.below.trans (hb.mono (by have := L.s0; have := L.s1; omega))).setCell L.o0 _⟩
/-- The next number, told by what the loop leaves. -/
theorem impl_MakePuzzle.nxt (s : impl_MakePuzzle.MSt w Wl gs go n ok W z v xs) (L : impl_MakePuzzle.Lie w Wl gs go) : Calls Tryd.prog 62 #[.pointer (some ⟨gs, 0, none⟩)] W fun e w' => e = .returned (.int .i64 (nxtI z)) ∧ impl_MakePuzzle.MSt w Wl gs go n ok w' (nxtI z) v xs ∧ ∀ k, k ≠ gs → w'.heap[k]? = W.heap[k]? :=
  (impl_MakePuzzle_1.calls z gs W s.sd).mono (by
    rintro e w' ⟨rfl, rfl⟩
    exact ⟨rfl, s.seed L, fun k hk => Below.heap_setCell W ⟨gs, 0, none⟩ _ k hk⟩)
/-- The table stands. -/
theorem impl_MakePuzzle.MSt.tab (s : impl_MakePuzzle.MSt w Wl gs go n ok W z v xs) {A : Option Addr} {m : Nat} {t : List Int} {okt : Nat → Prop} {base c : Nat} (h : Kd.R (Kd.int .u16) 97 Wl base okt (.slice A m c) t) (hk : ∀ k, okt k → k ≠ gs ∧ k ≠ go) : Kd.C (Kd.int .u16) W A t.length t :=
  (Kd.R_reads' (Kd.R_step h (fun k hk1 hk2 => s.keep k hk2 (hk k hk1).1 (hk k hk1).2))).2.2
end

def impl_MakePuzzle.T3 : Bool × List (List Nat × List Nat) := (true, [([], []), ([0], [0]), ([], []), ([2], [2]), ([1, 3, 0, 1], [1]), ([3, 4, 0, 1, 2, 3, 4], [3])])
def impl_MakePuzzle.B3 : List Nat := [0, 1, 0, 4, 15, 31]
theorem impl_MakePuzzle.tab3 : rtab .any (opsOf Tryd.f15 3) = impl_MakePuzzle.T3 := by kernel_rfl
theorem impl_MakePuzzle.bits3 : waitsOk impl_MakePuzzle.T3.2 impl_MakePuzzle.B3 = true := by kernel_rfl
def impl_MakePuzzle.l0 : Nat → Int → List Int → Int → Int → Int → List S70 → Option (Int × List S70 × Bool)
 | 0, _, _, _, _, _, _ => none
 | k + 1, n, t, m, i, z, xs => if i < m then (if (Int.tmod (nxtI z) 6) = 0 ∨ (Int.tmod (nxtI z) 6) = 1 then ((impl_table_has.f t (Int.tmod (nxtI (nxtI z)) n) (Int.tmod (wrap64 (wrap64 (Int.tmod (nxtI (nxtI (nxtI z))) (wrap64 (n - 1)) + (Int.tmod (nxtI (nxtI z)) n)) + 1)) n)).bind fun h => (impl_bit.f (!h)).bind fun q => (if xs.length < 5864062014805 then impl_MakePuzzle.l0 k n t m (wrap64 (i + 1)) (nxtI (nxtI (nxtI z))) (xs ++ [⟨q, (if (Int.tmod (wrap64 (wrap64 (Int.tmod (nxtI (nxtI (nxtI z))) (wrap64 (n - 1)) + (Int.tmod (nxtI (nxtI z)) n)) + 1)) n) < (Int.tmod (nxtI (nxtI z)) n) then (Int.tmod (wrap64 (wrap64 (Int.tmod (nxtI (nxtI (nxtI z))) (wrap64 (n - 1)) + (Int.tmod (nxtI (nxtI z)) n)) + 1)) n) else (Int.tmod (nxtI (nxtI z)) n)), (if (Int.tmod (nxtI (nxtI z)) n) < (Int.tmod (wrap64 (wrap64 (Int.tmod (nxtI (nxtI (nxtI z))) (wrap64 (n - 1)) + (Int.tmod (nxtI (nxtI z)) n)) + 1)) n) then (Int.tmod (wrap64 (wrap64 (Int.tmod (nxtI (nxtI (nxtI z))) (wrap64 (n - 1)) + (Int.tmod (nxtI (nxtI z)) n)) + 1)) n) else (Int.tmod (nxtI (nxtI z)) n))⟩]) else none)) else if (Int.tmod (nxtI z) 6) = 2 then ((impl_toldOf.f k 2 (Int.tmod (nxtI (nxtI z)) n) t).bind fun b => (if xs.length < 5864062014805 then impl_MakePuzzle.l0 k n t m (wrap64 (i + 1)) (nxtI (nxtI z)) (xs ++ [⟨2, (Int.tmod (nxtI (nxtI z)) n), b⟩]) else none)) else ((impl_toldOf.f k (Int.tmod (nxtI z) 6) 0 t).bind fun v => (if xs.length < 5864062014805 then impl_MakePuzzle.l0 k n t m (wrap64 (i + 1)) (nxtI z) (xs ++ [⟨(Int.tmod (nxtI z) 6), v, 0⟩]) else none))) else some (n, xs, true)
theorem impl_MakePuzzle.mono_l : ∀ k, (∀ y0 y1 y2 y3 y4 y5, LeO (impl_MakePuzzle.l0 k y0 y1 y2 y3 y4 y5) (impl_MakePuzzle.l0 (k + 1) y0 y1 y2 y3 y4 y5))
 | 0 => fun _ _ _ _ _ _ r h => by simp [impl_MakePuzzle.l0] at h
 | k + 1 => by
  have ih0 := impl_MakePuzzle.mono_l k
  intro y0 y1 y2 y3 y4 y5
  unfold impl_MakePuzzle.l0
  repeat' first
    | (with_reducible exact ih0 _ _ _ _ _ _)
    | (with_reducible exact impl_toldOf.mono _ _ _ _)
    | (with_reducible exact LeO.refl _)
    | (with_reducible exact LeO.none _)
    | (with_reducible refine LeO.ite ?_ ?_)
    | (with_reducible refine LeO.bind ?_ (fun _ => ?_))
def impl_MakePuzzle.f (k : Nat) (n : Int) (l : List S105) (m z : Int) : Option (Int × List S70 × Bool) := (impl_isGuestParty.f k n l).bind fun g => if g = true then (if n < 2 then some (0, [], false) else (impl_within.f m 0 8).bind fun u => if u = true then ((impl_within.f z 0 9999).bind fun v => if v = true then (if n ≤ 5 then (impl_Party_table.f k n l).bind fun t => impl_MakePuzzle.l0 k n t m 0 z [] else none) else some (0, [], false)) else some (0, [], false)) else some (0, [], false)
theorem impl_MakePuzzle.mono : ∀ a0 a1 a2 a3 k, LeO (impl_MakePuzzle.f k a0 a1 a2 a3) (impl_MakePuzzle.f (k + 1) a0 a1 a2 a3) := by
  intro a0 a1 a2 a3 k
  unfold impl_MakePuzzle.f
  repeat' first
    | (with_reducible exact impl_MakePuzzle.mono_l k _ _ _ _ _ _)
    | (with_reducible exact impl_isGuestParty.mono _ _ _)
    | (with_reducible exact impl_Party_table.mono _ _ _)
    | (with_reducible exact LeO.refl _)
    | (with_reducible exact LeO.none _)
    | (with_reducible refine LeO.ite ?_ ?_)
    | (with_reducible refine LeO.bind ?_ (fun _ => ?_))
set_option maxHeartbeats 16000000 in
set_option maxRecDepth 100000 in
theorem impl_MakePuzzle.calls (k : Nat) (n : Int) (Ap : Option Addr) (cp : Nat) (l : List S105) (m z : Int) (r1 : Int) (r2 : List S70) (r3 : Bool) (w : World) (hr : Kd.C k105 w Ap l.length l) (hc : l.length ≤ cp) (h : impl_MakePuzzle.f k n l m z = some (r1, r2, r3)) (hG : GTab 0 w := by first | exact Aside0.out ‹Aside0 (GTab _ _)› | exact GTab.up (Aside0.out ‹Aside0 (GTab _ _)›) (by repeat (first | (with_reducible first | exact Below.refl _ _ | exact Aside0.out ‹Aside0 (Below _ _ _)› | apply below_alloc | apply pw_below_drewN | apply below_drew1 | refine below_set ?_ (Aside0.out (by assumption))) | exact Aside0.out ‹Aside0 (Below _ _ _)›))) :
    Calls Tryd.prog 15 #[.agg #[.int .i64 n, .slice Ap l.length cp], .int .i64 m, .int .i64 z] w fun e w' => ∃ v1_ : Value, e = .returned (.tuple #[.agg #[.int .i64 r1, v1_], .bool r3]) ∧ Kd.R k70 70 w' w.heap.size (fun _ => True) v1_ r2 ∧ Below w.heap.size w w' := by
  have hu40 := Tryd.underlying28
  have hu34 := Tryd.underlying33
  have hu30 := Tryd.underlying70
  have HR := Aside0.mk hr
  have HC := Aside0.mk hc
  have HG := Aside0.mk hG
  have HB := Aside0.mk (Below.refl w.heap.size w)
  clear hr hc hG
  unfold impl_MakePuzzle.f at h
  replace h := Option.bind_eq_some_iff.mp h
  obtain ⟨g, hg0, h⟩ := h
  have HGP := Aside0.mk hg0
  clear hg0
  cases g with
  | false =>
    rw [if_neg (by simp)] at h
    simp only [Option.some.injEq, Prod.mk.injEq] at h
    obtain ⟨rfl, rfl, rfl⟩ := h
    go_enter Tryd.func15, Tryd.ntmps15
    go_wp2_with (first
      | ((with_reducible refine gate_dst (N := 3) rfl ?_); refine bxE 3 #[.int .i64 n, .slice Ap l.length cp] 33 rfl ?_; intro gp hg w2 hbox hb; have BKp := Aside0.mk hbox; have GEp := gS HB hg; replace HB := hS HB hb; clear hg hbox hb)
      | ((with_reducible refine gate_dst (N := 5) rfl ?_); refine bxE 5 #[.int .i64 z] 3 rfl ?_; intro gs hg w3 hbox hb; have BKs := Aside0.mk hbox; have GEs := gS HB hg; replace BKp := bS BKp hb; replace HB := hS HB hb; clear hg hbox hb)
      | ((with_reducible refine gate_dst (N := 6) rfl ?_); refine bxE 6 #[.int .i64 0, .slice none 0 0] 28 rfl ?_; intro gr hg w4 hbox hb; have BKr := Aside0.mk hbox; have GEr := gS HB hg; replace BKp := bS BKp hb; replace BKs := bS BKs hb; replace HB := hS HB hb; have hp0 := cz BKp 0; have hp1 := cz BKp 1; have hsd := cz BKs 0; have hr0 := cz BKr 0; have hr1 := cz BKr 1; have hr2 := fz BKr 0; have hr3 := fz BKr 1; clear hg hbox hb)
      | (go_at_call 59; refine (impl_isGuestParty.calls k n Ap cp l false _ (Kd.C_below HR.out HB.out) HC.out HGP.out).mono ?_; rintro e w5 ⟨rfl, hb⟩; replace BKp := bS BKp hb; replace BKs := bS BKs hb; replace BKr := bS BKr hb; replace HB := hS HB hb; clear hb hp0 hp1 hsd hr0 hr1 hr2 hr3; have hp0 := cz BKp 0; have hp1 := cz BKp 1; have hsd := cz BKs 0; have hr0 := cz BKr 0; have hr1 := cz BKr 1; have hr2 := fz BKr 0; have hr3 := fz BKr 1))
    refine bodyPost_ret (results_ct rfl _ _ gr 28 #[.int .i64 0, .slice none 0 0] (0, 0) _ rfl (by (with_reducible repeat (first | refine blk_drewN ?_ _ | refine blk_drew ?_ | refine blk_alloc ?_ _)); refine blk_put (cs := #[.int .i64 0, .slice none 0 0]) ?_ 1 _ rfl; (with_reducible repeat (first | refine blk_drewN ?_ _ | refine blk_drew ?_ | refine blk_alloc ?_ _)); refine blk_put (cs := #[.int .i64 0, .slice none 0 0]) ?_ 0 _ rfl; (with_reducible repeat (first | refine blk_drewN ?_ _ | refine blk_drew ?_ | refine blk_alloc ?_ _)); exact BKr.out) Tryd.underlying28 rfl (by kernel_rfl)) rfl ?_
    exact ⟨_, rfl, Kd.R_nil _ _ _ _ _, hB⟩
  | true =>
    rw [if_pos rfl] at h
    by_cases c2 : n < 2
    · rw [if_pos c2] at h
      have c2b : decide (n < 2) = true := decide_eq_true c2
      simp only [Option.some.injEq, Prod.mk.injEq] at h
      obtain ⟨rfl, rfl, rfl⟩ := h
      go_enter Tryd.func15, Tryd.ntmps15
      go_wp2_with (first
        | ((with_reducible refine gate_dst (N := 3) rfl ?_); refine bxE 3 #[.int .i64 n, .slice Ap l.length cp] 33 rfl ?_; intro gp hg w2 hbox hb; have BKp := Aside0.mk hbox; have GEp := gS HB hg; replace HB := hS HB hb; clear hg hbox hb)
        | ((with_reducible refine gate_dst (N := 5) rfl ?_); refine bxE 5 #[.int .i64 z] 3 rfl ?_; intro gs hg w3 hbox hb; have BKs := Aside0.mk hbox; have GEs := gS HB hg; replace BKp := bS BKp hb; replace HB := hS HB hb; clear hg hbox hb)
        | ((with_reducible refine gate_dst (N := 6) rfl ?_); refine bxE 6 #[.int .i64 0, .slice none 0 0] 28 rfl ?_; intro gr hg w4 hbox hb; have BKr := Aside0.mk hbox; have GEr := gS HB hg; replace BKp := bS BKp hb; replace BKs := bS BKs hb; replace HB := hS HB hb; have hp0 := cz BKp 0; have hp1 := cz BKp 1; have hsd := cz BKs 0; have hr0 := cz BKr 0; have hr1 := cz BKr 1; have hr2 := fz BKr 0; have hr3 := fz BKr 1; clear hg hbox hb)
        | (go_at_call 59; refine (impl_isGuestParty.calls k n Ap cp l true _ (Kd.C_below HR.out HB.out) HC.out HGP.out).mono ?_; rintro e w5 ⟨rfl, hb⟩; replace BKp := bS BKp hb; replace BKs := bS BKs hb; replace BKr := bS BKr hb; replace HB := hS HB hb; clear hb hp0 hp1 hsd hr0 hr1 hr2 hr3; have hp0 := cz BKp 0; have hp1 := cz BKp 1; have hsd := cz BKs 0; have hr0 := cz BKr 0; have hr1 := cz BKr 1; have hr2 := fz BKr 0; have hr3 := fz BKr 1))
      refine bodyPost_ret (results_ct rfl _ _ gr 28 #[.int .i64 0, .slice none 0 0] (0, 0) _ rfl (by (with_reducible repeat (first | refine blk_drewN ?_ _ | refine blk_drew ?_ | refine blk_alloc ?_ _)); refine blk_put (cs := #[.int .i64 0, .slice none 0 0]) ?_ 1 _ rfl; (with_reducible repeat (first | refine blk_drewN ?_ _ | refine blk_drew ?_ | refine blk_alloc ?_ _)); refine blk_put (cs := #[.int .i64 0, .slice none 0 0]) ?_ 0 _ rfl; (with_reducible repeat (first | refine blk_drewN ?_ _ | refine blk_drew ?_ | refine blk_alloc ?_ _)); exact BKr.out) Tryd.underlying28 rfl (by kernel_rfl)) rfl ?_
      exact ⟨_, rfl, Kd.R_nil _ _ _ _ _, hB⟩
    · rw [if_neg c2] at h
      have c2b : decide (n < 2) = false := decide_eq_false c2
      replace h := Option.bind_eq_some_iff.mp h
      obtain ⟨u, hu0, h⟩ := h
      have HU := Aside0.mk hu0
      clear hu0
      cases u with
      | false =>
        rw [if_neg (by simp)] at h
        simp only [Option.some.injEq, Prod.mk.injEq] at h
        obtain ⟨rfl, rfl, rfl⟩ := h
        go_enter Tryd.func15, Tryd.ntmps15
        go_wp2_with (first
          | ((with_reducible refine gate_dst (N := 3) rfl ?_); refine bxE 3 #[.int .i64 n, .slice Ap l.length cp] 33 rfl ?_; intro gp hg w2 hbox hb; have BKp := Aside0.mk hbox; have GEp := gS HB hg; replace HB := hS HB hb; clear hg hbox hb)
          | ((with_reducible refine gate_dst (N := 5) rfl ?_); refine bxE 5 #[.int .i64 z] 3 rfl ?_; intro gs hg w3 hbox hb; have BKs := Aside0.mk hbox; have GEs := gS HB hg; replace BKp := bS BKp hb; replace HB := hS HB hb; clear hg hbox hb)
          | ((with_reducible refine gate_dst (N := 6) rfl ?_); refine bxE 6 #[.int .i64 0, .slice none 0 0] 28 rfl ?_; intro gr hg w4 hbox hb; have BKr := Aside0.mk hbox; have GEr := gS HB hg; replace BKp := bS BKp hb; replace BKs := bS BKs hb; replace HB := hS HB hb; have hp0 := cz BKp 0; have hp1 := cz BKp 1; have hsd := cz BKs 0; have hr0 := cz BKr 0; have hr1 := cz BKr 1; have hr2 := fz BKr 0; have hr3 := fz BKr 1; clear hg hbox hb)
          | (go_at_call 59; refine (impl_isGuestParty.calls k n Ap cp l true _ (Kd.C_below HR.out HB.out) HC.out HGP.out).mono ?_; rintro e w5 ⟨rfl, hb⟩; replace BKp := bS BKp hb; replace BKs := bS BKs hb; replace BKr := bS BKr hb; replace HB := hS HB hb; clear hb hp0 hp1 hsd hr0 hr1 hr2 hr3; have hp0 := cz BKp 0; have hp1 := cz BKp 1; have hsd := cz BKs 0; have hr0 := cz BKr 0; have hr1 := cz BKr 1; have hr2 := fz BKr 0; have hr3 := fz BKr 1)
          | (go_at_call 60; refine (impl_within.calls m 0 8 false _ HU.out).mono ?_; rintro e w6 ⟨rfl, ⟨m_, rfl⟩⟩))
        refine bodyPost_ret (results_ct rfl _ _ gr 28 #[.int .i64 0, .slice none 0 0] (0, 0) _ rfl (by (with_reducible repeat (first | refine blk_drewN ?_ _ | refine blk_drew ?_ | refine blk_alloc ?_ _)); refine blk_put (cs := #[.int .i64 0, .slice none 0 0]) ?_ 1 _ rfl; (with_reducible repeat (first | refine blk_drewN ?_ _ | refine blk_drew ?_ | refine blk_alloc ?_ _)); refine blk_put (cs := #[.int .i64 0, .slice none 0 0]) ?_ 0 _ rfl; (with_reducible repeat (first | refine blk_drewN ?_ _ | refine blk_drew ?_ | refine blk_alloc ?_ _)); exact BKr.out) Tryd.underlying28 rfl (by kernel_rfl)) rfl ?_
        exact ⟨_, rfl, Kd.R_nil _ _ _ _ _, hB⟩
      | true =>
        rw [if_pos rfl] at h
        replace h := Option.bind_eq_some_iff.mp h
        obtain ⟨v, hv0, h⟩ := h
        have HV := Aside0.mk hv0
        clear hv0
        cases v with
        | false =>
          rw [if_neg (by simp)] at h
          simp only [Option.some.injEq, Prod.mk.injEq] at h
          obtain ⟨rfl, rfl, rfl⟩ := h
          go_enter Tryd.func15, Tryd.ntmps15
          go_wp2_with (first
            | ((with_reducible refine gate_dst (N := 3) rfl ?_); refine bxE 3 #[.int .i64 n, .slice Ap l.length cp] 33 rfl ?_; intro gp hg w2 hbox hb; have BKp := Aside0.mk hbox; have GEp := gS HB hg; replace HB := hS HB hb; clear hg hbox hb)
            | ((with_reducible refine gate_dst (N := 5) rfl ?_); refine bxE 5 #[.int .i64 z] 3 rfl ?_; intro gs hg w3 hbox hb; have BKs := Aside0.mk hbox; have GEs := gS HB hg; replace BKp := bS BKp hb; replace HB := hS HB hb; clear hg hbox hb)
            | ((with_reducible refine gate_dst (N := 6) rfl ?_); refine bxE 6 #[.int .i64 0, .slice none 0 0] 28 rfl ?_; intro gr hg w4 hbox hb; have BKr := Aside0.mk hbox; have GEr := gS HB hg; replace BKp := bS BKp hb; replace BKs := bS BKs hb; replace HB := hS HB hb; have hp0 := cz BKp 0; have hp1 := cz BKp 1; have hsd := cz BKs 0; have hr0 := cz BKr 0; have hr1 := cz BKr 1; have hr2 := fz BKr 0; have hr3 := fz BKr 1; clear hg hbox hb)
            | (go_at_call 59; refine (impl_isGuestParty.calls k n Ap cp l true _ (Kd.C_below HR.out HB.out) HC.out HGP.out).mono ?_; rintro e w5 ⟨rfl, hb⟩; replace BKp := bS BKp hb; replace BKs := bS BKs hb; replace BKr := bS BKr hb; replace HB := hS HB hb; clear hb hp0 hp1 hsd hr0 hr1 hr2 hr3; have hp0 := cz BKp 0; have hp1 := cz BKp 1; have hsd := cz BKs 0; have hr0 := cz BKr 0; have hr1 := cz BKr 1; have hr2 := fz BKr 0; have hr3 := fz BKr 1)
            | (go_at_call 60; first | ((with_reducible refine (impl_within.calls m 0 8 true _ HU.out).mono ?_); rintro e w6 ⟨rfl, ⟨m_, rfl⟩⟩) | ((with_reducible refine (impl_within.calls z 0 9999 false _ HV.out).mono ?_); rintro e w6 ⟨rfl, ⟨m_, rfl⟩⟩)))
          refine bodyPost_ret (results_ct rfl _ _ gr 28 #[.int .i64 0, .slice none 0 0] (0, 0) _ rfl (by (with_reducible repeat (first | refine blk_drewN ?_ _ | refine blk_drew ?_ | refine blk_alloc ?_ _)); refine blk_put (cs := #[.int .i64 0, .slice none 0 0]) ?_ 1 _ rfl; (with_reducible repeat (first | refine blk_drewN ?_ _ | refine blk_drew ?_ | refine blk_alloc ?_ _)); refine blk_put (cs := #[.int .i64 0, .slice none 0 0]) ?_ 0 _ rfl; (with_reducible repeat (first | refine blk_drewN ?_ _ | refine blk_drew ?_ | refine blk_alloc ?_ _)); exact BKr.out) Tryd.underlying28 rfl (by kernel_rfl)) rfl ?_
          exact ⟨_, rfl, Kd.R_nil _ _ _ _ _, hB⟩
        | true =>
          rw [if_pos rfl] at h
          by_cases c5 : n ≤ 5
          · rw [if_pos c5] at h
            replace h := Option.bind_eq_some_iff.mp h
            obtain ⟨t, ht0, h⟩ := h
            have HTB := Aside0.mk ht0
            have HL := Aside0.mk h
            clear ht0 h
            go_enter Tryd.func15, Tryd.ntmps15
            go_wp2_with (first
              | ((with_reducible refine gate_dst (N := 3) rfl ?_); refine bxE 3 #[.int .i64 n, .slice Ap l.length cp] 33 rfl ?_; intro gp hg w2 hbox hb; have BKp := Aside0.mk hbox; have GEp := gS HB hg; replace HB := hS HB hb; clear hg hbox hb)
              | ((with_reducible refine gate_dst (N := 5) rfl ?_); refine bxE 5 #[.int .i64 z] 3 rfl ?_; intro gs hg w3 hbox hb; have BKs := Aside0.mk hbox; have GEs := gS HB hg; replace BKp := bS BKp hb; replace HB := hS HB hb; clear hg hbox hb)
              | ((with_reducible refine gate_dst (N := 6) rfl ?_); refine bxE 6 #[.int .i64 0, .slice none 0 0] 28 rfl ?_; intro gr hg w4 hbox hb; have BKr := Aside0.mk hbox; have GEr := gS HB hg; replace BKp := bS BKp hb; replace BKs := bS BKs hb; replace HB := hS HB hb; have hp0 := cz BKp 0; have hp1 := cz BKp 1; have hsd := cz BKs 0; have hr0 := cz BKr 0; have hr1 := cz BKr 1; have hr2 := fz BKr 0; have hr3 := fz BKr 1; clear hg hbox hb)
              | (go_at_call 59; refine (impl_isGuestParty.calls k n Ap cp l true _ (Kd.C_below HR.out HB.out) HC.out HGP.out).mono ?_; rintro e w5 ⟨rfl, hb⟩; replace BKp := bS BKp hb; replace BKs := bS BKs hb; replace BKr := bS BKr hb; replace HB := hS HB hb; clear hb hp0 hp1 hsd hr0 hr1 hr2 hr3; have hp0 := cz BKp 0; have hp1 := cz BKp 1; have hsd := cz BKs 0; have hr0 := cz BKr 0; have hr1 := cz BKr 1; have hr2 := fz BKr 0; have hr3 := fz BKr 1)
              | (go_at_call 60; first | ((with_reducible refine (impl_within.calls m 0 8 true _ HU.out).mono ?_); rintro e w6 ⟨rfl, ⟨m1_, rfl⟩⟩) | ((with_reducible refine (impl_within.calls z 0 9999 true _ HV.out).mono ?_); rintro e w6 ⟨rfl, ⟨m2_, rfl⟩⟩)))
            clear hp0 hp1 hsd hr0 hr1 hr2 hr3
            have SW := Aside0.mk (fun (W' : World) (hb : Below w5.heap.size w5 W') => (⟨pw_cell_below hb ((blk_cell BKp.out 0).trans rfl), pw_cell_below hb ((blk_cell BKp.out 1).trans rfl)⟩ : (fun w' : World => w'.cell? ⟨gp, 0, none⟩ = some (.int .i64 n) ∧ w'.cell? ⟨gp, 1, none⟩ = some (.slice Ap l.length cp)) W'))
            refine start_ (n := 6) (S := fun w' => w'.cell? ⟨gp, 0, none⟩ = some (.int .i64 n) ∧ w'.cell? ⟨gp, 1, none⟩ = some (.slice Ap l.length cp)) (ds := []) (bz 6 0) (by kernel_rfl) rfl rfl (SW.out _ (by repeat (first | exact Below.refl _ _ | apply below_drew1 | apply pw_below_drewN))) (fun hHeld => ?_)
            refine with_tabW impl_MakePuzzle.tab3 impl_MakePuzzle.bits3 (fun HT_ HW_ => ?_)
            have HBd := Aside0.mk (show Below w5.heap.size w5 (w5.drewN (m1_ + m2_)).drew from by repeat (first | exact Below.refl _ _ | apply below_drew1 | apply pw_below_drewN))
            generalize (w5.drewN (m1_ + m2_)).drew = w6 at HBd hHeld ⊢
            refine run_ [(0, 0, 1, some 34), (1, 1, 3, some 35), (1, 2, 7, some 36)] ?_
            repeat (first | (apply tag0; refine run_p (v := ?_) (a' := ?_) rfl rfl (any_of HT_.out (by kernel_rfl)) (fun _ _ _ h => h) (by rfl) ?_ ?_ ?_; rotate_left 2; (intro w'; go_simp; with_reducible rfl); (first | (simp only [Act.put, List.setIfInBounds_toArray, List.set_cons_zero, List.set_cons_succ, i64_w, i32_w]; rfl) | rfl)) | (apply tag1; refine run_t (v := ?_) (a' := ?_) rfl rfl (take_ofW HT_.out HW_.out (by kernel_rfl)) (fun _ _ _ h => h) (by rfl) ?_ hHeld ?_ ?_; rotate_left 2; (rintro w' ⟨s0, s1⟩; go_simp; with_reducible rfl); (first | (simp only [Act.put, List.setIfInBounds_toArray, List.set_cons_zero, List.set_cons_succ, i64_w, i32_w]; rfl) | rfl)))
            refine run_nil ?_
            refine one_ (i := 3) (N := some 37) (bz 6 15) rfl rfl (one_of HT_.out (by kernel_rfl)) (by decide) (fun K hK => ?_)
            refine goes_ Tryd.func61 (by kernel_rfl) rfl #[.agg #[.int .i64 n, .slice Ap l.length cp]] (by rfl) rfl rfl mapT ?_
            refine (impl_Party_table.calls k n Ap cp l t _ (Kd.C_below (Kd.C_below HR.out HB.out) HBd.out) HC.out HTB.out).mono ?_
            rintro e w7 ⟨vt, rfl, ho, hb⟩
            refine ⟨_, rfl, ?_⟩
            have HOt := Aside0.mk ho
            have H57 := Aside0.mk (below_step HBd.out hb)
            have H67 := Aside0.mk hb
            clear ho hb
            obtain ⟨At, ct, rfl⟩ := Kd.R_slice HOt.out
            refine hK.out _ _ (SW.out _ H57.out) (fun hHeld4 => ?_)
            clear hK K
            refine norm_ (a' := ?_) ?_ ?_
            rotate_left
            · show Act.put _ (some 37) _ = _
              simp only [Act.put, List.setIfInBounds_toArray, List.set_cons_zero, List.set_cons_succ, i64_w, i32_w]
              rfl
            refine run_ [(0, 4, 31, some 8), (0, 5, 63, some 9)] ?_
            repeat (apply tag0; refine run_p (v := ?_) (a' := ?_) rfl rfl (any_of HT_.out (by kernel_rfl)) (fun _ _ _ h => h) (by rfl) ?_ ?_ ?_; rotate_left 2; (intro w'; go_simp; with_reducible rfl); (first | (simp only [Act.put, List.setIfInBounds_toArray, List.set_cons_zero, List.set_cons_succ, i64_w, i32_w]; rfl) | rfl))
            refine run_nil ?_
            refine done_ (done_of HT_.out (by kernel_rfl)) ?_
            have LSs := Aside0.mk (Nat.lt_of_lt_of_le (blk_lt BKs.out) HBd.out.size)
            replace BKs := Aside0.mk (blk_below BKs.out H57.out)
            replace BKr := Aside0.mk (blk_below BKr.out H57.out)
            replace HB := Aside0.mk (below_step HB.out H57.out)
            have LSr := Aside0.mk (blk_lt BKr.out)
            go_wp2_with ((with_reducible refine gate_dst (N := 11) rfl ?_); refine bxE 11 #[.int .i64 0, .slice none 0 0] 28 rfl ?_; intro go hg w8 hbox hb; have BKo := Aside0.mk hbox; have EGo := Aside0.mk hg; have HB8 := Aside0.mk hb; have hq0 := cz BKo 0; have hq1 := cz BKo 1; have hq2 := fz BKo 0; have hq3 := fz BKo 1; clear hg hbox hb)
            clear hq0 hq1 hq2 hq3
            obtain ⟨Wl, hWl⟩ : ∃ W_, W_ = ((w8.setCell ⟨go, 0, none⟩ (.int .i64 n)).setCell ⟨go, 1, none⟩ (.slice none 0 0)) := ⟨_, rfl⟩
            have HB7l := Aside0.mk (show Below w7.heap.size w7 Wl from by rw [hWl]; exact below_set (below_set HB8.out (Nat.le_of_eq EGo.out.symm)) (Nat.le_of_eq EGo.out.symm))
            have SZ := Aside0.mk (show Wl.heap.size = w8.heap.size from by rw [hWl]; simp)
            have BKo1 := Aside0.mk (show Wl.heap[go]? = some (.cells #[.int .i64 n, .slice none 0 0] 28 (0, 0)) from by rw [hWl]; exact blk_set (blk_set BKo.out 0 _) 1 _)
            replace BKs := Aside0.mk (blk_below BKs.out HB7l.out)
            replace BKr := Aside0.mk (blk_below BKr.out HB7l.out)
            have LIE := Aside0.mk (⟨GEs.out, blk_lt BKs.out, by have := below_size HB.out; have := EGo.out; omega, by rw [SZ.out]; exact blk_lt BKo.out, by intro h_; have h2_ := BKs.out; rw [h_, BKo1.out] at h2_; injection h2_ with h2_; injection h2_ with h2_ h3_; exact absurd h3_ (by decide)⟩ : impl_MakePuzzle.Lie w Wl gs go)
            have NRs := Aside0.mk (show gr ≠ gs ∧ gr ≠ go from ⟨by intro h_; have h2_ := BKr.out; rw [h_, BKs.out] at h2_; injection h2_ with h2_; injection h2_ with h2_ h3_; exact absurd h3_ (by decide), by have := LSr.out; have := EGo.out; omega⟩)
            have HTAB := Aside0.mk (Kd.R_below (Kd.R_mono (ok' := fun k_ => k_ ≠ gs ∧ k_ ≠ go) (Kd.R_bound HOt.out) (fun k_ hk => ⟨by have := hk.2.1; have := LSs.out; omega, by have := hk.2.2.1; have := EGo.out; omega⟩)) HB7l.out)
            have HST1 := Aside0.mk (⟨BKs.out, BKo1.out, Kd.R_nil _ _ _ _ _, fun _ _ _ _ => rfl, Nat.le_refl _, below_step HB.out HB7l.out⟩ : impl_MakePuzzle.MSt w Wl gs go n (fun _ => True) Wl z (.slice none 0 0) [])
            rw [← hWl]
            clear hWl
            go_loopg [42] k (fun kq v42 W => ∃ (i z1 : Int) (xs : List S70) (v : Value), v42 = .int .i64 i ∧ Aside0 (impl_MakePuzzle.l0 kq n t m i z1 xs = some (r1, r2, r3)) ∧ Aside0 (kq ≤ k) ∧ Aside0 (impl_MakePuzzle.MSt w Wl gs go n (fun _ => True) W z1 v xs))
            case atStart => exact ⟨0, z, [], _, rfl, HL, ⟨Nat.le_refl _⟩, HST1⟩
            case round =>
              obtain ⟨i, z1, xs, v, rfl, HA, HK1, HST⟩ := hrel
              obtain ⟨Av, cv, rfl⟩ := Kd.R_slice HST.out.row
              cases gk with
              | zero => exact absurd HA.out (by simp [impl_MakePuzzle.l0])
              | succ k1 =>
                have H := HA.out
                clear HA HST1 HL
                simp only [impl_MakePuzzle.l0] at H
                by_cases ci : i < m
                · rw [if_pos ci] at H
                  have cib : decide (i < m) = true := decide_eq_true ci
                  clear ci
                  have cn0 : (n == 0) = false := beq_eq_false_iff_ne.mpr (by omega)
                  have cn1 : (wrap64 (n - 1) == 0) = false := beq_eq_false_iff_ne.mpr (by rw [wrap_id (by omega) (by omega)]; omega)
                  by_cases ck : Int.tmod (nxtI z1) 6 = 0 ∨ Int.tmod (nxtI z1) 6 = 1
                  · rw [if_pos ck] at H
                    rw [show wrap64 (n - 1) = n - 1 from wrap_id (by omega) (by omega)] at H
                    replace H := Option.bind_eq_some_iff.mp H
                    obtain ⟨hb_, hh, H⟩ := H
                    replace H := Option.bind_eq_some_iff.mp H
                    obtain ⟨q, hq, H⟩ := H
                    by_cases lx : xs.length < 5864062014805
                    · rw [if_pos lx] at H
                      have LX := Aside0.mk lx
                      have HH := Aside0.mk hh
                      have HQ := Aside0.mk hq
                      have HN := Aside0.mk H
                      clear lx hh hq H
                      by_cases c0_ : Int.tmod (nxtI z1) 6 = 0
                      · have ck0 : (Int.tmod (nxtI z1) 6 == 0) = true := beq_iff_eq.mpr c0_
                        clear ck c0_
                        go_wp2_with (first
                          | (go_at_call 62; refine (impl_MakePuzzle.nxt (z := z1) (ok := fun _ => True) HST.out LIE.out).mono ?_; rintro e w91 ⟨rfl, hs, hk⟩; have HST0 := Aside0.mk hs; clear HST hs hk; have HST := HST0; clear HST0)
                          | ((with_reducible refine gate_dst (N := 12) rfl ?_); refine bxE 12 #[.int .i64 0, .int .i64 0, .int .i64 0] 70 rfl ?_; intro gc hg w10 hbox hb; have GEc := Aside0.mk (show Wl.heap.size ≤ gc by rw [hg]; simpa using HST.out.size); have BKc := Aside0.mk hbox; have HST0 := Aside0.mk (impl_MakePuzzle.MSt.box HST.out LIE.out hg hb); clear HST; have HST := HST0; clear HST0 hg hbox hb; have hcz0 := cz BKc 0; have hcz1 := cz BKc 1; have hcz2 := cz BKc 2; have hfz0 := fz BKc 0; have hfz1 := fz BKc 1; have hfz2 := fz BKc 2; have hn1 := LIE.out.ne; have hn2 := Ne.symm LIE.out.ne; have hn3 : gc ≠ gs := (by have := GEc.out; have := LIE.out.s1; omega); have hn4 := Ne.symm hn3; have hn5 : gc ≠ go := (by have := GEc.out; have := LIE.out.o1; omega); have hn6 := Ne.symm hn5; have ho0 : w10.cell? ⟨go, 0, none⟩ = some (.int .i64 n) := (blk_cell HST.out.ou 0).trans rfl; have ho1 : w10.cell? ⟨go, 1, none⟩ = some (.slice Av xs.length cv) := (blk_cell HST.out.ou 1).trans rfl)
                          | (go_at_call 62; refine (impl_MakePuzzle.nxt (w := w) (Wl := Wl) (go := go) (n := n) (ok := fun k_ => k_ ≠ gc) (z := (nxtI z1)) (v := .slice Av xs.length cv) (xs := xs) ?hs LIE.out).mono ?_; (case hs => repeat (first | (with_reducible exact HST.out) | (with_reducible apply impl_MakePuzzle.MSt.far (L := LIE.out) (hg := GEc.out) (hok := fun _ h_ => h_)) | (with_reducible apply impl_MakePuzzle.MSt.seed (L := LIE.out)) | (with_reducible apply impl_MakePuzzle.MSt.drewN (L := LIE.out)))); rintro e w92 ⟨rfl, hs, hk⟩; have HST0 := Aside0.mk hs; have BKc0 := Aside0.mk (show w92.heap[gc]? = some (.cells #[.int .i64 (Int.tmod (nxtI z1) 6), .int .i64 0, .int .i64 0] 70 (0, 0)) from (hk gc hn3).trans (blk_set (blk_set (blk_set BKc.out 0 (.int .i64 (Int.tmod (nxtI z1) 6))) 1 (.int .i64 0)) 2 (.int .i64 0))); clear HST BKc hcz0 hcz1 hcz2 hfz0 hfz1 hfz2 ho0 ho1 hs hk; have HST := HST0; have BKc := BKc0; clear HST0 BKc0; have hcz0 := cz BKc 0; have hcz1 := cz BKc 1; have hcz2 := cz BKc 2; have hfz0 := fz BKc 0; have hfz1 := fz BKc 1; have hfz2 := fz BKc 2; have ho0 : w92.cell? ⟨go, 0, none⟩ = some (.int .i64 n) := (blk_cell HST.out.ou 0).trans rfl; have ho1 : w92.cell? ⟨go, 1, none⟩ = some (.slice Av xs.length cv) := (blk_cell HST.out.ou 1).trans rfl)
                          | (go_at_call 62; generalize hA_ : (Int.tmod (nxtI (nxtI z1)) n) = aa at *; refine (impl_MakePuzzle.nxt (w := w) (Wl := Wl) (go := go) (n := n) (ok := fun k_ => k_ ≠ gc) (z := (nxtI (nxtI z1))) (v := .slice Av xs.length cv) (xs := xs) ?hs LIE.out).mono ?_; (case hs => repeat (first | (with_reducible exact HST.out) | (with_reducible apply impl_MakePuzzle.MSt.far (L := LIE.out) (hg := GEc.out) (hok := fun _ h_ => h_)) | (with_reducible apply impl_MakePuzzle.MSt.seed (L := LIE.out)) | (with_reducible apply impl_MakePuzzle.MSt.drewN (L := LIE.out)))); rintro e w93 ⟨rfl, hs, hk⟩; have HST0 := Aside0.mk hs; have BKc0 := Aside0.mk (show w93.heap[gc]? = some (.cells #[.int .i64 (Int.tmod (nxtI z1) 6), .int .i64 0, .int .i64 0] 70 (0, 0)) from (hk gc hn3).trans (BKc.out)); clear HST BKc hcz0 hcz1 hcz2 hfz0 hfz1 hfz2 ho0 ho1 hs hk; have HST := HST0; have BKc := BKc0; clear HST0 BKc0; have hcz0 := cz BKc 0; have hcz1 := cz BKc 1; have hcz2 := cz BKc 2; have hfz0 := fz BKc 0; have hfz1 := fz BKc 1; have hfz2 := fz BKc 2; have ho0 : w93.cell? ⟨go, 0, none⟩ = some (.int .i64 n) := (blk_cell HST.out.ou 0).trans rfl; have ho1 : w93.cell? ⟨go, 1, none⟩ = some (.slice Av xs.length cv) := (blk_cell HST.out.ou 1).trans rfl)
                          | (go_at_call 64; generalize hB_ : (Int.tmod (wrap64 (wrap64 (Int.tmod (nxtI (nxtI (nxtI z1))) (n - 1) + aa) + 1)) n) = bb at *; refine (impl_table_has.calls At ct t aa bb hb_ _ ?hc ?hl HH.out).mono ?_; (case hc => exact impl_MakePuzzle.MSt.tab (w := w) (Wl := Wl) (gs := gs) (go := go) (n := n) (ok := (fun k_ => k_ ≠ gc)) (z := (nxtI (nxtI (nxtI z1)))) (v := .slice Av xs.length cv) (xs := xs) (by repeat (first | (with_reducible exact HST.out) | (with_reducible apply impl_MakePuzzle.MSt.far (L := LIE.out) (hg := GEc.out) (hok := fun _ h_ => h_)) | (with_reducible apply impl_MakePuzzle.MSt.seed (L := LIE.out)) | (with_reducible apply impl_MakePuzzle.MSt.drewN (L := LIE.out)))) HTAB.out (fun _ h_ => h_)); (case hl => exact (Kd.R_reads' HTAB.out).2.1); rintro e w11 ⟨rfl, ⟨m3_, rfl⟩⟩)
                          | (go_at_call 63; refine (impl_bit.calls (!hb_) q _ HQ.out).mono ?_; rintro e w12 ⟨rfl, ⟨m4_, rfl⟩⟩)
                          | ((with_reducible refine gate_builtin (b := .append) (xs := #[.tmp 98, .tmp 100]) rfl ?_); at_builtin; refine Kd.R_append k70 (w0 := ?w00) Wl.heap.size rfl (.tmp 98) (.tmp 100) 26 70 (.agg #[(.int .i64 0), (.int .i64 0), (.int .i64 0)]) 24 rfl Tryd.underlying26 info70 rfl (by decide) (by omega) (.slice Av xs.length cv) xs (⟨q, (if bb < aa then bb else aa), (if aa < bb then bb else aa)⟩ : S70) [.int .i64 q, .int .i64 (if bb < aa then bb else aa), .int .i64 (if aa < bb then bb else aa)] (fun _ => True) (fun _ => False) rfl (by (try simp only [World.size_setCell, World.heap_drewN]); rfl) ?aP (fun _ hk => hk.elim) ?aF ?aO ?aB ?aS ?aL ?_; (case aP => exact k70_mkM _ _ _ _); (case aF => exact fun _ _ => trivial); (case aO => exact Kd.R_mono (impl_MakePuzzle.MSt.row (w := w) (Wl := Wl) (gs := gs) (go := go) (n := n) (ok := (fun k_ => k_ ≠ gc)) (z := (nxtI (nxtI (nxtI z1)))) (v := .slice Av xs.length cv) (xs := xs) (by repeat (first | (with_reducible exact HST.out) | (with_reducible apply impl_MakePuzzle.MSt.far (L := LIE.out) (hg := GEc.out) (hok := fun _ h_ => h_)) | (with_reducible apply impl_MakePuzzle.MSt.seed (L := LIE.out)) | (with_reducible apply impl_MakePuzzle.MSt.drewN (L := LIE.out))))) (fun _ _ => trivial)); (case aB => exact Below.refl _ _); (case aS => exact impl_MakePuzzle.MSt.size (w := w) (Wl := Wl) (gs := gs) (go := go) (n := n) (ok := (fun k_ => k_ ≠ gc)) (z := (nxtI (nxtI (nxtI z1)))) (v := .slice Av xs.length cv) (xs := xs) (by repeat (first | (with_reducible exact HST.out) | (with_reducible apply impl_MakePuzzle.MSt.far (L := LIE.out) (hg := GEc.out) (hok := fun _ h_ => h_)) | (with_reducible apply impl_MakePuzzle.MSt.seed (L := LIE.out)) | (with_reducible apply impl_MakePuzzle.MSt.drewN (L := LIE.out))))); (case aL => have := LX.out; omega); intro v1 w12 ho hb hg hat; obtain ⟨xs2, hxs2⟩ : ∃ y_ : List S70, y_ = xs ++ [⟨q, (if bb < aa then bb else aa), (if aa < bb then bb else aa)⟩] := ⟨_, rfl⟩; rw [← hxs2] at ho; obtain ⟨A1, c1, rfl⟩ := Kd.R_slice ho; have HXS := Aside0.mk hxs2; have BKo12 := Aside0.mk (show w12.heap[go]? = some (.cells #[.int .i64 n, .slice Av xs.length cv] 28 (0, 0)) from (hb.block go LIE.out.o1).trans (impl_MakePuzzle.MSt.ou (w := w) (Wl := Wl) (gs := gs) (go := go) (n := n) (ok := (fun k_ => k_ ≠ gc)) (z := (nxtI (nxtI (nxtI z1)))) (v := .slice Av xs.length cv) (xs := xs) (by repeat (first | (with_reducible exact HST.out) | (with_reducible apply impl_MakePuzzle.MSt.far (L := LIE.out) (hg := GEc.out) (hok := fun _ h_ => h_)) | (with_reducible apply impl_MakePuzzle.MSt.seed (L := LIE.out)) | (with_reducible apply impl_MakePuzzle.MSt.drewN (L := LIE.out)))))); have HSX := Aside0.mk (impl_MakePuzzle.MSt.add (w := w) (Wl := Wl) (gs := gs) (go := go) (n := n) (ok := (fun k_ => k_ ≠ gc)) (z := (nxtI (nxtI (nxtI z1)))) (v := .slice Av xs.length cv) (xs := xs) (by repeat (first | (with_reducible exact HST.out) | (with_reducible apply impl_MakePuzzle.MSt.far (L := LIE.out) (hg := GEc.out) (hok := fun _ h_ => h_)) | (with_reducible apply impl_MakePuzzle.MSt.seed (L := LIE.out)) | (with_reducible apply impl_MakePuzzle.MSt.drewN (L := LIE.out)))) LIE.out ho hb); clear ho hb hg hat hxs2 hcz0 hcz1 hcz2 hfz0 hfz1 hfz2 ho0 ho1; have hy0 := cz BKo12 0; have hy1 := cz BKo12 1; have hz0 := fz BKo12 0; have hz1 := fz BKo12 1))
                        all_goals
                          go_roundg k1
                          case measure => have := HK1.out; omega
                          case rel => exact ⟨wrap64 (i + 1), (nxtI (nxtI (nxtI z1))), xs2, _, by first | rfl | (simp; done), by rw [HXS.out]; exact HN, ⟨by have := HK1.out; omega⟩, HSX⟩
                      · have ck0 : (Int.tmod (nxtI z1) 6 == 0) = false := beq_eq_false_iff_ne.mpr c0_
                        have ck1 : (Int.tmod (nxtI z1) 6 == 1) = true := beq_iff_eq.mpr (by omega)
                        clear ck c0_
                        go_wp2_with (first
                          | (go_at_call 62; refine (impl_MakePuzzle.nxt (z := z1) (ok := fun _ => True) HST.out LIE.out).mono ?_; rintro e w91 ⟨rfl, hs, hk⟩; have HST0 := Aside0.mk hs; clear HST hs hk; have HST := HST0; clear HST0)
                          | ((with_reducible refine gate_dst (N := 12) rfl ?_); refine bxE 12 #[.int .i64 0, .int .i64 0, .int .i64 0] 70 rfl ?_; intro gc hg w10 hbox hb; have GEc := Aside0.mk (show Wl.heap.size ≤ gc by rw [hg]; simpa using HST.out.size); have BKc := Aside0.mk hbox; have HST0 := Aside0.mk (impl_MakePuzzle.MSt.box HST.out LIE.out hg hb); clear HST; have HST := HST0; clear HST0 hg hbox hb; have hcz0 := cz BKc 0; have hcz1 := cz BKc 1; have hcz2 := cz BKc 2; have hfz0 := fz BKc 0; have hfz1 := fz BKc 1; have hfz2 := fz BKc 2; have hn1 := LIE.out.ne; have hn2 := Ne.symm LIE.out.ne; have hn3 : gc ≠ gs := (by have := GEc.out; have := LIE.out.s1; omega); have hn4 := Ne.symm hn3; have hn5 : gc ≠ go := (by have := GEc.out; have := LIE.out.o1; omega); have hn6 := Ne.symm hn5; have ho0 : w10.cell? ⟨go, 0, none⟩ = some (.int .i64 n) := (blk_cell HST.out.ou 0).trans rfl; have ho1 : w10.cell? ⟨go, 1, none⟩ = some (.slice Av xs.length cv) := (blk_cell HST.out.ou 1).trans rfl)
                          | (go_at_call 62; refine (impl_MakePuzzle.nxt (w := w) (Wl := Wl) (go := go) (n := n) (ok := fun k_ => k_ ≠ gc) (z := (nxtI z1)) (v := .slice Av xs.length cv) (xs := xs) ?hs_1 LIE.out).mono ?_; (case hs_1 => repeat (first | (with_reducible exact HST.out) | (with_reducible apply impl_MakePuzzle.MSt.far (L := LIE.out) (hg := GEc.out) (hok := fun _ h_ => h_)) | (with_reducible apply impl_MakePuzzle.MSt.seed (L := LIE.out)) | (with_reducible apply impl_MakePuzzle.MSt.drewN (L := LIE.out)))); rintro e w92 ⟨rfl, hs, hk⟩; have HST0 := Aside0.mk hs; have BKc0 := Aside0.mk (show w92.heap[gc]? = some (.cells #[.int .i64 (Int.tmod (nxtI z1) 6), .int .i64 0, .int .i64 0] 70 (0, 0)) from (hk gc hn3).trans (blk_set (blk_set (blk_set BKc.out 0 (.int .i64 (Int.tmod (nxtI z1) 6))) 1 (.int .i64 0)) 2 (.int .i64 0))); clear HST BKc hcz0 hcz1 hcz2 hfz0 hfz1 hfz2 ho0 ho1 hs hk; have HST := HST0; have BKc := BKc0; clear HST0 BKc0; have hcz0 := cz BKc 0; have hcz1 := cz BKc 1; have hcz2 := cz BKc 2; have hfz0 := fz BKc 0; have hfz1 := fz BKc 1; have hfz2 := fz BKc 2; have ho0 : w92.cell? ⟨go, 0, none⟩ = some (.int .i64 n) := (blk_cell HST.out.ou 0).trans rfl; have ho1 : w92.cell? ⟨go, 1, none⟩ = some (.slice Av xs.length cv) := (blk_cell HST.out.ou 1).trans rfl)
                          | (go_at_call 62; generalize hA_ : (Int.tmod (nxtI (nxtI z1)) n) = aa at *; refine (impl_MakePuzzle.nxt (w := w) (Wl := Wl) (go := go) (n := n) (ok := fun k_ => k_ ≠ gc) (z := (nxtI (nxtI z1))) (v := .slice Av xs.length cv) (xs := xs) ?hs_1 LIE.out).mono ?_; (case hs_1 => repeat (first | (with_reducible exact HST.out) | (with_reducible apply impl_MakePuzzle.MSt.far (L := LIE.out) (hg := GEc.out) (hok := fun _ h_ => h_)) | (with_reducible apply impl_MakePuzzle.MSt.seed (L := LIE.out)) | (with_reducible apply impl_MakePuzzle.MSt.drewN (L := LIE.out)))); rintro e w93 ⟨rfl, hs, hk⟩; have HST0 := Aside0.mk hs; have BKc0 := Aside0.mk (show w93.heap[gc]? = some (.cells #[.int .i64 (Int.tmod (nxtI z1) 6), .int .i64 0, .int .i64 0] 70 (0, 0)) from (hk gc hn3).trans (BKc.out)); clear HST BKc hcz0 hcz1 hcz2 hfz0 hfz1 hfz2 ho0 ho1 hs hk; have HST := HST0; have BKc := BKc0; clear HST0 BKc0; have hcz0 := cz BKc 0; have hcz1 := cz BKc 1; have hcz2 := cz BKc 2; have hfz0 := fz BKc 0; have hfz1 := fz BKc 1; have hfz2 := fz BKc 2; have ho0 : w93.cell? ⟨go, 0, none⟩ = some (.int .i64 n) := (blk_cell HST.out.ou 0).trans rfl; have ho1 : w93.cell? ⟨go, 1, none⟩ = some (.slice Av xs.length cv) := (blk_cell HST.out.ou 1).trans rfl)
                          | (go_at_call 64; generalize hB_ : (Int.tmod (wrap64 (wrap64 (Int.tmod (nxtI (nxtI (nxtI z1))) (n - 1) + aa) + 1)) n) = bb at *; refine (impl_table_has.calls At ct t aa bb hb_ _ ?hc_1 ?hl_1 HH.out).mono ?_; (case hc_1 => exact impl_MakePuzzle.MSt.tab (w := w) (Wl := Wl) (gs := gs) (go := go) (n := n) (ok := (fun k_ => k_ ≠ gc)) (z := (nxtI (nxtI (nxtI z1)))) (v := .slice Av xs.length cv) (xs := xs) (by repeat (first | (with_reducible exact HST.out) | (with_reducible apply impl_MakePuzzle.MSt.far (L := LIE.out) (hg := GEc.out) (hok := fun _ h_ => h_)) | (with_reducible apply impl_MakePuzzle.MSt.seed (L := LIE.out)) | (with_reducible apply impl_MakePuzzle.MSt.drewN (L := LIE.out)))) HTAB.out (fun _ h_ => h_)); (case hl_1 => exact (Kd.R_reads' HTAB.out).2.1); rintro e w11 ⟨rfl, ⟨m3_, rfl⟩⟩)
                          | (go_at_call 63; refine (impl_bit.calls (!hb_) q _ HQ.out).mono ?_; rintro e w12 ⟨rfl, ⟨m4_, rfl⟩⟩)
                          | ((with_reducible refine gate_builtin (b := .append) (xs := #[.tmp 98, .tmp 100]) rfl ?_); at_builtin; refine Kd.R_append k70 (w0 := ?w00_1) Wl.heap.size rfl (.tmp 98) (.tmp 100) 26 70 (.agg #[(.int .i64 0), (.int .i64 0), (.int .i64 0)]) 24 rfl Tryd.underlying26 info70 rfl (by decide) (by omega) (.slice Av xs.length cv) xs (⟨q, (if bb < aa then bb else aa), (if aa < bb then bb else aa)⟩ : S70) [.int .i64 q, .int .i64 (if bb < aa then bb else aa), .int .i64 (if aa < bb then bb else aa)] (fun _ => True) (fun _ => False) rfl (by (try simp only [World.size_setCell, World.heap_drewN]); rfl) ?aP_1 (fun _ hk => hk.elim) ?aF_1 ?aO_1 ?aB_1 ?aS_1 ?aL_1 ?_; (case aP_1 => exact k70_mkM _ _ _ _); (case aF_1 => exact fun _ _ => trivial); (case aO_1 => exact Kd.R_mono (impl_MakePuzzle.MSt.row (w := w) (Wl := Wl) (gs := gs) (go := go) (n := n) (ok := (fun k_ => k_ ≠ gc)) (z := (nxtI (nxtI (nxtI z1)))) (v := .slice Av xs.length cv) (xs := xs) (by repeat (first | (with_reducible exact HST.out) | (with_reducible apply impl_MakePuzzle.MSt.far (L := LIE.out) (hg := GEc.out) (hok := fun _ h_ => h_)) | (with_reducible apply impl_MakePuzzle.MSt.seed (L := LIE.out)) | (with_reducible apply impl_MakePuzzle.MSt.drewN (L := LIE.out))))) (fun _ _ => trivial)); (case aB_1 => exact Below.refl _ _); (case aS_1 => exact impl_MakePuzzle.MSt.size (w := w) (Wl := Wl) (gs := gs) (go := go) (n := n) (ok := (fun k_ => k_ ≠ gc)) (z := (nxtI (nxtI (nxtI z1)))) (v := .slice Av xs.length cv) (xs := xs) (by repeat (first | (with_reducible exact HST.out) | (with_reducible apply impl_MakePuzzle.MSt.far (L := LIE.out) (hg := GEc.out) (hok := fun _ h_ => h_)) | (with_reducible apply impl_MakePuzzle.MSt.seed (L := LIE.out)) | (with_reducible apply impl_MakePuzzle.MSt.drewN (L := LIE.out))))); (case aL_1 => have := LX.out; omega); intro v1 w12 ho hb hg hat; obtain ⟨xs2, hxs2⟩ : ∃ y_ : List S70, y_ = xs ++ [⟨q, (if bb < aa then bb else aa), (if aa < bb then bb else aa)⟩] := ⟨_, rfl⟩; rw [← hxs2] at ho; obtain ⟨A1, c1, rfl⟩ := Kd.R_slice ho; have HXS := Aside0.mk hxs2; have BKo12 := Aside0.mk (show w12.heap[go]? = some (.cells #[.int .i64 n, .slice Av xs.length cv] 28 (0, 0)) from (hb.block go LIE.out.o1).trans (impl_MakePuzzle.MSt.ou (w := w) (Wl := Wl) (gs := gs) (go := go) (n := n) (ok := (fun k_ => k_ ≠ gc)) (z := (nxtI (nxtI (nxtI z1)))) (v := .slice Av xs.length cv) (xs := xs) (by repeat (first | (with_reducible exact HST.out) | (with_reducible apply impl_MakePuzzle.MSt.far (L := LIE.out) (hg := GEc.out) (hok := fun _ h_ => h_)) | (with_reducible apply impl_MakePuzzle.MSt.seed (L := LIE.out)) | (with_reducible apply impl_MakePuzzle.MSt.drewN (L := LIE.out)))))); have HSX := Aside0.mk (impl_MakePuzzle.MSt.add (w := w) (Wl := Wl) (gs := gs) (go := go) (n := n) (ok := (fun k_ => k_ ≠ gc)) (z := (nxtI (nxtI (nxtI z1)))) (v := .slice Av xs.length cv) (xs := xs) (by repeat (first | (with_reducible exact HST.out) | (with_reducible apply impl_MakePuzzle.MSt.far (L := LIE.out) (hg := GEc.out) (hok := fun _ h_ => h_)) | (with_reducible apply impl_MakePuzzle.MSt.seed (L := LIE.out)) | (with_reducible apply impl_MakePuzzle.MSt.drewN (L := LIE.out)))) LIE.out ho hb); clear ho hb hg hat hxs2 hcz0 hcz1 hcz2 hfz0 hfz1 hfz2 ho0 ho1; have hy0 := cz BKo12 0; have hy1 := cz BKo12 1; have hz0 := fz BKo12 0; have hz1 := fz BKo12 1))
                        all_goals
                          go_roundg k1
                          case measure => have := HK1.out; omega
                          case rel => exact ⟨wrap64 (i + 1), (nxtI (nxtI (nxtI z1))), xs2, _, by first | rfl | (simp; done), by rw [HXS.out]; exact HN, ⟨by have := HK1.out; omega⟩, HSX⟩
                    · rw [if_neg lx] at H; cases H
                  · rw [if_neg ck] at H
                    have ck0 : (Int.tmod (nxtI z1) 6 == 0) = false := beq_eq_false_iff_ne.mpr (fun h => ck (.inl h))
                    have ck1 : (Int.tmod (nxtI z1) 6 == 1) = false := beq_eq_false_iff_ne.mpr (fun h => ck (.inr h))
                    clear ck
                    by_cases c2_ : Int.tmod (nxtI z1) 6 = 2
                    · rw [if_pos c2_] at H
                      have ck2 : (Int.tmod (nxtI z1) 6 == 2) = true := beq_iff_eq.mpr c2_
                      have C2 := Aside0.mk c2_
                      clear c2_
                      replace H := Option.bind_eq_some_iff.mp H
                      obtain ⟨q, hq, H⟩ := H
                      by_cases lx : xs.length < 5864062014805
                      · rw [if_pos lx] at H
                        have LX := Aside0.mk lx
                        have HQ := Aside0.mk hq
                        have HN := Aside0.mk H
                        clear lx hq H
                        go_wp2_with (first
                          | (go_at_call 62; refine (impl_MakePuzzle.nxt (z := z1) (ok := fun _ => True) HST.out LIE.out).mono ?_; rintro e w91 ⟨rfl, hs, hk⟩; have HST0 := Aside0.mk hs; clear HST hs hk; have HST := HST0; clear HST0)
                          | ((with_reducible refine gate_dst (N := 12) rfl ?_); refine bxE 12 #[.int .i64 0, .int .i64 0, .int .i64 0] 70 rfl ?_; intro gc hg w10 hbox hb; have GEc := Aside0.mk (show Wl.heap.size ≤ gc by rw [hg]; simpa using HST.out.size); have BKc := Aside0.mk hbox; have HST0 := Aside0.mk (impl_MakePuzzle.MSt.box HST.out LIE.out hg hb); clear HST; have HST := HST0; clear HST0 hg hbox hb; have hcz0 := cz BKc 0; have hcz1 := cz BKc 1; have hcz2 := cz BKc 2; have hfz0 := fz BKc 0; have hfz1 := fz BKc 1; have hfz2 := fz BKc 2; have hn1 := LIE.out.ne; have hn2 := Ne.symm LIE.out.ne; have hn3 : gc ≠ gs := (by have := GEc.out; have := LIE.out.s1; omega); have hn4 := Ne.symm hn3; have hn5 : gc ≠ go := (by have := GEc.out; have := LIE.out.o1; omega); have hn6 := Ne.symm hn5; have ho0 : w10.cell? ⟨go, 0, none⟩ = some (.int .i64 n) := (blk_cell HST.out.ou 0).trans rfl; have ho1 : w10.cell? ⟨go, 1, none⟩ = some (.slice Av xs.length cv) := (blk_cell HST.out.ou 1).trans rfl)
                          | (go_at_call 62; refine (impl_MakePuzzle.nxt (w := w) (Wl := Wl) (go := go) (n := n) (ok := fun k_ => k_ ≠ gc) (z := (nxtI z1)) (v := .slice Av xs.length cv) (xs := xs) ?hs_2 LIE.out).mono ?_; (case hs_2 => repeat (first | (with_reducible exact HST.out) | (with_reducible apply impl_MakePuzzle.MSt.far (L := LIE.out) (hg := GEc.out) (hok := fun _ h_ => h_)) | (with_reducible apply impl_MakePuzzle.MSt.seed (L := LIE.out)) | (with_reducible apply impl_MakePuzzle.MSt.drewN (L := LIE.out)))); rintro e w92 ⟨rfl, hs, hk⟩; have HST0 := Aside0.mk hs; have BKc0 := Aside0.mk (show w92.heap[gc]? = some (.cells #[.int .i64 (Int.tmod (nxtI z1) 6), .int .i64 0, .int .i64 0] 70 (0, 0)) from (hk gc hn3).trans (blk_set (blk_set (blk_set BKc.out 0 (.int .i64 (Int.tmod (nxtI z1) 6))) 1 (.int .i64 0)) 2 (.int .i64 0))); clear HST BKc hcz0 hcz1 hcz2 hfz0 hfz1 hfz2 ho0 ho1 hs hk; have HST := HST0; have BKc := BKc0; clear HST0 BKc0; have hcz0 := cz BKc 0; have hcz1 := cz BKc 1; have hcz2 := cz BKc 2; have hfz0 := fz BKc 0; have hfz1 := fz BKc 1; have hfz2 := fz BKc 2; have ho0 : w92.cell? ⟨go, 0, none⟩ = some (.int .i64 n) := (blk_cell HST.out.ou 0).trans rfl; have ho1 : w92.cell? ⟨go, 1, none⟩ = some (.slice Av xs.length cv) := (blk_cell HST.out.ou 1).trans rfl)
                          | (go_at_call 65; refine (impl_toldOf.calls k1 2 (Int.tmod (nxtI (nxtI z1)) n) At ct t q _ ?hc_2 ?hl_2 HQ.out ?hg_2).mono ?_; (case hc_2 => exact impl_MakePuzzle.MSt.tab (w := w) (Wl := Wl) (gs := gs) (go := go) (n := n) (ok := (fun k_ => k_ ≠ gc)) (z := (nxtI (nxtI z1))) (v := .slice Av xs.length cv) (xs := xs) (by repeat (first | (with_reducible exact HST.out) | (with_reducible apply impl_MakePuzzle.MSt.far (L := LIE.out) (hg := GEc.out) (hok := fun _ h_ => h_)) | (with_reducible apply impl_MakePuzzle.MSt.seed (L := LIE.out)) | (with_reducible apply impl_MakePuzzle.MSt.drewN (L := LIE.out)))) HTAB.out (fun _ h_ => h_)); (case hl_2 => exact (Kd.R_reads' HTAB.out).2.1); (case hg_2 => exact GTab.up HG.out (impl_MakePuzzle.MSt.below (w := w) (Wl := Wl) (gs := gs) (go := go) (n := n) (ok := (fun k_ => k_ ≠ gc)) (z := (nxtI (nxtI z1))) (v := .slice Av xs.length cv) (xs := xs) (by repeat (first | (with_reducible exact HST.out) | (with_reducible apply impl_MakePuzzle.MSt.far (L := LIE.out) (hg := GEc.out) (hok := fun _ h_ => h_)) | (with_reducible apply impl_MakePuzzle.MSt.seed (L := LIE.out)) | (with_reducible apply impl_MakePuzzle.MSt.drewN (L := LIE.out)))))); rintro e w11 ⟨rfl, hb⟩; have HST0 := Aside0.mk (impl_MakePuzzle.MSt.later (w := w) (Wl := Wl) (gs := gs) (go := go) (n := n) (ok := (fun k_ => k_ ≠ gc)) (z := (nxtI (nxtI z1))) (v := .slice Av xs.length cv) (xs := xs) (by repeat (first | (with_reducible exact HST.out) | (with_reducible apply impl_MakePuzzle.MSt.far (L := LIE.out) (hg := GEc.out) (hok := fun _ h_ => h_)) | (with_reducible apply impl_MakePuzzle.MSt.seed (L := LIE.out)) | (with_reducible apply impl_MakePuzzle.MSt.drewN (L := LIE.out)))) LIE.out hb); have BKc0 := Aside0.mk (show w11.heap[gc]? = some (.cells #[.int .i64 (Int.tmod (nxtI z1) 6), .int .i64 (Int.tmod (nxtI (nxtI z1)) n), .int .i64 0] 70 (0, 0)) from blk_below (blk_set BKc.out 1 (.int .i64 (Int.tmod (nxtI (nxtI z1)) n))) hb); clear HST BKc hcz0 hcz1 hcz2 hfz0 hfz1 hfz2 ho0 ho1 hb; have HST := HST0; have BKc := BKc0; clear HST0 BKc0; have hcz0 := cz BKc 0; have hcz1 := cz BKc 1; have hcz2 := cz BKc 2; have hfz0 := fz BKc 0; have hfz1 := fz BKc 1; have hfz2 := fz BKc 2; have ho0 : w11.cell? ⟨go, 0, none⟩ = some (.int .i64 n) := (blk_cell HST.out.ou 0).trans rfl; have ho1 : w11.cell? ⟨go, 1, none⟩ = some (.slice Av xs.length cv) := (blk_cell HST.out.ou 1).trans rfl)
                          | ((with_reducible refine gate_builtin (b := .append) (xs := #[.tmp 98, .tmp 100]) rfl ?_); at_builtin; refine Kd.R_append k70 (w0 := ?w00_2) Wl.heap.size rfl (.tmp 98) (.tmp 100) 26 70 (.agg #[(.int .i64 0), (.int .i64 0), (.int .i64 0)]) 24 rfl Tryd.underlying26 info70 rfl (by decide) (by omega) (.slice Av xs.length cv) xs (⟨(Int.tmod (nxtI z1) 6), (Int.tmod (nxtI (nxtI z1)) n), q⟩ : S70) [.int .i64 (Int.tmod (nxtI z1) 6), .int .i64 (Int.tmod (nxtI (nxtI z1)) n), .int .i64 q] (fun _ => True) (fun _ => False) rfl (by (try simp only [World.size_setCell, World.heap_drewN]); rfl) ?aP_2 (fun _ hk => hk.elim) ?aF_2 ?aO_2 ?aB_2 ?aS_2 ?aL_2 ?_; (case aP_2 => exact k70_mkM _ _ _ _); (case aF_2 => exact fun _ _ => trivial); (case aO_2 => exact Kd.R_mono (impl_MakePuzzle.MSt.row (w := w) (Wl := Wl) (gs := gs) (go := go) (n := n) (ok := (fun k_ => k_ ≠ gc)) (z := (nxtI (nxtI z1))) (v := .slice Av xs.length cv) (xs := xs) (by repeat (first | (with_reducible exact HST.out) | (with_reducible apply impl_MakePuzzle.MSt.far (L := LIE.out) (hg := GEc.out) (hok := fun _ h_ => h_)) | (with_reducible apply impl_MakePuzzle.MSt.seed (L := LIE.out)) | (with_reducible apply impl_MakePuzzle.MSt.drewN (L := LIE.out))))) (fun _ _ => trivial)); (case aB_2 => exact Below.refl _ _); (case aS_2 => exact impl_MakePuzzle.MSt.size (w := w) (Wl := Wl) (gs := gs) (go := go) (n := n) (ok := (fun k_ => k_ ≠ gc)) (z := (nxtI (nxtI z1))) (v := .slice Av xs.length cv) (xs := xs) (by repeat (first | (with_reducible exact HST.out) | (with_reducible apply impl_MakePuzzle.MSt.far (L := LIE.out) (hg := GEc.out) (hok := fun _ h_ => h_)) | (with_reducible apply impl_MakePuzzle.MSt.seed (L := LIE.out)) | (with_reducible apply impl_MakePuzzle.MSt.drewN (L := LIE.out))))); (case aL_2 => have := LX.out; omega); intro v1 w12 ho hb hg hat; obtain ⟨xs2, hxs2⟩ : ∃ y_ : List S70, y_ = xs ++ [⟨(Int.tmod (nxtI z1) 6), (Int.tmod (nxtI (nxtI z1)) n), q⟩] := ⟨_, rfl⟩; rw [← hxs2] at ho; obtain ⟨A1, c1, rfl⟩ := Kd.R_slice ho; have HXS := Aside0.mk hxs2; have BKo12 := Aside0.mk (show w12.heap[go]? = some (.cells #[.int .i64 n, .slice Av xs.length cv] 28 (0, 0)) from (hb.block go LIE.out.o1).trans (impl_MakePuzzle.MSt.ou (w := w) (Wl := Wl) (gs := gs) (go := go) (n := n) (ok := (fun k_ => k_ ≠ gc)) (z := (nxtI (nxtI z1))) (v := .slice Av xs.length cv) (xs := xs) (by repeat (first | (with_reducible exact HST.out) | (with_reducible apply impl_MakePuzzle.MSt.far (L := LIE.out) (hg := GEc.out) (hok := fun _ h_ => h_)) | (with_reducible apply impl_MakePuzzle.MSt.seed (L := LIE.out)) | (with_reducible apply impl_MakePuzzle.MSt.drewN (L := LIE.out)))))); have HSX := Aside0.mk (impl_MakePuzzle.MSt.add (w := w) (Wl := Wl) (gs := gs) (go := go) (n := n) (ok := (fun k_ => k_ ≠ gc)) (z := (nxtI (nxtI z1))) (v := .slice Av xs.length cv) (xs := xs) (by repeat (first | (with_reducible exact HST.out) | (with_reducible apply impl_MakePuzzle.MSt.far (L := LIE.out) (hg := GEc.out) (hok := fun _ h_ => h_)) | (with_reducible apply impl_MakePuzzle.MSt.seed (L := LIE.out)) | (with_reducible apply impl_MakePuzzle.MSt.drewN (L := LIE.out)))) LIE.out ho hb); clear ho hb hg hat hxs2 hcz0 hcz1 hcz2 hfz0 hfz1 hfz2 ho0 ho1; have hy0 := cz BKo12 0; have hy1 := cz BKo12 1; have hz0 := fz BKo12 0; have hz1 := fz BKo12 1))
                        all_goals
                          go_roundg k1
                          case measure => have := HK1.out; omega
                          case rel => exact ⟨wrap64 (i + 1), (nxtI (nxtI z1)), xs2, _, by first | rfl | (simp; done), by rw [HXS.out, C2.out]; exact HN, ⟨by have := HK1.out; omega⟩, HSX⟩
                      · rw [if_neg lx] at H; cases H
                    · rw [if_neg c2_] at H
                      have ck2 : (Int.tmod (nxtI z1) 6 == 2) = false := beq_eq_false_iff_ne.mpr c2_
                      clear c2_
                      replace H := Option.bind_eq_some_iff.mp H
                      obtain ⟨q, hq, H⟩ := H
                      by_cases lx : xs.length < 5864062014805
                      · rw [if_pos lx] at H
                        have LX := Aside0.mk lx
                        have HQ := Aside0.mk hq
                        have HN := Aside0.mk H
                        clear lx hq H
                        go_wp2_with (first
                          | (go_at_call 62; refine (impl_MakePuzzle.nxt (z := z1) (ok := fun _ => True) HST.out LIE.out).mono ?_; rintro e w91 ⟨rfl, hs, hk⟩; have HST0 := Aside0.mk hs; clear HST hs hk; have HST := HST0; clear HST0)
                          | ((with_reducible refine gate_dst (N := 12) rfl ?_); refine bxE 12 #[.int .i64 0, .int .i64 0, .int .i64 0] 70 rfl ?_; intro gc hg w10 hbox hb; have GEc := Aside0.mk (show Wl.heap.size ≤ gc by rw [hg]; simpa using HST.out.size); have BKc := Aside0.mk hbox; have HST0 := Aside0.mk (impl_MakePuzzle.MSt.box HST.out LIE.out hg hb); clear HST; have HST := HST0; clear HST0 hg hbox hb; have hcz0 := cz BKc 0; have hcz1 := cz BKc 1; have hcz2 := cz BKc 2; have hfz0 := fz BKc 0; have hfz1 := fz BKc 1; have hfz2 := fz BKc 2; have hn1 := LIE.out.ne; have hn2 := Ne.symm LIE.out.ne; have hn3 : gc ≠ gs := (by have := GEc.out; have := LIE.out.s1; omega); have hn4 := Ne.symm hn3; have hn5 : gc ≠ go := (by have := GEc.out; have := LIE.out.o1; omega); have hn6 := Ne.symm hn5; have ho0 : w10.cell? ⟨go, 0, none⟩ = some (.int .i64 n) := (blk_cell HST.out.ou 0).trans rfl; have ho1 : w10.cell? ⟨go, 1, none⟩ = some (.slice Av xs.length cv) := (blk_cell HST.out.ou 1).trans rfl)
                          | (go_at_call 65; refine (impl_toldOf.calls k1 (Int.tmod (nxtI z1) 6) 0 At ct t q _ ?hc_3 ?hl_3 HQ.out ?hg_3).mono ?_; (case hc_3 => exact impl_MakePuzzle.MSt.tab (w := w) (Wl := Wl) (gs := gs) (go := go) (n := n) (ok := (fun k_ => k_ ≠ gc)) (z := (nxtI z1)) (v := .slice Av xs.length cv) (xs := xs) (by repeat (first | (with_reducible exact HST.out) | (with_reducible apply impl_MakePuzzle.MSt.far (L := LIE.out) (hg := GEc.out) (hok := fun _ h_ => h_)) | (with_reducible apply impl_MakePuzzle.MSt.seed (L := LIE.out)) | (with_reducible apply impl_MakePuzzle.MSt.drewN (L := LIE.out)))) HTAB.out (fun _ h_ => h_)); (case hl_3 => exact (Kd.R_reads' HTAB.out).2.1); (case hg_3 => exact GTab.up HG.out (impl_MakePuzzle.MSt.below (w := w) (Wl := Wl) (gs := gs) (go := go) (n := n) (ok := (fun k_ => k_ ≠ gc)) (z := (nxtI z1)) (v := .slice Av xs.length cv) (xs := xs) (by repeat (first | (with_reducible exact HST.out) | (with_reducible apply impl_MakePuzzle.MSt.far (L := LIE.out) (hg := GEc.out) (hok := fun _ h_ => h_)) | (with_reducible apply impl_MakePuzzle.MSt.seed (L := LIE.out)) | (with_reducible apply impl_MakePuzzle.MSt.drewN (L := LIE.out)))))); rintro e w11 ⟨rfl, hb⟩; have HST0 := Aside0.mk (impl_MakePuzzle.MSt.later (w := w) (Wl := Wl) (gs := gs) (go := go) (n := n) (ok := (fun k_ => k_ ≠ gc)) (z := (nxtI z1)) (v := .slice Av xs.length cv) (xs := xs) (by repeat (first | (with_reducible exact HST.out) | (with_reducible apply impl_MakePuzzle.MSt.far (L := LIE.out) (hg := GEc.out) (hok := fun _ h_ => h_)) | (with_reducible apply impl_MakePuzzle.MSt.seed (L := LIE.out)) | (with_reducible apply impl_MakePuzzle.MSt.drewN (L := LIE.out)))) LIE.out hb); have BKc0 := Aside0.mk (show w11.heap[gc]? = some (.cells #[.int .i64 (Int.tmod (nxtI z1) 6), .int .i64 0, .int .i64 0] 70 (0, 0)) from blk_below (blk_set (blk_set (blk_set BKc.out 0 (.int .i64 (Int.tmod (nxtI z1) 6))) 1 (.int .i64 0)) 2 (.int .i64 0)) hb); clear HST BKc hcz0 hcz1 hcz2 hfz0 hfz1 hfz2 ho0 ho1 hb; have HST := HST0; have BKc := BKc0; clear HST0 BKc0; have hcz0 := cz BKc 0; have hcz1 := cz BKc 1; have hcz2 := cz BKc 2; have hfz0 := fz BKc 0; have hfz1 := fz BKc 1; have hfz2 := fz BKc 2; have ho0 : w11.cell? ⟨go, 0, none⟩ = some (.int .i64 n) := (blk_cell HST.out.ou 0).trans rfl; have ho1 : w11.cell? ⟨go, 1, none⟩ = some (.slice Av xs.length cv) := (blk_cell HST.out.ou 1).trans rfl)
                          | ((with_reducible refine gate_builtin (b := .append) (xs := #[.tmp 98, .tmp 100]) rfl ?_); at_builtin; refine Kd.R_append k70 (w0 := ?w00_3) Wl.heap.size rfl (.tmp 98) (.tmp 100) 26 70 (.agg #[(.int .i64 0), (.int .i64 0), (.int .i64 0)]) 24 rfl Tryd.underlying26 info70 rfl (by decide) (by omega) (.slice Av xs.length cv) xs (⟨(Int.tmod (nxtI z1) 6), q, 0⟩ : S70) [.int .i64 (Int.tmod (nxtI z1) 6), .int .i64 q, .int .i64 0] (fun _ => True) (fun _ => False) rfl (by (try simp only [World.size_setCell, World.heap_drewN]); rfl) ?aP_3 (fun _ hk => hk.elim) ?aF_3 ?aO_3 ?aB_3 ?aS_3 ?aL_3 ?_; (case aP_3 => exact k70_mkM _ _ _ _); (case aF_3 => exact fun _ _ => trivial); (case aO_3 => exact Kd.R_mono (impl_MakePuzzle.MSt.row (w := w) (Wl := Wl) (gs := gs) (go := go) (n := n) (ok := (fun k_ => k_ ≠ gc)) (z := (nxtI z1)) (v := .slice Av xs.length cv) (xs := xs) (by repeat (first | (with_reducible exact HST.out) | (with_reducible apply impl_MakePuzzle.MSt.far (L := LIE.out) (hg := GEc.out) (hok := fun _ h_ => h_)) | (with_reducible apply impl_MakePuzzle.MSt.seed (L := LIE.out)) | (with_reducible apply impl_MakePuzzle.MSt.drewN (L := LIE.out))))) (fun _ _ => trivial)); (case aB_3 => exact Below.refl _ _); (case aS_3 => exact impl_MakePuzzle.MSt.size (w := w) (Wl := Wl) (gs := gs) (go := go) (n := n) (ok := (fun k_ => k_ ≠ gc)) (z := (nxtI z1)) (v := .slice Av xs.length cv) (xs := xs) (by repeat (first | (with_reducible exact HST.out) | (with_reducible apply impl_MakePuzzle.MSt.far (L := LIE.out) (hg := GEc.out) (hok := fun _ h_ => h_)) | (with_reducible apply impl_MakePuzzle.MSt.seed (L := LIE.out)) | (with_reducible apply impl_MakePuzzle.MSt.drewN (L := LIE.out))))); (case aL_3 => have := LX.out; omega); intro v1 w12 ho hb hg hat; obtain ⟨xs2, hxs2⟩ : ∃ y_ : List S70, y_ = xs ++ [⟨(Int.tmod (nxtI z1) 6), q, 0⟩] := ⟨_, rfl⟩; rw [← hxs2] at ho; obtain ⟨A1, c1, rfl⟩ := Kd.R_slice ho; have HXS := Aside0.mk hxs2; have BKo12 := Aside0.mk (show w12.heap[go]? = some (.cells #[.int .i64 n, .slice Av xs.length cv] 28 (0, 0)) from (hb.block go LIE.out.o1).trans (impl_MakePuzzle.MSt.ou (w := w) (Wl := Wl) (gs := gs) (go := go) (n := n) (ok := (fun k_ => k_ ≠ gc)) (z := (nxtI z1)) (v := .slice Av xs.length cv) (xs := xs) (by repeat (first | (with_reducible exact HST.out) | (with_reducible apply impl_MakePuzzle.MSt.far (L := LIE.out) (hg := GEc.out) (hok := fun _ h_ => h_)) | (with_reducible apply impl_MakePuzzle.MSt.seed (L := LIE.out)) | (with_reducible apply impl_MakePuzzle.MSt.drewN (L := LIE.out)))))); have HSX := Aside0.mk (impl_MakePuzzle.MSt.add (w := w) (Wl := Wl) (gs := gs) (go := go) (n := n) (ok := (fun k_ => k_ ≠ gc)) (z := (nxtI z1)) (v := .slice Av xs.length cv) (xs := xs) (by repeat (first | (with_reducible exact HST.out) | (with_reducible apply impl_MakePuzzle.MSt.far (L := LIE.out) (hg := GEc.out) (hok := fun _ h_ => h_)) | (with_reducible apply impl_MakePuzzle.MSt.seed (L := LIE.out)) | (with_reducible apply impl_MakePuzzle.MSt.drewN (L := LIE.out)))) LIE.out ho hb); clear ho hb hg hat hxs2 hcz0 hcz1 hcz2 hfz0 hfz1 hfz2 ho0 ho1; have hy0 := cz BKo12 0; have hy1 := cz BKo12 1; have hz0 := fz BKo12 0; have hz1 := fz BKo12 1))
                        all_goals
                          go_roundg k1
                          case measure => have := HK1.out; omega
                          case rel => exact ⟨wrap64 (i + 1), (nxtI z1), xs2, _, by first | rfl | (simp; done), by rw [HXS.out]; exact HN, ⟨by have := HK1.out; omega⟩, HSX⟩
                      · rw [if_neg lx] at H; cases H
                · rw [if_neg ci] at H
                  have cib : decide (i < m) = false := decide_eq_false ci
                  clear ci
                  obtain ⟨rfl, rfl, rfl⟩ : n = r1 ∧ xs = r2 ∧ true = r3 := by simpa using H
                  have BKrW := Aside0.mk ((HST.out.keep gr (blk_lt BKr.out) NRs.out.1 NRs.out.2).trans BKr.out)
                  have hr0 := cz BKrW 0
                  have hr1 := cz BKrW 1
                  have hr2 := fz BKrW 0
                  have hr3 := fz BKrW 1
                  have ho0 : wr.cell? ⟨go, 0, none⟩ = some (.int .i64 n) := (blk_cell HST.out.ou 0).trans rfl
                  have ho1 : wr.cell? ⟨go, 1, none⟩ = some (.slice Av xs.length cv) := (blk_cell HST.out.ou 1).trans rfl
                  have LGr := Aside0.mk (blk_lt BKr.out)
                  clear H
                  go_wp2
                  refine bodyPost_ret (results_ct rfl _ _ gr 28 #[.int .i64 n, .slice Av xs.length cv] (0, 0) _ rfl (by (with_reducible repeat (first | refine blk_drewN ?_ _ | refine blk_drew ?_ | refine blk_alloc ?_ _)); refine blk_put (cs := #[.int .i64 n, .slice none 0 0]) ?_ 1 _ rfl; (with_reducible repeat (first | refine blk_drewN ?_ _ | refine blk_drew ?_ | refine blk_alloc ?_ _)); refine blk_put (cs := #[.int .i64 0, .slice none 0 0]) ?_ 0 _ rfl; (with_reducible repeat (first | refine blk_drewN ?_ _ | refine blk_drew ?_ | refine blk_alloc ?_ _)); exact BKrW.out) Tryd.underlying28 rfl (by kernel_rfl)) rfl ?_
                  exact ⟨_, rfl, Kd.R_lower (Kd.R_mono (Kd.R_far (p := ⟨gr, 1, none⟩) (Kd.R_far (p := ⟨gr, 0, none⟩) (Kd.R_mono (ok' := fun k_ => k_ ≠ gr) (Kd.R_bound HST.out.row) (fun k_ hk => by have := hk.2.1; have := LGr.out; omega)) (fun _ h_ => h_) _) (fun _ h_ => h_) _) (fun _ _ => trivial)) (by have := LIE.out.s0; have := LIE.out.s1; omega), (HST.out.below.setCell GEr.out _).setCell GEr.out _⟩
          · rw [if_neg c5] at h; cases h

/-! ### laws_eqClue: function 108 -/
def laws_eqClue.f (a0_0 : Int) (a0_1 : Int) (a0_2 : Int) (a1_0 : Int) (a1_1 : Int) (a1_2 : Int) : Option (Bool) := if a0_0 = a1_0 then (if a0_1 = a1_1 then (if a0_2 = a1_2 then (some true) else (some false)) else (some false)) else (some false)
set_option maxHeartbeats 8000000 in
set_option maxRecDepth 100000 in
theorem laws_eqClue.calls (a0_0 : Int) (a0_1 : Int) (a0_2 : Int) (a1_0 : Int) (a1_1 : Int) (a1_2 : Int) (r : Bool) (w : World) (h : laws_eqClue.f a0_0 a0_1 a0_2 a1_0 a1_1 a1_2 = some r) :
  Calls Tryd.prog 108 #[.agg #[.int .i64 a0_0, .int .i64 a0_1, .int .i64 a0_2], .agg #[.int .i64 a1_0, .int .i64 a1_1, .int .i64 a1_2]] w fun e w' => e = .returned (.bool r) ∧ Below w.heap.size w w' := by
 have hu70 := Tryd.underlying70
 have HB := Aside0.mk (Below.refl w.heap.size w)
 have H : (if a0_0 = a1_0 then (if a0_1 = a1_1 then (if a0_2 = a1_2 then (some true) else (some false)) else (some false)) else (some false)) = some r := h
 clear h
 by_cases c3 : a0_0 = a1_0
 ·rw [if_pos c3] at H
  have c3b0 : (a0_0 == a1_0) = true := beq_iff_eq.mpr c3
  have c3b1 : (a0_0 != a1_0) = false := bne_eq_false_iff_eq.mpr c3
  clear c3
  by_cases c4 : a0_1 = a1_1
  ·rw [if_pos c4] at H
   have c4b0 : (a0_1 == a1_1) = true := beq_iff_eq.mpr c4
   have c4b1 : (a0_1 != a1_1) = false := bne_eq_false_iff_eq.mpr c4
   clear c4
   by_cases c5 : a0_2 = a1_2
   ·rw [if_pos c5] at H
    have c5b0 : (a0_2 == a1_2) = true := beq_iff_eq.mpr c5
    have c5b1 : (a0_2 != a1_2) = false := bne_eq_false_iff_eq.mpr c5
    clear c5
    obtain rfl := Option.some.inj H
    go_enter Tryd.func108, Tryd.ntmps108
    go_wp2_with (first | ((with_reducible refine gate_dst (N := 2) rfl ?_); refine bxE 2 #[.int .i64 a0_0, .int .i64 a0_1, .int .i64 a0_2] 70 rfl ?_; intro gb382 hg w6 hbox hb; have BK382 := Aside0.mk (hbox); have GW382 := gS HB hg; have GE382 := gS HB hg; replace HB := hS HB hb; clear hb hbox hg) | ((with_reducible refine gate_dst (N := 3) rfl ?_); refine bxE 3 #[.int .i64 a1_0, .int .i64 a1_1, .int .i64 a1_2] 70 rfl ?_; intro gb383 hg w7 hbox hb; have BK383 := Aside0.mk (hbox); have GW383 := gS HB hg; have GE383 := gS HB hg; have NB382_383 := nL BK382 hg; have NB383_382 := nG BK382 hg; replace BK382 := bS BK382 hb; replace HB := hS HB hb; clear hb hbox hg; have hnb8 := NB382_383.out; have hnc8 := NB383_382.out; have hcz9_0 := cz BK382 0; have hcz9_1 := cz BK382 1; have hcz9_2 := cz BK382 2; have hfz9_0 := fz BK382 0; have hfz9_1 := fz BK382 1; have hfz9_2 := fz BK382 2; have hcz10_0 := cz BK383 0; have hcz10_1 := cz BK383 1; have hcz10_2 := cz BK383 2; have hfz10_0 := fz BK383 0; have hfz10_1 := fz BK383 1; have hfz10_2 := fz BK383 2))
    go_ret
    exact ⟨by first | rfl | (simp [errW_none, errW_some] <;> rfl) | (simp [*, errW_none, errW_some] <;> rfl), hB⟩
   ·rw [if_neg c5] at H
    have c5b0 : (a0_2 == a1_2) = false := beq_eq_false_iff_ne.mpr c5
    have c5b1 : (a0_2 != a1_2) = true := bne_iff_ne.mpr c5
    obtain rfl := Option.some.inj H
    go_enter Tryd.func108, Tryd.ntmps108
    go_wp2_with (first | ((with_reducible refine gate_dst (N := 2) rfl ?_); refine bxE 2 #[.int .i64 a0_0, .int .i64 a0_1, .int .i64 a0_2] 70 rfl ?_; intro gb382 hg w11 hbox hb; have BK382 := Aside0.mk (hbox); have GW382 := gS HB hg; have GE382 := gS HB hg; replace HB := hS HB hb; clear hb hbox hg) | ((with_reducible refine gate_dst (N := 3) rfl ?_); refine bxE 3 #[.int .i64 a1_0, .int .i64 a1_1, .int .i64 a1_2] 70 rfl ?_; intro gb383 hg w12 hbox hb; have BK383 := Aside0.mk (hbox); have GW383 := gS HB hg; have GE383 := gS HB hg; have NB382_383 := nL BK382 hg; have NB383_382 := nG BK382 hg; replace BK382 := bS BK382 hb; replace HB := hS HB hb; clear hb hbox hg; have hnb13 := NB382_383.out; have hnc13 := NB383_382.out; have hcz14_0 := cz BK382 0; have hcz14_1 := cz BK382 1; have hcz14_2 := cz BK382 2; have hfz14_0 := fz BK382 0; have hfz14_1 := fz BK382 1; have hfz14_2 := fz BK382 2; have hcz15_0 := cz BK383 0; have hcz15_1 := cz BK383 1; have hcz15_2 := cz BK383 2; have hfz15_0 := fz BK383 0; have hfz15_1 := fz BK383 1; have hfz15_2 := fz BK383 2))
    go_ret
    exact ⟨by first | rfl | (simp [errW_none, errW_some] <;> rfl) | (simp [*, errW_none, errW_some] <;> rfl), hB⟩
  ·rw [if_neg c4] at H
   have c4b0 : (a0_1 == a1_1) = false := beq_eq_false_iff_ne.mpr c4
   have c4b1 : (a0_1 != a1_1) = true := bne_iff_ne.mpr c4
   obtain rfl := Option.some.inj H
   go_enter Tryd.func108, Tryd.ntmps108
   go_wp2_with (first | ((with_reducible refine gate_dst (N := 2) rfl ?_); refine bxE 2 #[.int .i64 a0_0, .int .i64 a0_1, .int .i64 a0_2] 70 rfl ?_; intro gb382 hg w16 hbox hb; have BK382 := Aside0.mk (hbox); have GW382 := gS HB hg; have GE382 := gS HB hg; replace HB := hS HB hb; clear hb hbox hg) | ((with_reducible refine gate_dst (N := 3) rfl ?_); refine bxE 3 #[.int .i64 a1_0, .int .i64 a1_1, .int .i64 a1_2] 70 rfl ?_; intro gb383 hg w17 hbox hb; have BK383 := Aside0.mk (hbox); have GW383 := gS HB hg; have GE383 := gS HB hg; have NB382_383 := nL BK382 hg; have NB383_382 := nG BK382 hg; replace BK382 := bS BK382 hb; replace HB := hS HB hb; clear hb hbox hg; have hnb18 := NB382_383.out; have hnc18 := NB383_382.out; have hcz19_0 := cz BK382 0; have hcz19_1 := cz BK382 1; have hcz19_2 := cz BK382 2; have hfz19_0 := fz BK382 0; have hfz19_1 := fz BK382 1; have hfz19_2 := fz BK382 2; have hcz20_0 := cz BK383 0; have hcz20_1 := cz BK383 1; have hcz20_2 := cz BK383 2; have hfz20_0 := fz BK383 0; have hfz20_1 := fz BK383 1; have hfz20_2 := fz BK383 2))
   go_ret
   exact ⟨by first | rfl | (simp [errW_none, errW_some] <;> rfl) | (simp [*, errW_none, errW_some] <;> rfl), hB⟩
 ·rw [if_neg c3] at H
  have c3b0 : (a0_0 == a1_0) = false := beq_eq_false_iff_ne.mpr c3
  have c3b1 : (a0_0 != a1_0) = true := bne_iff_ne.mpr c3
  obtain rfl := Option.some.inj H
  go_enter Tryd.func108, Tryd.ntmps108
  go_wp2_with (first | ((with_reducible refine gate_dst (N := 2) rfl ?_); refine bxE 2 #[.int .i64 a0_0, .int .i64 a0_1, .int .i64 a0_2] 70 rfl ?_; intro gb382 hg w21 hbox hb; have BK382 := Aside0.mk (hbox); have GW382 := gS HB hg; have GE382 := gS HB hg; replace HB := hS HB hb; clear hb hbox hg) | ((with_reducible refine gate_dst (N := 3) rfl ?_); refine bxE 3 #[.int .i64 a1_0, .int .i64 a1_1, .int .i64 a1_2] 70 rfl ?_; intro gb383 hg w22 hbox hb; have BK383 := Aside0.mk (hbox); have GW383 := gS HB hg; have GE383 := gS HB hg; have NB382_383 := nL BK382 hg; have NB383_382 := nG BK382 hg; replace BK382 := bS BK382 hb; replace HB := hS HB hb; clear hb hbox hg; have hnb23 := NB382_383.out; have hnc23 := NB383_382.out; have hcz24_0 := cz BK382 0; have hcz24_1 := cz BK382 1; have hcz24_2 := cz BK382 2; have hfz24_0 := fz BK382 0; have hfz24_1 := fz BK382 1; have hfz24_2 := fz BK382 2; have hcz25_0 := cz BK383 0; have hcz25_1 := cz BK383 1; have hcz25_2 := cz BK383 2; have hfz25_0 := fz BK383 0; have hfz25_1 := fz BK383 1; have hfz25_2 := fz BK383 2))
  go_ret
  exact ⟨by first | rfl | (simp [errW_none, errW_some] <;> rfl) | (simp [*, errW_none, errW_some] <;> rfl), hB⟩

end Go.Proofs.YtjpfbkkikcpmhaaDoor.PFnExactMakePuzzle
