-- Of this session's own program wip/gen/gen.py (it drives the kit's print): contracts of the functions that the law reaches.
import Derived.Test.YtomlbbnoicpfpaaDoorPFnExactFirstNeitherx0
import Derived.Test.YtomlbbnoicpfpaaDoorPFnExactFirstNeitherx2
namespace Go.Proofs.YtomlbbnoicpfpaaDoor.PFnExactFirstNeither
open Go.RowKit Go.Proofs.YtomlbbnoicpfpaaDoorW.PrintWords Go.Proofs.YtomlbbnoicpfpaaDoorW.PrintLast Go.Proofs.YtomlbbnoicpfpaaDoorW.PrintMore Go.Proofs.YtomlbbnoicpfpaaDoor.Base
attribute [local go_sem] max2_int min2_int max_two min_two max_three min_three max_four min_four   -- for this text's walks alone
set_option linter.unusedVariables false
set_option linter.unusedSimpArgs false

/-! ### spec_trMade: function 124 -/
mutual
def spec_trMade.l0 : Nat → List (List Bool) → List Int → List Int → Int → Bool → List Int → Int → Int → Option (Bool)
 | 0, _, _, _, _, _, _, _, _ => none
 | k + 1, x0, x1, x2, x3, x4, x18, x19, x20 => if x20 < x19 then (if 0 ≤ x20 then (if x20 < (x18.length : Int) then (spec_trMade.l1 k x0 x1 x2 x3 x4 x20 (rd x18 x20) true x18 x19 x20 x2 (x2.length : Int) 0) else (none)) else (none)) else (some false)
def spec_trMade.l1 : Nat → List (List Bool) → List Int → List Int → Int → Bool → Int → Int → Bool → List Int → Int → Int → List Int → Int → Int → Option (Bool)
 | 0, _, _, _, _, _, _, _, _, _, _, _, _, _, _ => none
 | k + 1, x0, x1, x2, x3, x4, x11, x12, x13, x18, x19, x20, x25, x26, x27 => if x27 < x26 then (if 0 ≤ x27 then (if x27 < (x25.length : Int) then (if x13 = true then (if 0 ≤ x12 then (if x12 < (x0.length : Int) then (if 0 ≤ (rd x25 x27) then (if (rd x25 x27) < ((rd_L3 x0 x12).length : Int) then (spec_trMade.l1 k x0 x1 x2 x3 x4 x11 x12 ((rdOf false (rd_L3 x0 x12) (rd x25 x27)) == x4) x18 x19 x20 x25 x26 (wrap64 (x27 + 1))) else (none)) else (none)) else (none)) else (none)) else (spec_trMade.l1 k x0 x1 x2 x3 x4 x11 x12 false x18 x19 x20 x25 x26 (wrap64 (x27 + 1)))) else (none)) else (none)) else (if x13 = true then (if 0 ≤ (wrap64 (x11 + 1)) then (if (wrap64 (x11 + 1)) ≤ (x1.length : Int) then ((spec_l1Own.f x2).bind fun t201 => ((some (([x12] : List Int) : List Int)).bind fun y204 => (if t201.length + y204.length < 17592186044416 then ((spec_trMade.f k x0 (x1.drop ((wrap64 (x11 + 1)) : Int).toNat) (t201 ++ y204) (wrap64 (x3 - 1)) x4).bind fun t210 => (if t210 = true then (some true) else (spec_trMade.l0 k x0 x1 x2 x3 x4 x18 x19 (wrap64 (x20 + 1))))) else (none)))) else (none)) else (none)) else (spec_trMade.l0 k x0 x1 x2 x3 x4 x18 x19 (wrap64 (x20 + 1))))
def spec_trMade.f : Nat → List (List Bool) → List Int → List Int → Int → Bool → Option (Bool)
 | 0, _, _, _, _, _ => none
 | k + 1, l0, l1, l2, a3, a4 => if a3 ≤ 0 then (some true) else (spec_trMade.l0 k l0 l1 l2 a3 a4 l1 (l1.length : Int) 0)
end
theorem spec_trMade.mono_l : ∀ k, (∀ y0 y1 y2 y3 y4, LeO (spec_trMade.f k y0 y1 y2 y3 y4) (spec_trMade.f (k + 1) y0 y1 y2 y3 y4)) ∧ (∀ y0 y1 y2 y3 y4 y5 y6 y7, LeO (spec_trMade.l0 k y0 y1 y2 y3 y4 y5 y6 y7) (spec_trMade.l0 (k + 1) y0 y1 y2 y3 y4 y5 y6 y7)) ∧ (∀ y0 y1 y2 y3 y4 y5 y6 y7 y8 y9 y10 y11 y12 y13, LeO (spec_trMade.l1 k y0 y1 y2 y3 y4 y5 y6 y7 y8 y9 y10 y11 y12 y13) (spec_trMade.l1 (k + 1) y0 y1 y2 y3 y4 y5 y6 y7 y8 y9 y10 y11 y12 y13))
 | 0 => ⟨fun _ _ _ _ _ r h => by simp [spec_trMade.f] at h, fun _ _ _ _ _ _ _ _ r h => by simp [spec_trMade.l0] at h, fun _ _ _ _ _ _ _ _ _ _ _ _ _ _ r h => by simp [spec_trMade.l1] at h⟩
 | k + 1 => by
  obtain ⟨ih0, ih1, ih2⟩ := spec_trMade.mono_l k
  refine ⟨?_, ?_, ?_⟩
  ·intro y0 y1 y2 y3 y4
   unfold spec_trMade.f
   repeat' first
   | (with_reducible exact ih0 _ _ _ _ _)
   | (with_reducible exact ih1 _ _ _ _ _ _ _ _)
   | (with_reducible exact ih2 _ _ _ _ _ _ _ _ _ _ _ _ _ _)
   | (with_reducible exact LeO.refl _)
   | (with_reducible exact LeO.none _)
   | (with_reducible refine LeO.ite ?_ ?_)
   | (with_reducible refine LeO.bind ?_ (fun _ => ?_))
   | exact ih0 _ _ _ _ _
   | exact ih1 _ _ _ _ _ _ _ _
   | exact ih2 _ _ _ _ _ _ _ _ _ _ _ _ _ _
   | exact LeO.none _
   | refine LeO.ite ?_ ?_
   | refine LeO.bind ?_ (fun _ => ?_)
  ·intro y0 y1 y2 y3 y4 y5 y6 y7
   unfold spec_trMade.l0
   repeat' first
   | (with_reducible exact ih0 _ _ _ _ _)
   | (with_reducible exact ih1 _ _ _ _ _ _ _ _)
   | (with_reducible exact ih2 _ _ _ _ _ _ _ _ _ _ _ _ _ _)
   | (with_reducible exact LeO.refl _)
   | (with_reducible exact LeO.none _)
   | (with_reducible refine LeO.ite ?_ ?_)
   | (with_reducible refine LeO.bind ?_ (fun _ => ?_))
   | exact ih0 _ _ _ _ _
   | exact ih1 _ _ _ _ _ _ _ _
   | exact ih2 _ _ _ _ _ _ _ _ _ _ _ _ _ _
   | exact LeO.none _
   | refine LeO.ite ?_ ?_
   | refine LeO.bind ?_ (fun _ => ?_)
  ·intro y0 y1 y2 y3 y4 y5 y6 y7 y8 y9 y10 y11 y12 y13
   unfold spec_trMade.l1
   repeat' first
   | (with_reducible exact ih0 _ _ _ _ _)
   | (with_reducible exact ih1 _ _ _ _ _ _ _ _)
   | (with_reducible exact ih2 _ _ _ _ _ _ _ _ _ _ _ _ _ _)
   | (with_reducible exact LeO.refl _)
   | (with_reducible exact LeO.none _)
   | (with_reducible refine LeO.ite ?_ ?_)
   | (with_reducible refine LeO.bind ?_ (fun _ => ?_))
   | exact ih0 _ _ _ _ _
   | exact ih1 _ _ _ _ _ _ _ _
   | exact ih2 _ _ _ _ _ _ _ _ _ _ _ _ _ _
   | exact LeO.none _
   | refine LeO.ite ?_ ?_
   | refine LeO.bind ?_ (fun _ => ?_)
theorem spec_trMade.mono : ∀ a0 a1 a2 a3 a4 k, LeO (spec_trMade.f k a0 a1 a2 a3 a4) (spec_trMade.f (k + 1) a0 a1 a2 a3 a4) := by
 intro a0 a1 a2 a3 a4 k
 obtain ⟨ih0, ih1, ih2⟩ := spec_trMade.mono_l k
 exact ih0 a0 a1 a2 a3 a4
def spec_trMade.T12 : Bool × List (List Nat × List Nat) := (true, [([], []), ([0], [0]), ([1], [1]), ([1], [1]), ([1], [1]), ([4, 1], [1, 4]), ([3, 5, 1], [1, 3, 5]), ([1], [1]), ([7, 1, 1], [1, 7]), ([1], [1]), ([9, 1], [1, 9]), ([8, 10, 8, 1], [1, 8, 10]), ([1], [1]), ([12, 1], [1, 12]), ([1], [1]), ([2, 6, 11, 13, 14, 11, 1], [1, 2, 6, 11, 13, 14]), ([1, 15], [1, 15])])
def spec_trMade.B12 : List Nat := [0, 1, 3, 3, 3, 19, 59, 3, 131, 3, 515, 1923, 3, 4099, 3, 32767, 65535]
theorem spec_trMade.tab12 : rtab .any (opsOf Tryd.f124 12) = spec_trMade.T12 := by kernel_rfl
theorem spec_trMade.bits12 : waitsOk spec_trMade.T12.2 spec_trMade.B12 = true := by kernel_rfl
set_option maxHeartbeats 8000000 in
set_option maxRecDepth 100000 in
theorem spec_trMade.calls (k : Nat) : ∀ (A0 : Option Addr) (c0 : Nat) (l0 : List (List Bool)) (A1 : Option Addr) (c1 : Nat) (l1 : List Int) (A2 : Option Addr) (c2 : Nat) (l2 : List Int) (a3 : Int) (a4 : Bool) (r : Bool) (w : World) (hr0 : Kd.C (Kd.slice 4 Kd.bool) w A0 l0.length l0) (hc0 : l0.length ≤ c0) (hr1 : Kd.C (Kd.int .i64) w A1 l1.length l1) (hc1 : l1.length ≤ c1) (hr2 : Kd.C (Kd.int .i64) w A2 l2.length l2) (hc2 : l2.length ≤ c2) (h : spec_trMade.f k l0 l1 l2 a3 a4 = some r),
  Calls Tryd.prog 124 #[.slice A0 l0.length c0, .slice A1 l1.length c1, .slice A2 l2.length c2, .int .i64 a3, .bool a4] w fun e w' => e = .returned (.bool r) ∧ Below w.heap.size w w' := by
 induction k using Nat.strongRecOn with
 | _ k ih =>
 intro A0 c0 l0 A1 c1 l1 A2 c2 l2 a3 a4 r w hr0 hc0 hr1 hc1 hr2 hc2 h
 cases k with
 | zero => exact absurd h (by simp [spec_trMade.f])
 | succ k =>
 simp only [spec_trMade.f] at h
 have HR0 := Aside0.mk hr0
 have HC0 := Aside0.mk hc0
 clear hr0 hc0
 have HR1 := Aside0.mk hr1
 have HC1 := Aside0.mk hc1
 clear hr1 hc1
 have HR2 := Aside0.mk hr2
 have HC2 := Aside0.mk hc2
 clear hr2 hc2
 have HB := Aside0.mk (Below.refl w.heap.size w)
 have H : (if a3 ≤ 0 then (some true) else (spec_trMade.l0 k l0 l1 l2 a3 a4 l1 (l1.length : Int) 0)) = some r := h
 clear h
 by_cases c6 : a3 ≤ 0
 ·rw [if_pos c6] at H
  have c6b0 : decide (a3 ≤ 0) = true := decide_eq_true c6
  clear c6
  obtain rfl := Option.some.inj H
  go_enter Tryd.func124, Tryd.ntmps124
  go_wp2
  go_ret
  exact ⟨by first | rfl | (simp [errW_none, errW_some] <;> rfl) | (simp [*, errW_none, errW_some] <;> rfl), hB⟩
 ·rw [if_neg c6] at H
  have c6b0 : decide (a3 ≤ 0) = false := decide_eq_false c6
  clear c6
  have H' := Aside0.mk H
  clear H
  go_enter Tryd.func124, Tryd.ntmps124
  go_wp2
  go_loopg [20] k (fun kq v20 w' => ∃ (x20_1 : Int), v20 = .int .i64 x20_1 ∧ Aside0 (spec_trMade.l0 kq l0 l1 l2 a3 a4 l1 (l1.length : Int) x20_1 = some r) ∧ Aside0 (kq ≤ k) ∧ Aside0 (Below w.heap.size w w'))
  case atStart => exact ⟨(0), (by first | rfl | (simp; done) | (simp [*]; done)), H', ⟨Nat.le_refl _⟩, ⟨hB⟩⟩
  case round =>
   clear H'
   try clear c1
   try clear c2
   try clear p2
   try clear c6
   try clear c6b0
   obtain ⟨x20_1, rfl, HA, HK1, HB⟩ := hrel
   cases gk with
   | zero => exact absurd HA.out (by simp [spec_trMade.l0])
   | succ k1 =>
    have H := HA.out
    clear HA
    simp only [spec_trMade.l0] at H
    by_cases c7 : x20_1 < (l1.length : Int)
    ·rw [if_pos c7] at H
     have c7b0 : decide (x20_1 < (l1.length : Int)) = true := decide_eq_true c7
     clear c7
     by_cases c8 : 0 ≤ x20_1
     ·rw [if_pos c8] at H
      have c8b0 : decide (0 ≤ x20_1) = true := decide_eq_true c8
      clear c8
      by_cases c9 : x20_1 < (l1.length : Int)
      ·rw [if_pos c9] at H
       have c9b0 : decide (x20_1 < (l1.length : Int)) = true := decide_eq_true c9
       clear c9
       have H' := Aside0.mk H
       clear H
       have p196 : 0 ≤ (x20_1 : Int) := of_decide_eq_true (by first | (with_reducible assumption) | assumption)
       have q196 : x20_1 < (l1.length : Int) := of_decide_eq_true (by first | (with_reducible assumption) | assumption)
       obtain ⟨ad196, e196, hx196_0⟩ := Kd.at_int HR1.out x20_1 p196 q196
       cases e196
       replace hx196_0 := (HB.out.cell (World.block_lt_of_cell? w _ hx196_0)).trans hx196_0
       replace p196 := eq_true p196
       replace q196 := eq_true q196
       go_wp2
       go_loopg [13, 27] k1 (fun kq v13 v27 w' => ∃ (x13_2 : Bool) (x27_2 : Int), v13 = .bool x13_2 ∧ v27 = .int .i64 x27_2 ∧ Aside0 (spec_trMade.l1 kq l0 l1 l2 a3 a4 x20_1 (rd l1 x20_1) x13_2 l1 (l1.length : Int) x20_1 l2 (l2.length : Int) x27_2 = some r) ∧ Aside0 (kq ≤ k1) ∧ Aside0 (Below w.heap.size w w'))
       case atStart => exact ⟨(true), (0), (by first | rfl | (simp; done) | (simp [*]; done)), (by first | rfl | (simp; done) | (simp [*]; done)), H', ⟨Nat.le_refl _⟩, ⟨hB⟩⟩
       case round =>
        clear H'
        try clear c1
        try clear p1
        try clear q1
        try clear hx1
        try clear c2
        try clear p2
        try clear c6
        try clear c6b0
        try clear c7
        try clear c7b0
        try clear c8
        try clear c8b0
        try clear c9
        try clear c9b0
        try clear hx196_0
        try clear p196
        try clear p2
        try clear q196
        obtain ⟨x13_2, x27_2, rfl, rfl, HA, HK2, HB⟩ := hrel
        cases gk with
        | zero => exact absurd HA.out (by simp [spec_trMade.l1])
        | succ k2 =>
         have H := HA.out
         clear HA
         simp only [spec_trMade.l1] at H
         by_cases c10 : x27_2 < (l2.length : Int)
         ·rw [if_pos c10] at H
          have c10b0 : decide (x27_2 < (l2.length : Int)) = true := decide_eq_true c10
          clear c10
          by_cases c11 : 0 ≤ x27_2
          ·rw [if_pos c11] at H
           have c11b0 : decide (0 ≤ x27_2) = true := decide_eq_true c11
           clear c11
           by_cases c12 : x27_2 < (l2.length : Int)
           ·rw [if_pos c12] at H
            have c12b0 : decide (x27_2 < (l2.length : Int)) = true := decide_eq_true c12
            clear c12
            by_cases c13 : x13_2 = true
            ·subst c13
             have H1 : (if 0 ≤ (rd l1 x20_1) then (if (rd l1 x20_1) < (l0.length : Int) then (if 0 ≤ (rd l2 x27_2) then (if (rd l2 x27_2) < ((rd_L3 l0 (rd l1 x20_1)).length : Int) then (spec_trMade.l1 k2 l0 l1 l2 a3 a4 x20_1 (rd l1 x20_1) ((rdOf false (rd_L3 l0 (rd l1 x20_1)) (rd l2 x27_2)) == a4) l1 (l1.length : Int) x20_1 l2 (l2.length : Int) (wrap64 (x27_2 + 1))) else (none)) else (none)) else (none)) else (none)) = some r := by rw [if_pos rfl] at H; exact H
             clear H
             have H := H1
             clear H1
             by_cases c14 : 0 ≤ (rd l1 x20_1)
             ·rw [if_pos c14] at H
              have c14b0 : decide (0 ≤ (rd l1 x20_1)) = true := decide_eq_true c14
              clear c14
              by_cases c15 : (rd l1 x20_1) < (l0.length : Int)
              ·rw [if_pos c15] at H
               have c15b0 : decide ((rd l1 x20_1) < (l0.length : Int)) = true := decide_eq_true c15
               clear c15
               by_cases c16 : 0 ≤ (rd l2 x27_2)
               ·rw [if_pos c16] at H
                have c16b0 : decide (0 ≤ (rd l2 x27_2)) = true := decide_eq_true c16
                clear c16
                by_cases c17 : (rd l2 x27_2) < ((rd_L3 l0 (rd l1 x20_1)).length : Int)
                ·rw [if_pos c17] at H
                 have c17b0 : decide ((rd l2 x27_2) < ((rd_L3 l0 (rd l1 x20_1)).length : Int)) = true := decide_eq_true c17
                 clear c17
                 have H' := Aside0.mk H
                 clear H
                 have p197 : 0 ≤ (x27_2 : Int) := of_decide_eq_true (by first | (with_reducible assumption) | assumption)
                 have q197 : x27_2 < (l2.length : Int) := of_decide_eq_true (by first | (with_reducible assumption) | assumption)
                 obtain ⟨ad197, e197, hx197_0⟩ := Kd.at_int HR2.out x27_2 p197 q197
                 cases e197
                 replace hx197_0 := (HB.out.cell (World.block_lt_of_cell? w _ hx197_0)).trans hx197_0
                 replace p197 := eq_true p197
                 replace q197 := eq_true q197
                 have p198 : 0 ≤ ((rd l1 x20_1) : Int) := of_decide_eq_true (by first | (with_reducible assumption) | assumption)
                 have q198 : (rd l1 x20_1) < (l0.length : Int) := of_decide_eq_true (by first | (with_reducible assumption) | assumption)
                 obtain ⟨ad198, A198_0, c198_0, e198, hx198_0, hl198_0, hi198_0⟩ := at_L3 HR0.out (rd l1 x20_1) p198 q198
                 cases e198
                 replace hx198_0 := (HB.out.cell (World.block_lt_of_cell? w _ hx198_0)).trans hx198_0
                 have HR198_0 := Aside0.mk hi198_0
                 have HC198_0 := Aside0.mk hl198_0
                 clear hi198_0 hl198_0
                 replace p198 := eq_true p198
                 replace q198 := eq_true q198
                 have p199 : 0 ≤ ((rd l2 x27_2) : Int) := of_decide_eq_true (by first | (with_reducible assumption) | assumption)
                 have q199 : (rd l2 x27_2) < ((rd_L3 l0 (rd l1 x20_1)).length : Int) := of_decide_eq_true (by first | (with_reducible assumption) | assumption)
                 obtain ⟨ad199, e199, hx199_0⟩ := Kd.at_bool HR198_0.out (rd l2 x27_2) p199 q199
                 cases e199
                 replace hx199_0 := (HB.out.cell (World.block_lt_of_cell? w _ hx199_0)).trans hx199_0
                 replace p199 := eq_true p199
                 replace q199 := eq_true q199
                 go_wp2
                 go_roundg k2
                 case measure => have := HK1.out; have := HK2.out; omega
                 case rel => exact ⟨(((rdOf false (rd_L3 l0 (rd l1 x20_1)) (rd l2 x27_2)) == a4)), (wrap64 (x27_2 + 1)), (by first | rfl | (simp; done) | (simp [*]; done)), (by first | rfl | (simp; done) | (simp [*]; done)), H', ⟨by have := HK1.out; have := HK2.out; omega⟩, ⟨hB⟩⟩
                ·rw [if_neg c17] at H
                 exact absurd H (by simp)
               ·rw [if_neg c16] at H
                exact absurd H (by simp)
              ·rw [if_neg c15] at H
               exact absurd H (by simp)
             ·rw [if_neg c14] at H
              exact absurd H (by simp)
            ·replace c13 := Bool.eq_false_iff.mpr c13
             subst c13
             have H1 : (spec_trMade.l1 k2 l0 l1 l2 a3 a4 x20_1 (rd l1 x20_1) false l1 (l1.length : Int) x20_1 l2 (l2.length : Int) (wrap64 (x27_2 + 1))) = some r := by rw [if_neg (show ¬ (false = true) by decide)] at H; exact H
             clear H
             have H := H1
             clear H1
             have H' := Aside0.mk H
             clear H
             have p197 : 0 ≤ (x27_2 : Int) := of_decide_eq_true (by first | (with_reducible assumption) | assumption)
             have q197 : x27_2 < (l2.length : Int) := of_decide_eq_true (by first | (with_reducible assumption) | assumption)
             obtain ⟨ad197, e197, hx197_0⟩ := Kd.at_int HR2.out x27_2 p197 q197
             cases e197
             replace hx197_0 := (HB.out.cell (World.block_lt_of_cell? w _ hx197_0)).trans hx197_0
             replace p197 := eq_true p197
             replace q197 := eq_true q197
             go_wp2
             go_roundg k2
             case measure => have := HK1.out; have := HK2.out; omega
             case rel => exact ⟨(false), (wrap64 (x27_2 + 1)), (by first | rfl | (simp; done) | (simp [*]; done)), (by first | rfl | (simp; done) | (simp [*]; done)), H', ⟨by have := HK1.out; have := HK2.out; omega⟩, ⟨hB⟩⟩
           ·rw [if_neg c12] at H
            exact absurd H (by simp)
          ·rw [if_neg c11] at H
           exact absurd H (by simp)
         ·rw [if_neg c10] at H
          have c10b0 : decide (x27_2 < (l2.length : Int)) = false := decide_eq_false c10
          clear c10
          by_cases c18 : x13_2 = true
          ·subst c18
           have H1 : (if 0 ≤ (wrap64 (x20_1 + 1)) then (if (wrap64 (x20_1 + 1)) ≤ (l1.length : Int) then ((spec_l1Own.f l2).bind fun t201 => ((some (([(rd l1 x20_1)] : List Int) : List Int)).bind fun y204 => (if t201.length + y204.length < 17592186044416 then ((spec_trMade.f k2 l0 (l1.drop ((wrap64 (x20_1 + 1)) : Int).toNat) (t201 ++ y204) (wrap64 (a3 - 1)) a4).bind fun t210 => (if t210 = true then (some true) else (spec_trMade.l0 k2 l0 l1 l2 a3 a4 l1 (l1.length : Int) (wrap64 (x20_1 + 1))))) else (none)))) else (none)) else (none)) = some r := by rw [if_pos rfl] at H; exact H
           clear H
           have H := H1
           clear H1
           obtain ⟨ji19, hji19⟩ : ∃ j_ : Int, (wrap64 (x20_1 + 1)) = j_ := ⟨_, rfl⟩
           replace H : (if 0 ≤ (ji19) then (if (ji19) ≤ (l1.length : Int) then ((spec_l1Own.f l2).bind fun t201 => ((some (([(rd l1 x20_1)] : List Int) : List Int)).bind fun y204 => (if t201.length + y204.length < 17592186044416 then ((spec_trMade.f k2 l0 (l1.drop ((ji19) : Int).toNat) (t201 ++ y204) (wrap64 (a3 - 1)) a4).bind fun t210 => (if t210 = true then (some true) else (spec_trMade.l0 k2 l0 l1 l2 a3 a4 l1 (l1.length : Int) ji19))) else (none)))) else (none)) else (none)) = some r := by first | (rw [hji19] at H; exact H) | (simp only [hji19] at H ⊢; exact H)
           have hji19w : (IntKind.i64.wrap (x20_1 + 1)) = ji19 := (i64_w _).trans hji19
           by_cases c20 : 0 ≤ (ji19)
           ·rw [if_pos c20] at H
            have c20b0 := eq_true c20
            have c20b1 : decide (0 ≤ (ji19)) = true := decide_eq_true c20
            clear c20
            by_cases c21 : (ji19) ≤ (l1.length : Int)
            ·rw [if_pos c21] at H
             have c21b0 := eq_true c21
             have c21b1 : decide ((ji19) ≤ (l1.length : Int)) = true := decide_eq_true c21
             clear c21
             replace H := Option.bind_eq_some_iff.mp H
             obtain ⟨t201, A220, H⟩ := H
             replace H : ((some (([(rd l1 x20_1)] : List Int) : List Int)).bind fun y204 => (if t201.length + y204.length < 17592186044416 then ((spec_trMade.f k2 l0 (l1.drop ((ji19) : Int).toNat) (t201 ++ y204) (wrap64 (a3 - 1)) a4).bind fun t210 => (if t210 = true then (some true) else (spec_trMade.l0 k2 l0 l1 l2 a3 a4 l1 (l1.length : Int) ji19))) else (none))) = some r := H
             have A22 := Aside0.mk A220
             clear A220
             obtain ⟨y204, hy204⟩ : ∃ y_ : List Int, y_ = (([(rd l1 x20_1)] : List Int)) := ⟨_, rfl⟩
             replace H : (if t201.length + y204.length < 17592186044416 then ((spec_trMade.f k2 l0 (l1.drop ((ji19) : Int).toNat) (t201 ++ y204) (wrap64 (a3 - 1)) a4).bind fun t210 => (if t210 = true then (some true) else (spec_trMade.l0 k2 l0 l1 l2 a3 a4 l1 (l1.length : Int) ji19))) else (none)) = some r := by first | (rw [hy204]; with_reducible exact H) | (have H2_ := (Option.bind_some _ _).symm.trans H; rw [hy204]; with_reducible exact H2_) | (have H2_ := (Option.bind_some _ _).symm.trans H; with_reducible exact H2_) | with_reducible exact H | (rw [hy204]; exact H) | exact H
             have Ny204 := Aside0.mk hy204
             clear hy204
             by_cases c23 : t201.length + y204.length < 17592186044416
             ·rw [if_pos c23] at H
              have LMc23 := Aside0.mk c23
              clear c23
              obtain ⟨y207, hy207⟩ : ∃ y_ : List Int, y_ = (t201 ++ y204) := ⟨_, rfl⟩
              replace H : ((spec_trMade.f k2 l0 (l1.drop ((ji19) : Int).toNat) y207 (wrap64 (a3 - 1)) a4).bind fun t210 => (if t210 = true then (some true) else (spec_trMade.l0 k2 l0 l1 l2 a3 a4 l1 (l1.length : Int) ji19))) = some r := by first | (rw [hy207]; with_reducible exact H) | (have H2_ := (Option.bind_some _ _).symm.trans H; rw [hy207]; with_reducible exact H2_) | (have H2_ := (Option.bind_some _ _).symm.trans H; with_reducible exact H2_) | with_reducible exact H | (rw [hy207]; exact H) | exact H
              have Ny207 := Aside0.mk hy207
              clear hy207
              replace H := Option.bind_eq_some_iff.mp H
              obtain ⟨t210, A240, H⟩ := H
              replace H : (if t210 = true then (some true) else (spec_trMade.l0 k2 l0 l1 l2 a3 a4 l1 (l1.length : Int) ji19)) = some r := H
              have A24 := Aside0.mk A240
              clear A240
              by_cases c25 : t210 = true
              ·subst c25
               have H1 : (some true) = some r := by rw [if_pos rfl] at H; exact H
               clear H
               have H := H1
               clear H1
               obtain rfl := Option.some.inj H
               try go_wp2
               have n0_ := Aside0.mk (below_drew1 HB.out)
               clear HB
               have HB := n0_
               clear n0_
               obtain ⟨i027, hi027, _, hsz27, _⟩ := info_parts info3
               obtain ⟨A27, hcut27, hA27, hC27⟩ := print_drop_of (P := Tryd.prog) (Value.int .i64) 0 81 3 .i64 Tryd.underlying81 hi027 hsz27 (some ad196) c1 l1 (ji19) (of_decide_eq_true (by first | (with_reducible assumption) | assumption)) (of_decide_eq_true (by first | (with_reducible assumption) | assumption)) HC1.out
               have HR200 := Aside0.mk (Kd.C_of_reads (h1 := fun _ => rfl) (hA27 _ (Kd.reads_of_C HR1.out)))
               have HC200 := Aside0.mk hC27
               clear hA27 hC27 hi027 hsz27
               refine start_ (n := 17) (S := fun w' => True) (ds := []) (bz 17 0) (by kernel_rfl) rfl rfl trivial (fun hHeld => ?_); refine with_tabW spec_trMade.tab12 spec_trMade.bits12 (fun HT_ HW_ => ?_)
               generalize wr.drew = w26 at HB HR200 hHeld ⊢
               refine run_ [(0, 0, 1, some 44), (0, 1, 3, some 45), (0, 2, 7, some 46), (0, 3, 15, some 47), (0, 4, 31, some 48), (0, 5, 63, some 49), (0, 6, 127, some 50), (0, 7, 255, some 51), (0, 9, 767, some 53), (0, 12, 4863, some 56), (0, 13, 13055, some 57), (0, 14, 29439, some 58)] ?_
               repeat ((apply tag0; refine run_p (v := ?_) (a' := ?_) rfl rfl (any_of HT_.out (by kernel_rfl)) (fun _ _ _ h => h) (by rfl) ?_ ?_ ?_; rotate_left 2; (intro w'; go_simp; with_reducible rfl); (first | (simp only [Act.put, List.setIfInBounds_toArray, List.set_cons_zero, List.set_cons_succ, i64_w, i32_w]; rfl) | rfl)))
               refine run_nil ?_
               refine join_ (σ := Value × Value) 3 (bz 17 30719) (fun s_ => [(52, s_.1), (54, s_.2)]) (fun s_ w' => (Kd.R (Kd.int .i64) 3 w' w.heap.size (fun k_ => some k_ ≠ (s_.2 : Value).ownBlock) s_.1 t201) ∧ (Kd.R (Kd.int .i64) 3 w' w.heap.size (fun k_ => some k_ ≠ (s_.1 : Value).ownBlock) s_.2 y204) ∧ (Below w.heap.size w w')) ?_ ?_
               rotate_left
               ·intro hCont
                refine two_ (i := 8) (j := 10) (Ni := some 52) (Nj := some 54) (bz 17 29695) (bz 17 30463) rfl rfl rfl rfl (two_of HT_.out (by kernel_rfl)) (by decide) (by decide) (fun K hK => ?_) (fun K hK => ?_)
                ·skip
                 refine goes_ Tryd.func119 (by kernel_rfl) rfl #[.slice A2 l2.length c2] (by rfl) rfl rfl mapT ?_
                 with_reducible refine (spec_l1Own.calls _ _ l2 t201 _ ?side1 ?side2 A22.out).mono ?_
                 (case side1 => repeat (first | exact (Kd.C_below HR2.out HB.out) | (with_reducible refine Kd.C_alloc ?_ _) | (with_reducible refine Kd.C_drewN ?_ _) | (with_reducible refine Kd.C_drew ?_)))
                 (case side2 => exact HC2.out)
                 rintro e w28 ⟨v202, rfl, ho0, hb⟩
                 refine ⟨_, rfl, ?_⟩
                 have n0_ := Aside0.mk (Kd.R_lower ho0 (below_size hB))
                 have n1_ := hS HB hb
                 clear HB
                 have HO203 := n0_
                 have HB := n1_
                 clear n0_ n1_
                 (try clear hb)
                 (try clear hb2)
                 (try clear hk)
                 (try clear hi)
                 (try clear ho0)
                 refine hK.out _ _ trivial (fun hHeld => ?_)
                 clear hK K
                 refine norm_ (a' := ?_) ?_ ?_
                 rotate_left
                 ·show Act.put _ (some 52) _ = _
                  simp only [Act.put, List.setIfInBounds_toArray, List.set_cons_zero, List.set_cons_succ, i64_w, i32_w]
                  rfl
                 refine one_ (i := 10) (N := some 54) (bz 17 30719) rfl rfl (one_of HT_.out (by kernel_rfl)) (by decide) (fun K hK => ?_)
                 refine Kd.R_lit_step (Kd.int .i64) _ 3 ?hg (N := 54) ?hd (xs := ([(rd l1 x20_1)] : List Int)) (inner := [.int .i64 (rd l1 x20_1)]) (ok := fun _ => True) (okp := fun _ => True) ?hr ?hp (fun _ hk => hk) trivial (Below.refl _ _) (Nat.le_refl _) (by simp) ?_; (case hd => rfl); (case hg => rfl); (case hr => first | (go_simp; done) | (go_simp; rfl)); (case hp => exact (Reps.one (show Kd.M (Kd.int .i64) _ _ _ (rd l1 x20_1) [.int .i64 (rd l1 x20_1)] from rfl) (Reps.none _ _)))
                 intro v205 w29 ho30 hb hg_ hnew_
                 clear hg_ hnew_
                 (first | rw [← Ny204.out] at ho30 | (simp only [Int.reduceToNat] at ho30; rw [← Ny204.out] at ho30))
                 have n0_ := Aside0.mk (Kd.R_elder' (by (with_reducible repeat (first | apply Kd.R_alloc | apply Kd.R_drewN | apply Kd.R_drew)); exact HO203.out) (Kd.R_base ho30) hb)
                 have n1_ := Aside0.mk (Kd.R_lower (Kd.R_new' ho30 (Kd.R_lt (by (with_reducible repeat (first | apply Kd.R_alloc | apply Kd.R_drewN | apply Kd.R_drew)); exact HO203.out))) (below_size hB))
                 have n2_ := hS HB hb
                 clear HO203
                 clear HB
                 have HO203 := n0_
                 have HO206 := n1_
                 have HB := n2_
                 clear n0_ n1_ n2_
                 clear hb ho30
                 refine hK.out _ _ trivial (fun hHeld => ?_)
                 clear hK K
                 refine norm_ (a' := ?_) ?_ ?_
                 rotate_left
                 ·show Act.put _ (some 54) _ = _
                  simp only [Act.put, List.setIfInBounds_toArray, List.set_cons_zero, List.set_cons_succ, i64_w, i32_w]
                  rfl
                 exact norm_ (by simp only [putAll, Act.put, List.setIfInBounds_toArray, List.set_cons_zero, List.set_cons_succ]) (hCont (v202, v205) _ ⟨(by (with_reducible repeat (first | apply Kd.R_alloc | apply Kd.R_drewN | apply Kd.R_drew)); exact Kd.R_mono HO203.out (fun _ hk => hk.2)), (by (with_reducible repeat (first | apply Kd.R_alloc | apply Kd.R_drewN | apply Kd.R_drew)); exact Kd.R_mono HO206.out (fun _ hk => hk.2)), hB⟩)
                ·skip
                 refine Kd.R_lit_step (Kd.int .i64) _ 3 ?hg (N := 54) ?hd (xs := ([(rd l1 x20_1)] : List Int)) (inner := [.int .i64 (rd l1 x20_1)]) (ok := fun _ => True) (okp := fun _ => True) ?hr ?hp (fun _ hk => hk) trivial (Below.refl _ _) (Nat.le_refl _) (by simp) ?_; (case hd => rfl); (case hg => rfl); (case hr => first | (go_simp; done) | (go_simp; rfl)); (case hp => exact (Reps.one (show Kd.M (Kd.int .i64) _ _ _ (rd l1 x20_1) [.int .i64 (rd l1 x20_1)] from rfl) (Reps.none _ _)))
                 intro v205 w28 ho29 hb hg_ hnew_
                 clear hg_ hnew_
                 (first | rw [← Ny204.out] at ho29 | (simp only [Int.reduceToNat] at ho29; rw [← Ny204.out] at ho29))
                 have n0_ := Aside0.mk (Kd.R_lower ho29 (below_size hB))
                 have n1_ := hS HB hb
                 clear HB
                 have HO206 := n0_
                 have HB := n1_
                 clear n0_ n1_
                 clear hb ho29
                 refine hK.out _ _ trivial (fun hHeld => ?_)
                 clear hK K
                 refine norm_ (a' := ?_) ?_ ?_
                 rotate_left
                 ·show Act.put _ (some 54) _ = _
                  simp only [Act.put, List.setIfInBounds_toArray, List.set_cons_zero, List.set_cons_succ, i64_w, i32_w]
                  rfl
                 refine one_ (i := 8) (N := some 52) (bz 17 30719) rfl rfl (one_of HT_.out (by kernel_rfl)) (by decide) (fun K hK => ?_)
                 refine goes_ Tryd.func119 (by kernel_rfl) rfl #[.slice A2 l2.length c2] (by rfl) rfl rfl mapT ?_
                 with_reducible refine (spec_l1Own.calls _ _ l2 t201 _ ?side1 ?side2 A22.out).mono ?_
                 (case side1 => repeat (first | exact (Kd.C_below HR2.out HB.out) | (with_reducible refine Kd.C_alloc ?_ _) | (with_reducible refine Kd.C_drewN ?_ _) | (with_reducible refine Kd.C_drew ?_)))
                 (case side2 => exact HC2.out)
                 rintro e w30 ⟨v202, rfl, ho0, hb⟩
                 refine ⟨_, rfl, ?_⟩
                 have n0_ := Aside0.mk (Kd.R_elder' (by (with_reducible repeat (first | apply Kd.R_alloc | apply Kd.R_drewN | apply Kd.R_drew)); exact HO206.out) (Kd.R_base ho0) hb)
                 have n1_ := Aside0.mk (Kd.R_lower (Kd.R_new' ho0 (Kd.R_lt (by (with_reducible repeat (first | apply Kd.R_alloc | apply Kd.R_drewN | apply Kd.R_drew)); exact HO206.out))) (below_size hB))
                 have n2_ := hS HB hb
                 clear HO206
                 clear HB
                 have HO206 := n0_
                 have HO203 := n1_
                 have HB := n2_
                 clear n0_ n1_ n2_
                 (try clear hb)
                 (try clear hb2)
                 (try clear hk)
                 (try clear hi)
                 (try clear ho0)
                 refine hK.out _ _ trivial (fun hHeld => ?_)
                 clear hK K
                 refine norm_ (a' := ?_) ?_ ?_
                 rotate_left
                 ·show Act.put _ (some 52) _ = _
                  simp only [Act.put, List.setIfInBounds_toArray, List.set_cons_zero, List.set_cons_succ, i64_w, i32_w]
                  rfl
                 exact norm_ (by simp only [putAll, Act.put, List.setIfInBounds_toArray, List.set_cons_zero, List.set_cons_succ]) (hCont (v202, v205) _ ⟨(by (with_reducible repeat (first | apply Kd.R_alloc | apply Kd.R_drewN | apply Kd.R_drew)); exact Kd.R_mono HO203.out (fun _ hk => hk.2)), (by (with_reducible repeat (first | apply Kd.R_alloc | apply Kd.R_drewN | apply Kd.R_drew)); exact Kd.R_mono HO206.out (fun _ hk => hk.2)), hB⟩)
               rintro ⟨v202, v205⟩ w31 ⟨h0_, h1_, h2_⟩
               have n0_ : Aside0 (Kd.R (Kd.int .i64) 3 w31 w.heap.size (fun k_ => some k_ ≠ (v205 : Value).ownBlock) v202 t201) := ⟨h0_⟩
               have n1_ : Aside0 (Kd.R (Kd.int .i64) 3 w31 w.heap.size (fun k_ => some k_ ≠ (v202 : Value).ownBlock) v205 y204) := ⟨h1_⟩
               have n2_ : Aside0 (Below w.heap.size w w31) := ⟨h2_⟩
               clear HB
               clear h0_ h1_ h2_
               have HO203 := n0_
               have HO206 := n1_
               have HB := n2_
               clear n0_ n1_ n2_
               have hHeld := trivial
               obtain ⟨Ao33, co33, eo33⟩ := Kd.R_slice HO206.out
               (first | subst eo33 | (injection eo33 with f1_ f2_ f3_; have f4_ := f1_.symm; have f5_ := f3_.symm; clear f1_ f2_ f3_; subst f4_; subst f5_))
               refine norm_ (a' := ?_) ?_ ?_
               rotate_left
               ·simp only [putAll, Act.put, List.setIfInBounds_toArray, List.set_cons_zero, List.set_cons_succ]
                rfl
               refine one_ (i := 11) (N := some 55) (bz 17 32767) rfl rfl (one_of HT_.out (by kernel_rfl)) (by decide) (fun K hK => ?_)
               refine Kd.R_append_rows_step (Kd.int .i64) (w0 := w) w.heap.size (by rfl) (.tmp 52) (.tmp 54) 81 3 (.int .i64 0) 8 rfl Tryd.underlying81 info3 rfl (by decide) (by omega) v202 t201 y204 _ _ _ (fun k_ => some k_ ≠ (.slice Ao33 y204.length co33 : Value).ownBlock) (fun _ => False) rfl rfl ?aO ?aR (fun _ _ h => h) (fun _ h => h.elim) ?aF ?aB ?aS ?aL ?_
               (case aR => repeat (first | exact (Kd.R_reads' HO206.out).2.2 | (with_reducible refine Kd.C_alloc ?_ _) | (with_reducible refine Kd.C_drewN ?_ _) | (with_reducible refine Kd.C_drew ?_)))
               (case aB => exact hB)
               (case aF => exact (fun k_ hk => Kd.fresh' (Kd.R_lt (by (with_reducible repeat (first | apply Kd.R_alloc | apply Kd.R_drewN | apply Kd.R_drew)); exact HO206.out)) k_ hk))
               (case aO => exact (by (with_reducible repeat (first | apply Kd.R_alloc | apply Kd.R_drewN | apply Kd.R_drew)); exact HO203.out))
               (case aS => exact (below_size hB))
               (case aL => have := LMc23.out; omega)
               intro v208 w32 ho hb hg hat
               rw [← Ny207.out] at ho
               have n0_ := Aside0.mk (Kd.R_after (ok := (fun _ => True)) (by (with_reducible repeat (first | apply Kd.R_alloc | apply Kd.R_drewN | apply Kd.R_drew)); exact Kd.R_mono HO206.out (fun _ hk => ⟨trivial, hk⟩)) hg hat)
               have n1_ := Aside0.mk (hb)
               have n2_ := Aside0.mk (ho)
               clear HO206
               clear HB
               clear HO203
               have HO206 := n0_
               have HB := n1_
               have HO209 := n2_
               clear n0_ n1_ n2_
               clear ho hb hg hat
               obtain ⟨Ao34, co34, eo34⟩ := Kd.R_slice HO209.out
               (first | subst eo34 | (injection eo34 with f1_ f2_ f3_; have f4_ := f1_.symm; have f5_ := f3_.symm; clear f1_ f2_ f3_; subst f4_; subst f5_))
               refine hK.out _ _ trivial (fun hHeld => ?_)
               clear hK K
               refine norm_ (a' := ?_) ?_ ?_
               rotate_left
               ·show Act.put _ (some 55) _ = _
                simp only [Act.put, List.setIfInBounds_toArray, List.set_cons_zero, List.set_cons_succ, i64_w, i32_w]
                rfl
               refine one_ (i := 15) (N := some 59) (bz 17 65535) rfl rfl (one_of HT_.out (by kernel_rfl)) (by decide) (fun K hK => ?_)
               refine goes_ Tryd.func124 (by kernel_rfl) rfl #[.slice A0 l0.length c0, .slice A27 (l1.drop ((ji19) : Int).toNat).length (c1 - (ji19).toNat), .slice Ao34 y207.length co34, .int .i64 (wrap64 (a3 - 1)), .bool a4] (by rfl) rfl rfl (by (try simp only [List.map_toArray, List.map_cons, List.map_nil]); first | done | (rw [show (l1.drop ((ji19) : Int).toNat).length = (l1.length - (ji19).toNat) from List.length_drop] <;> rfl) | (simp only [hji19]; rfl) | rfl | (simp only [List.length_drop, List.length_take]; rfl)) ?_
               with_reducible refine (ih k2 (by have := HK1.out; have := HK2.out; omega) _ _ l0 _ _ (l1.drop ((ji19) : Int).toNat) _ _ y207 (wrap64 (a3 - 1)) a4 true _ ?side1 ?side2 ?side3 ?side4 ?side5 ?side6 A24.out).mono ?_
               (case side1 => repeat (first | exact (Kd.C_below HR0.out HB.out) | (with_reducible refine Kd.C_alloc ?_ _) | (with_reducible refine Kd.C_drewN ?_ _) | (with_reducible refine Kd.C_drew ?_)))
               (case side2 => exact HC0.out)
               (case side3 => repeat (first | exact (Kd.C_below HR200.out HB.out) | (with_reducible refine Kd.C_alloc ?_ _) | (with_reducible refine Kd.C_drewN ?_ _) | (with_reducible refine Kd.C_drew ?_)))
               (case side4 => exact HC200.out)
               (case side5 => repeat (first | exact (Kd.R_reads' HO209.out).2.2 | (with_reducible refine Kd.C_alloc ?_ _) | (with_reducible refine Kd.C_drewN ?_ _) | (with_reducible refine Kd.C_drew ?_)))
               (case side6 => exact (Kd.R_reads' HO209.out).2.1)
               rintro e w35 ⟨rfl, hb⟩
               refine ⟨_, rfl, ?_⟩
               have n0_ := Aside0.mk (Kd.R_below (by (with_reducible repeat (first | apply Kd.R_alloc | apply Kd.R_drewN | apply Kd.R_drew)); exact HO206.out) hb)
               have n1_ := Aside0.mk (Kd.R_below (by (with_reducible repeat (first | apply Kd.R_alloc | apply Kd.R_drewN | apply Kd.R_drew)); exact HO209.out) hb)
               have n2_ := hS HB hb
               clear HO206
               clear HO209
               clear HB
               have HO206 := n0_
               have HO209 := n1_
               have HB := n2_
               clear n0_ n1_ n2_
               (try clear hb)
               (try clear hb2)
               (try clear hk)
               (try clear hi)
               refine hK.out _ _ trivial (fun hHeld => ?_)
               clear hK K
               refine norm_ (a' := ?_) ?_ ?_
               rotate_left
               ·show Act.put _ (some 59) _ = _
                simp only [Act.put, List.setIfInBounds_toArray, List.set_cons_zero, List.set_cons_succ, i64_w, i32_w]
                rfl
               refine run_ [(0, 16, 131071, some 60)] ?_
               repeat ((apply tag0; refine run_p (v := ?_) (a' := ?_) rfl rfl (any_of HT_.out (by kernel_rfl)) (fun _ _ _ h => h) (by rfl) ?_ ?_ ?_; rotate_left 2; (intro w'; go_simp; with_reducible rfl); (first | (simp only [Act.put, List.setIfInBounds_toArray, List.set_cons_zero, List.set_cons_succ, i64_w, i32_w]; rfl) | rfl)))
               refine run_nil ?_
               refine done_ (done_of HT_.out (by kernel_rfl)) ?_
               try go_wp2
               go_ret
               exact ⟨by first | rfl | (simp [errW_none, errW_some] <;> rfl) | (simp only [← hji19]; first | rfl | (simp [errW_none, errW_some] <;> rfl)) | (simp [*, errW_none, errW_some] <;> rfl), hB⟩
              ·replace c25 := Bool.eq_false_iff.mpr c25
               subst c25
               have H1 : (spec_trMade.l0 k2 l0 l1 l2 a3 a4 l1 (l1.length : Int) ji19) = some r := by rw [if_neg (show ¬ (false = true) by decide)] at H; exact H
               clear H
               have H := H1
               clear H1
               have H' := Aside0.mk H
               clear H
               try go_wp2
               have n0_ := Aside0.mk (below_drew1 HB.out)
               clear HB
               have HB := n0_
               clear n0_
               obtain ⟨i037, hi037, _, hsz37, _⟩ := info_parts info3
               obtain ⟨A37, hcut37, hA37, hC37⟩ := print_drop_of (P := Tryd.prog) (Value.int .i64) 0 81 3 .i64 Tryd.underlying81 hi037 hsz37 (some ad196) c1 l1 (ji19) (of_decide_eq_true (by first | (with_reducible assumption) | assumption)) (of_decide_eq_true (by first | (with_reducible assumption) | assumption)) HC1.out
               have HR200 := Aside0.mk (Kd.C_of_reads (h1 := fun _ => rfl) (hA37 _ (Kd.reads_of_C HR1.out)))
               have HC200 := Aside0.mk hC37
               clear hA37 hC37 hi037 hsz37
               refine start_ (n := 17) (S := fun w' => True) (ds := []) (bz 17 0) (by kernel_rfl) rfl rfl trivial (fun hHeld => ?_); refine with_tabW spec_trMade.tab12 spec_trMade.bits12 (fun HT_ HW_ => ?_)
               generalize wr.drew = w36 at HB HR200 hHeld ⊢
               refine run_ [(0, 0, 1, some 44), (0, 1, 3, some 45), (0, 2, 7, some 46), (0, 3, 15, some 47), (0, 4, 31, some 48), (0, 5, 63, some 49), (0, 6, 127, some 50), (0, 7, 255, some 51), (0, 9, 767, some 53), (0, 12, 4863, some 56), (0, 13, 13055, some 57), (0, 14, 29439, some 58)] ?_
               repeat ((apply tag0; refine run_p (v := ?_) (a' := ?_) rfl rfl (any_of HT_.out (by kernel_rfl)) (fun _ _ _ h => h) (by rfl) ?_ ?_ ?_; rotate_left 2; (intro w'; go_simp; with_reducible rfl); (first | (simp only [Act.put, List.setIfInBounds_toArray, List.set_cons_zero, List.set_cons_succ, i64_w, i32_w]; rfl) | rfl)))
               refine run_nil ?_
               refine join_ (σ := Value × Value) 3 (bz 17 30719) (fun s_ => [(52, s_.1), (54, s_.2)]) (fun s_ w' => (Kd.R (Kd.int .i64) 3 w' w.heap.size (fun k_ => some k_ ≠ (s_.2 : Value).ownBlock) s_.1 t201) ∧ (Kd.R (Kd.int .i64) 3 w' w.heap.size (fun k_ => some k_ ≠ (s_.1 : Value).ownBlock) s_.2 y204) ∧ (Below w.heap.size w w')) ?_ ?_
               rotate_left
               ·intro hCont
                refine two_ (i := 8) (j := 10) (Ni := some 52) (Nj := some 54) (bz 17 29695) (bz 17 30463) rfl rfl rfl rfl (two_of HT_.out (by kernel_rfl)) (by decide) (by decide) (fun K hK => ?_) (fun K hK => ?_)
                ·skip
                 refine goes_ Tryd.func119 (by kernel_rfl) rfl #[.slice A2 l2.length c2] (by rfl) rfl rfl mapT ?_
                 with_reducible refine (spec_l1Own.calls _ _ l2 t201 _ ?side1 ?side2 A22.out).mono ?_
                 (case side1 => repeat (first | exact (Kd.C_below HR2.out HB.out) | (with_reducible refine Kd.C_alloc ?_ _) | (with_reducible refine Kd.C_drewN ?_ _) | (with_reducible refine Kd.C_drew ?_)))
                 (case side2 => exact HC2.out)
                 rintro e w38 ⟨v202, rfl, ho0, hb⟩
                 refine ⟨_, rfl, ?_⟩
                 have n0_ := Aside0.mk (Kd.R_lower ho0 (below_size hB))
                 have n1_ := hS HB hb
                 clear HB
                 have HO203 := n0_
                 have HB := n1_
                 clear n0_ n1_
                 (try clear hb)
                 (try clear hb2)
                 (try clear hk)
                 (try clear hi)
                 (try clear ho0)
                 refine hK.out _ _ trivial (fun hHeld => ?_)
                 clear hK K
                 refine norm_ (a' := ?_) ?_ ?_
                 rotate_left
                 ·show Act.put _ (some 52) _ = _
                  simp only [Act.put, List.setIfInBounds_toArray, List.set_cons_zero, List.set_cons_succ, i64_w, i32_w]
                  rfl
                 refine one_ (i := 10) (N := some 54) (bz 17 30719) rfl rfl (one_of HT_.out (by kernel_rfl)) (by decide) (fun K hK => ?_)
                 refine Kd.R_lit_step (Kd.int .i64) _ 3 ?hg (N := 54) ?hd (xs := ([(rd l1 x20_1)] : List Int)) (inner := [.int .i64 (rd l1 x20_1)]) (ok := fun _ => True) (okp := fun _ => True) ?hr ?hp (fun _ hk => hk) trivial (Below.refl _ _) (Nat.le_refl _) (by simp) ?_; (case hd => rfl); (case hg => rfl); (case hr => first | (go_simp; done) | (go_simp; rfl)); (case hp => exact (Reps.one (show Kd.M (Kd.int .i64) _ _ _ (rd l1 x20_1) [.int .i64 (rd l1 x20_1)] from rfl) (Reps.none _ _)))
                 intro v205 w39 ho40 hb hg_ hnew_
                 clear hg_ hnew_
                 (first | rw [← Ny204.out] at ho40 | (simp only [Int.reduceToNat] at ho40; rw [← Ny204.out] at ho40))
                 have n0_ := Aside0.mk (Kd.R_elder' (by (with_reducible repeat (first | apply Kd.R_alloc | apply Kd.R_drewN | apply Kd.R_drew)); exact HO203.out) (Kd.R_base ho40) hb)
                 have n1_ := Aside0.mk (Kd.R_lower (Kd.R_new' ho40 (Kd.R_lt (by (with_reducible repeat (first | apply Kd.R_alloc | apply Kd.R_drewN | apply Kd.R_drew)); exact HO203.out))) (below_size hB))
                 have n2_ := hS HB hb
                 clear HO203
                 clear HB
                 have HO203 := n0_
                 have HO206 := n1_
                 have HB := n2_
                 clear n0_ n1_ n2_
                 clear hb ho40
                 refine hK.out _ _ trivial (fun hHeld => ?_)
                 clear hK K
                 refine norm_ (a' := ?_) ?_ ?_
                 rotate_left
                 ·show Act.put _ (some 54) _ = _
                  simp only [Act.put, List.setIfInBounds_toArray, List.set_cons_zero, List.set_cons_succ, i64_w, i32_w]
                  rfl
                 exact norm_ (by simp only [putAll, Act.put, List.setIfInBounds_toArray, List.set_cons_zero, List.set_cons_succ]) (hCont (v202, v205) _ ⟨(by (with_reducible repeat (first | apply Kd.R_alloc | apply Kd.R_drewN | apply Kd.R_drew)); exact Kd.R_mono HO203.out (fun _ hk => hk.2)), (by (with_reducible repeat (first | apply Kd.R_alloc | apply Kd.R_drewN | apply Kd.R_drew)); exact Kd.R_mono HO206.out (fun _ hk => hk.2)), hB⟩)
                ·skip
                 refine Kd.R_lit_step (Kd.int .i64) _ 3 ?hg (N := 54) ?hd (xs := ([(rd l1 x20_1)] : List Int)) (inner := [.int .i64 (rd l1 x20_1)]) (ok := fun _ => True) (okp := fun _ => True) ?hr ?hp (fun _ hk => hk) trivial (Below.refl _ _) (Nat.le_refl _) (by simp) ?_; (case hd => rfl); (case hg => rfl); (case hr => first | (go_simp; done) | (go_simp; rfl)); (case hp => exact (Reps.one (show Kd.M (Kd.int .i64) _ _ _ (rd l1 x20_1) [.int .i64 (rd l1 x20_1)] from rfl) (Reps.none _ _)))
                 intro v205 w38 ho39 hb hg_ hnew_
                 clear hg_ hnew_
                 (first | rw [← Ny204.out] at ho39 | (simp only [Int.reduceToNat] at ho39; rw [← Ny204.out] at ho39))
                 have n0_ := Aside0.mk (Kd.R_lower ho39 (below_size hB))
                 have n1_ := hS HB hb
                 clear HB
                 have HO206 := n0_
                 have HB := n1_
                 clear n0_ n1_
                 clear hb ho39
                 refine hK.out _ _ trivial (fun hHeld => ?_)
                 clear hK K
                 refine norm_ (a' := ?_) ?_ ?_
                 rotate_left
                 ·show Act.put _ (some 54) _ = _
                  simp only [Act.put, List.setIfInBounds_toArray, List.set_cons_zero, List.set_cons_succ, i64_w, i32_w]
                  rfl
                 refine one_ (i := 8) (N := some 52) (bz 17 30719) rfl rfl (one_of HT_.out (by kernel_rfl)) (by decide) (fun K hK => ?_)
                 refine goes_ Tryd.func119 (by kernel_rfl) rfl #[.slice A2 l2.length c2] (by rfl) rfl rfl mapT ?_
                 with_reducible refine (spec_l1Own.calls _ _ l2 t201 _ ?side1 ?side2 A22.out).mono ?_
                 (case side1 => repeat (first | exact (Kd.C_below HR2.out HB.out) | (with_reducible refine Kd.C_alloc ?_ _) | (with_reducible refine Kd.C_drewN ?_ _) | (with_reducible refine Kd.C_drew ?_)))
                 (case side2 => exact HC2.out)
                 rintro e w40 ⟨v202, rfl, ho0, hb⟩
                 refine ⟨_, rfl, ?_⟩
                 have n0_ := Aside0.mk (Kd.R_elder' (by (with_reducible repeat (first | apply Kd.R_alloc | apply Kd.R_drewN | apply Kd.R_drew)); exact HO206.out) (Kd.R_base ho0) hb)
                 have n1_ := Aside0.mk (Kd.R_lower (Kd.R_new' ho0 (Kd.R_lt (by (with_reducible repeat (first | apply Kd.R_alloc | apply Kd.R_drewN | apply Kd.R_drew)); exact HO206.out))) (below_size hB))
                 have n2_ := hS HB hb
                 clear HO206
                 clear HB
                 have HO206 := n0_
                 have HO203 := n1_
                 have HB := n2_
                 clear n0_ n1_ n2_
                 (try clear hb)
                 (try clear hb2)
                 (try clear hk)
                 (try clear hi)
                 (try clear ho0)
                 refine hK.out _ _ trivial (fun hHeld => ?_)
                 clear hK K
                 refine norm_ (a' := ?_) ?_ ?_
                 rotate_left
                 ·show Act.put _ (some 52) _ = _
                  simp only [Act.put, List.setIfInBounds_toArray, List.set_cons_zero, List.set_cons_succ, i64_w, i32_w]
                  rfl
                 exact norm_ (by simp only [putAll, Act.put, List.setIfInBounds_toArray, List.set_cons_zero, List.set_cons_succ]) (hCont (v202, v205) _ ⟨(by (with_reducible repeat (first | apply Kd.R_alloc | apply Kd.R_drewN | apply Kd.R_drew)); exact Kd.R_mono HO203.out (fun _ hk => hk.2)), (by (with_reducible repeat (first | apply Kd.R_alloc | apply Kd.R_drewN | apply Kd.R_drew)); exact Kd.R_mono HO206.out (fun _ hk => hk.2)), hB⟩)
               rintro ⟨v202, v205⟩ w41 ⟨h0_, h1_, h2_⟩
               have n0_ : Aside0 (Kd.R (Kd.int .i64) 3 w41 w.heap.size (fun k_ => some k_ ≠ (v205 : Value).ownBlock) v202 t201) := ⟨h0_⟩
               have n1_ : Aside0 (Kd.R (Kd.int .i64) 3 w41 w.heap.size (fun k_ => some k_ ≠ (v202 : Value).ownBlock) v205 y204) := ⟨h1_⟩
               have n2_ : Aside0 (Below w.heap.size w w41) := ⟨h2_⟩
               clear HB
               clear h0_ h1_ h2_
               have HO203 := n0_
               have HO206 := n1_
               have HB := n2_
               clear n0_ n1_ n2_
               have hHeld := trivial
               obtain ⟨Ao43, co43, eo43⟩ := Kd.R_slice HO206.out
               (first | subst eo43 | (injection eo43 with f1_ f2_ f3_; have f4_ := f1_.symm; have f5_ := f3_.symm; clear f1_ f2_ f3_; subst f4_; subst f5_))
               refine norm_ (a' := ?_) ?_ ?_
               rotate_left
               ·simp only [putAll, Act.put, List.setIfInBounds_toArray, List.set_cons_zero, List.set_cons_succ]
                rfl
               refine one_ (i := 11) (N := some 55) (bz 17 32767) rfl rfl (one_of HT_.out (by kernel_rfl)) (by decide) (fun K hK => ?_)
               refine Kd.R_append_rows_step (Kd.int .i64) (w0 := w) w.heap.size (by rfl) (.tmp 52) (.tmp 54) 81 3 (.int .i64 0) 8 rfl Tryd.underlying81 info3 rfl (by decide) (by omega) v202 t201 y204 _ _ _ (fun k_ => some k_ ≠ (.slice Ao43 y204.length co43 : Value).ownBlock) (fun _ => False) rfl rfl ?aO ?aR (fun _ _ h => h) (fun _ h => h.elim) ?aF ?aB ?aS ?aL ?_
               (case aR => repeat (first | exact (Kd.R_reads' HO206.out).2.2 | (with_reducible refine Kd.C_alloc ?_ _) | (with_reducible refine Kd.C_drewN ?_ _) | (with_reducible refine Kd.C_drew ?_)))
               (case aB => exact hB)
               (case aF => exact (fun k_ hk => Kd.fresh' (Kd.R_lt (by (with_reducible repeat (first | apply Kd.R_alloc | apply Kd.R_drewN | apply Kd.R_drew)); exact HO206.out)) k_ hk))
               (case aO => exact (by (with_reducible repeat (first | apply Kd.R_alloc | apply Kd.R_drewN | apply Kd.R_drew)); exact HO203.out))
               (case aS => exact (below_size hB))
               (case aL => have := LMc23.out; omega)
               intro v208 w42 ho hb hg hat
               rw [← Ny207.out] at ho
               have n0_ := Aside0.mk (Kd.R_after (ok := (fun _ => True)) (by (with_reducible repeat (first | apply Kd.R_alloc | apply Kd.R_drewN | apply Kd.R_drew)); exact Kd.R_mono HO206.out (fun _ hk => ⟨trivial, hk⟩)) hg hat)
               have n1_ := Aside0.mk (hb)
               have n2_ := Aside0.mk (ho)
               clear HO206
               clear HB
               clear HO203
               have HO206 := n0_
               have HB := n1_
               have HO209 := n2_
               clear n0_ n1_ n2_
               clear ho hb hg hat
               obtain ⟨Ao44, co44, eo44⟩ := Kd.R_slice HO209.out
               (first | subst eo44 | (injection eo44 with f1_ f2_ f3_; have f4_ := f1_.symm; have f5_ := f3_.symm; clear f1_ f2_ f3_; subst f4_; subst f5_))
               refine hK.out _ _ trivial (fun hHeld => ?_)
               clear hK K
               refine norm_ (a' := ?_) ?_ ?_
               rotate_left
               ·show Act.put _ (some 55) _ = _
                simp only [Act.put, List.setIfInBounds_toArray, List.set_cons_zero, List.set_cons_succ, i64_w, i32_w]
                rfl
               refine one_ (i := 15) (N := some 59) (bz 17 65535) rfl rfl (one_of HT_.out (by kernel_rfl)) (by decide) (fun K hK => ?_)
               refine goes_ Tryd.func124 (by kernel_rfl) rfl #[.slice A0 l0.length c0, .slice A37 (l1.drop ((ji19) : Int).toNat).length (c1 - (ji19).toNat), .slice Ao44 y207.length co44, .int .i64 (wrap64 (a3 - 1)), .bool a4] (by rfl) rfl rfl (by (try simp only [List.map_toArray, List.map_cons, List.map_nil]); first | done | (rw [show (l1.drop ((ji19) : Int).toNat).length = (l1.length - (ji19).toNat) from List.length_drop] <;> rfl) | (simp only [hji19]; rfl) | rfl | (simp only [List.length_drop, List.length_take]; rfl)) ?_
               with_reducible refine (ih k2 (by have := HK1.out; have := HK2.out; omega) _ _ l0 _ _ (l1.drop ((ji19) : Int).toNat) _ _ y207 (wrap64 (a3 - 1)) a4 false _ ?side1 ?side2 ?side3 ?side4 ?side5 ?side6 A24.out).mono ?_
               (case side1 => repeat (first | exact (Kd.C_below HR0.out HB.out) | (with_reducible refine Kd.C_alloc ?_ _) | (with_reducible refine Kd.C_drewN ?_ _) | (with_reducible refine Kd.C_drew ?_)))
               (case side2 => exact HC0.out)
               (case side3 => repeat (first | exact (Kd.C_below HR200.out HB.out) | (with_reducible refine Kd.C_alloc ?_ _) | (with_reducible refine Kd.C_drewN ?_ _) | (with_reducible refine Kd.C_drew ?_)))
               (case side4 => exact HC200.out)
               (case side5 => repeat (first | exact (Kd.R_reads' HO209.out).2.2 | (with_reducible refine Kd.C_alloc ?_ _) | (with_reducible refine Kd.C_drewN ?_ _) | (with_reducible refine Kd.C_drew ?_)))
               (case side6 => exact (Kd.R_reads' HO209.out).2.1)
               rintro e w45 ⟨rfl, hb⟩
               refine ⟨_, rfl, ?_⟩
               have n0_ := Aside0.mk (Kd.R_below (by (with_reducible repeat (first | apply Kd.R_alloc | apply Kd.R_drewN | apply Kd.R_drew)); exact HO206.out) hb)
               have n1_ := Aside0.mk (Kd.R_below (by (with_reducible repeat (first | apply Kd.R_alloc | apply Kd.R_drewN | apply Kd.R_drew)); exact HO209.out) hb)
               have n2_ := hS HB hb
               clear HO206
               clear HO209
               clear HB
               have HO206 := n0_
               have HO209 := n1_
               have HB := n2_
               clear n0_ n1_ n2_
               (try clear hb)
               (try clear hb2)
               (try clear hk)
               (try clear hi)
               refine hK.out _ _ trivial (fun hHeld => ?_)
               clear hK K
               refine norm_ (a' := ?_) ?_ ?_
               rotate_left
               ·show Act.put _ (some 59) _ = _
                simp only [Act.put, List.setIfInBounds_toArray, List.set_cons_zero, List.set_cons_succ, i64_w, i32_w]
                rfl
               refine run_ [(0, 16, 131071, some 60)] ?_
               repeat ((apply tag0; refine run_p (v := ?_) (a' := ?_) rfl rfl (any_of HT_.out (by kernel_rfl)) (fun _ _ _ h => h) (by rfl) ?_ ?_ ?_; rotate_left 2; (intro w'; go_simp; with_reducible rfl); (first | (simp only [Act.put, List.setIfInBounds_toArray, List.set_cons_zero, List.set_cons_succ, i64_w, i32_w]; rfl) | rfl)))
               refine run_nil ?_
               refine done_ (done_of HT_.out (by kernel_rfl)) ?_
               try go_wp2
               go_roundg k2
               case measure => have := HK1.out; have := HK2.out; omega
               case rel => exact ⟨(ji19), (by first | rfl | (simp; done) | (simp only [← hji19] <;> (first | rfl | simp)) | (simp [*]; done)), H', ⟨by have := HK1.out; have := HK2.out; omega⟩, ⟨hB⟩⟩
             ·rw [if_neg c23] at H
              exact absurd H (by simp)
            ·rw [if_neg c21] at H
             exact absurd H (by simp)
           ·rw [if_neg c20] at H
            exact absurd H (by simp)
          ·replace c18 := Bool.eq_false_iff.mpr c18
           subst c18
           have H1 : (spec_trMade.l0 k2 l0 l1 l2 a3 a4 l1 (l1.length : Int) (wrap64 (x20_1 + 1))) = some r := by rw [if_neg (show ¬ (false = true) by decide)] at H; exact H
           clear H
           have H := H1
           clear H1
           have H' := Aside0.mk H
           clear H
           try go_wp2
           have n0_ := Aside0.mk (below_drew1 HB.out)
           clear HB
           have HB := n0_
           clear n0_
           refine start_ (n := 17) (S := fun w' => True) (ds := []) (bz 17 0) (by kernel_rfl) rfl rfl trivial (fun hHeld => ?_); refine with_tabW spec_trMade.tab12 spec_trMade.bits12 (fun HT_ HW_ => ?_)
           generalize wr.drew = w46 at HB hHeld ⊢
           refine run_ [(0, 0, 1, some 44), (0, 1, 3, some 45), (2, 2, 7, some 46), (2, 3, 15, some 47), (2, 4, 31, some 48), (2, 5, 63, some 49), (2, 6, 127, some 50), (2, 7, 255, some 51), (2, 8, 511, some 52), (2, 9, 1023, some 53), (2, 10, 2047, some 54), (2, 11, 4095, some 55), (2, 12, 8191, some 56), (2, 13, 16383, some 57), (2, 14, 32767, some 58), (2, 15, 65535, some 59), (0, 16, 131071, some 60)] ?_
           repeat (first | (apply tag0; refine run_p (v := ?_) (a' := ?_) rfl rfl (any_of HT_.out (by kernel_rfl)) (fun _ _ _ h => h) (by rfl) ?_ ?_ ?_; rotate_left 2; (intro w'; go_simp; with_reducible rfl); (first | (simp only [Act.put, List.setIfInBounds_toArray, List.set_cons_zero, List.set_cons_succ, i64_w, i32_w]; rfl) | rfl)) | (apply tag2; refine run_o (a' := ?_) rfl rfl (any_of HT_.out (by kernel_rfl)) (fun _ _ _ h => h) (by rfl) ?_ ?_; rotate_left; (first | (simp only [Act.put, List.setIfInBounds_toArray, List.set_cons_zero, List.set_cons_succ, i64_w, i32_w]; rfl) | rfl)))
           refine run_nil ?_
           refine done_ (done_of HT_.out (by kernel_rfl)) ?_
           try go_wp2
           go_roundg k2
           case measure => have := HK1.out; have := HK2.out; omega
           case rel => exact ⟨(wrap64 (x20_1 + 1)), (by first | rfl | (simp; done) | (simp [*]; done)), H', ⟨by have := HK1.out; have := HK2.out; omega⟩, ⟨hB⟩⟩
      ·rw [if_neg c9] at H
       exact absurd H (by simp)
     ·rw [if_neg c8] at H
      exact absurd H (by simp)
    ·rw [if_neg c7] at H
     have c7b0 : decide (x20_1 < (l1.length : Int)) = false := decide_eq_false c7
     clear c7
     obtain rfl := Option.some.inj H
     go_wp2
     go_ret
     exact ⟨by first | rfl | (simp [errW_none, errW_some] <;> rfl) | (simp [*, errW_none, errW_some] <;> rfl), hB⟩

end Go.Proofs.YtomlbbnoicpfpaaDoor.PFnExactFirstNeither
