-- Of this session's own program wip/gen/gen.py (it drives the kit's print): contracts of the functions that the law reaches.
import Derived.Test.YtjpfbkkikcpmhaaDoorPFnExactFirstPairingx0
namespace Go.Proofs.YtjpfbkkikcpmhaaDoor.PFnExactFirstPairing
open Go.RowKit Go.Proofs.YtjpfbkkikcpmhaaDoorW.PrintWords Go.Proofs.YtjpfbkkikcpmhaaDoorW.PrintLast Go.Proofs.YtjpfbkkikcpmhaaDoorW.PrintMore Go.Proofs.YtjpfbkkikcpmhaaDoor.Base
attribute [local go_sem] max2_int min2_int max_two min_two max_three min_three max_four min_four   -- for this text's walks alone
set_option linter.unusedVariables false
set_option linter.unusedSimpArgs false

/-! ### spec_paTable: function 54 -/
mutual
def spec_paTable.l0 : Nat → List (List Bool) → Int → Int → List (S105) → Option ((List (List Bool)))
 | 0, _, _, _, _ => none
 | k + 1, x3, x4, x144000, x144001 => if x4 < x144000 then (if 0 ≤ x144000 then (if (x144000 : Int).toNat ≤ 281474976710656 then (if x3.length < 5864062014805 then (spec_paTable.l0 k (x3 ++ [(List.replicate (x144000 : Int).toNat false)]) (wrap64 (x4 + 1)) x144000 x144001) else (none)) else (none)) else (none)) else (spec_paTable.l1 k x3 x144001 (x144001.length : Int) 0)
def spec_paTable.l1 : Nat → List (List Bool) → List (S105) → Int → Int → Option ((List (List Bool)))
 | 0, _, _, _, _ => none
 | k + 1, x3, x20, x21, x22 => if x22 < x21 then (if 0 ≤ x22 then (if x22 < (x20.length : Int) then (if 0 ≤ ((rd_T105 x20 x22).f0) then (if ((rd_T105 x20 x22).f0) < (x3.length : Int) then (if 0 ≤ ((rd_T105 x20 x22).f1) then (if ((rd_T105 x20 x22).f1) < ((rd_L4 x3 ((rd_T105 x20 x22).f0)).length : Int) then ((some (x3.set (((rd_T105 x20 x22).f0) : Int).toNat ((rd_L4 x3 ((rd_T105 x20 x22).f0)).set (((rd_T105 x20 x22).f1) : Int).toNat true) : List (List Bool))).bind fun y155 => (if ((rd_T105 x20 x22).f1) < (x3.length : Int) then (if ((rd_T105 x20 x22).f0) < ((rd_L4 y155 ((rd_T105 x20 x22).f1)).length : Int) then (spec_paTable.l1 k (y155.set (((rd_T105 x20 x22).f1) : Int).toNat ((rd_L4 y155 ((rd_T105 x20 x22).f1)).set (((rd_T105 x20 x22).f0) : Int).toNat true)) x20 x21 (wrap64 (x22 + 1))) else (none)) else (none))) else (none)) else (none)) else (none)) else (none)) else (none)) else (none)) else (some x3)
end
def spec_paTable.f (k : Nat) (a0_0 : Int) (l0_1 : List (S105)) : Option ((List (List Bool))) := spec_paTable.l0 k ([] : List (List Bool)) 0 a0_0 l0_1
theorem spec_paTable.mono_l : ∀ k, (∀ y0 y1 y2 y3, LeO (spec_paTable.l0 k y0 y1 y2 y3) (spec_paTable.l0 (k + 1) y0 y1 y2 y3)) ∧ (∀ y0 y1 y2 y3, LeO (spec_paTable.l1 k y0 y1 y2 y3) (spec_paTable.l1 (k + 1) y0 y1 y2 y3))
 | 0 => ⟨fun _ _ _ _ r h => by simp [spec_paTable.l0] at h, fun _ _ _ _ r h => by simp [spec_paTable.l1] at h⟩
 | k + 1 => by
  obtain ⟨ih0, ih1⟩ := spec_paTable.mono_l k
  refine ⟨?_, ?_⟩
  ·intro y0 y1 y2 y3
   unfold spec_paTable.l0
   repeat' first
   | (with_reducible exact ih0 _ _ _ _)
   | (with_reducible exact ih1 _ _ _ _)
   | (with_reducible exact LeO.refl _)
   | (with_reducible exact LeO.none _)
   | (with_reducible refine LeO.ite ?_ ?_)
   | (with_reducible refine LeO.bind ?_ (fun _ => ?_))
   | exact ih0 _ _ _ _
   | exact ih1 _ _ _ _
   | exact LeO.none _
   | refine LeO.ite ?_ ?_
   | refine LeO.bind ?_ (fun _ => ?_)
  ·intro y0 y1 y2 y3
   unfold spec_paTable.l1
   repeat' first
   | (with_reducible exact ih0 _ _ _ _)
   | (with_reducible exact ih1 _ _ _ _)
   | (with_reducible exact LeO.refl _)
   | (with_reducible exact LeO.none _)
   | (with_reducible refine LeO.ite ?_ ?_)
   | (with_reducible refine LeO.bind ?_ (fun _ => ?_))
   | exact ih0 _ _ _ _
   | exact ih1 _ _ _ _
   | exact LeO.none _
   | refine LeO.ite ?_ ?_
   | refine LeO.bind ?_ (fun _ => ?_)
theorem spec_paTable.mono : ∀ a0 a1 k, LeO (spec_paTable.f k a0 a1) (spec_paTable.f (k + 1) a0 a1) := by
 intro a0 a1 k
 obtain ⟨ih0, ih1⟩ := spec_paTable.mono_l k
 unfold spec_paTable.f
 repeat' first
   | (with_reducible exact ih0 _ _ _ _)
   | (with_reducible exact ih1 _ _ _ _)
   | (with_reducible exact LeO.refl _)
   | (with_reducible exact LeO.none _)
   | (with_reducible refine LeO.ite ?_ ?_)
   | (with_reducible refine LeO.bind ?_ (fun _ => ?_))
   | exact ih0 _ _ _ _
   | exact ih1 _ _ _ _
   | exact LeO.none _
   | refine LeO.ite ?_ ?_
   | refine LeO.bind ?_ (fun _ => ?_)
def spec_paTable.T9 : Bool × List (List Nat × List Nat) := (true, [([], []), ([], []), ([1], [1]), ([0, 2], [0, 2]), ([3], [3]), ([], []), ([5], [5]), ([4, 6, 0, 1, 2, 3, 4, 5, 6], [4, 6]), ([7, 0, 1, 2, 3, 4, 5, 6], [7])])
def spec_paTable.B9 : List Nat := [0, 0, 2, 7, 15, 0, 32, 127, 255]
theorem spec_paTable.tab9 : rtab .any (opsOf Tryd.f54 9) = spec_paTable.T9 := by kernel_rfl
theorem spec_paTable.bits9 : waitsOk spec_paTable.T9.2 spec_paTable.B9 = true := by kernel_rfl
def spec_paTable.T10 : Bool × List (List Nat × List Nat) := (true, [([], []), ([], []), ([1], [1]), ([0, 2], [0, 2]), ([3], [3]), ([], []), ([5], [5]), ([4, 6, 0, 1, 2, 3, 4, 5, 6], [4, 6]), ([7, 0, 1, 2, 3, 4, 5, 6], [7])])
def spec_paTable.B10 : List Nat := [0, 0, 2, 7, 15, 0, 32, 127, 255]
theorem spec_paTable.tab10 : rtab .any (opsOf Tryd.f54 10) = spec_paTable.T10 := by kernel_rfl
theorem spec_paTable.bits10 : waitsOk spec_paTable.T10.2 spec_paTable.B10 = true := by kernel_rfl
set_option maxHeartbeats 8000000 in
set_option maxRecDepth 100000 in
theorem spec_paTable.calls (k : Nat) (a0_0 : Int) (A0_1 : Option Addr) (c0_1 : Nat) (l0_1 : List (S105)) (r : List (List Bool)) (w : World) (hr0_1 : Kd.C k105 w A0_1 l0_1.length l0_1) (hc0_1 : l0_1.length ≤ c0_1) (h : spec_paTable.f k a0_0 l0_1 = some r) :
  Calls Tryd.prog 54 #[.agg #[.int .i64 a0_0, .slice A0_1 l0_1.length c0_1]] w fun e w' => ∃ v0_ : Value, e = .returned (v0_) ∧ Kd.S (Kd.slice 4 Kd.bool) 72 w' w.heap.size (fun _ => True) v0_ r ∧ Below w.heap.size w w' := by
 have hu33 := Tryd.underlying33
 have hu105 := Tryd.underlying105
 have HR0_1 := Aside0.mk hr0_1
 have HC0_1 := Aside0.mk hc0_1
 clear hr0_1 hc0_1
 have HB := Aside0.mk (Below.refl w.heap.size w)
 have H : (spec_paTable.l0 k ([] : List (List Bool)) 0 a0_0 l0_1) = some r := h
 clear h
 have H' := Aside0.mk H
 clear H
 go_enter Tryd.func54, Tryd.ntmps54
 go_wp2_with (first | ((with_reducible refine gate_dst (N := 1) rfl ?_); refine bxE 1 #[.int .i64 a0_0, .slice A0_1 l0_1.length c0_1] 33 rfl ?_; intro gb143 hg w2 hbox hb; have BK143 := Aside0.mk (hbox); have GW143 := gS HB hg; have GE143 := gS HB hg; replace HB := hS HB hb; clear hb hbox hg))
 go_loopg [3, 4] k (fun kq v3 v4 w' => ∃ (x3_1 : List (List Bool)) (x4_1 : Int), v4 = .int .i64 x4_1 ∧ Aside0 (spec_paTable.l0 kq x3_1 x4_1 a0_0 l0_1 = some r) ∧ Aside0 (kq ≤ k) ∧ Aside0 (Kd.S (Kd.slice 4 Kd.bool) 72 w' w.heap.size (fun _ => True) v3 x3_1) ∧ Aside0 (w'.heap[gb143]? = some (.cells #[.int .i64 a0_0, (.slice A0_1 l0_1.length c0_1)] 33 (0, 0))) ∧ Aside0 (Below w.heap.size w w'))
 case atStart => exact ⟨(([] : List (List Bool))), (0), (by first | rfl | (simp; done) | (simp [*]; done)), H', ⟨Nat.le_refl _⟩, ⟨by first | exact Kd.S_nil _ _ _ _ _ | exact Kd.N_nil _ _ _ _ _ | exact Kd.V_nil _ _ _ _ _ | exact Kd.Q_nil _ _ _ _ _ | exact Kd.R_nil _ _ _ _ _⟩, ⟨bK⟩, ⟨hB⟩⟩
 case round =>
  clear H'
  try clear p2
  obtain ⟨x3_1, x4_1, rfl, HA, HK1, HO_3, BK143, HB⟩ := hrel
  cases gk with
  | zero => exact absurd HA.out (by simp [spec_paTable.l0])
  | succ k1 =>
   have H := HA.out
   clear HA
   simp only [spec_paTable.l0] at H
   by_cases c3 : x4_1 < a0_0
   ·rw [if_pos c3] at H
    have c3b0 : decide (x4_1 < a0_0) = true := decide_eq_true c3
    clear c3
    by_cases c4 : 0 ≤ a0_0
    ·rw [if_pos c4] at H
     have c4b0 := eq_true c4
     have c4b1 : decide (0 ≤ a0_0) = true := decide_eq_true c4
     clear c4
     by_cases c5 : (a0_0 : Int).toNat ≤ 281474976710656
     ·rw [if_pos c5] at H
      have c5b0 := eq_true c5
      have c5b1 : decide ((a0_0 : Int).toNat ≤ 281474976710656) = true := decide_eq_true c5
      clear c5
      obtain ⟨y144, hy144⟩ : ∃ y_ : List Bool, y_ = (List.replicate (a0_0 : Int).toNat false) := ⟨_, rfl⟩
      replace H : (if x3_1.length < 5864062014805 then (spec_paTable.l0 k1 (x3_1 ++ [y144]) (wrap64 (x4_1 + 1)) a0_0 l0_1) else (none)) = some r := by first | (rw [hy144]; with_reducible exact H) | (have H2_ := (Option.bind_some _ _).symm.trans H; rw [hy144]; with_reducible exact H2_) | (have H2_ := (Option.bind_some _ _).symm.trans H; with_reducible exact H2_) | with_reducible exact H | (rw [hy144]; exact H) | exact H
      have Ny144 := Aside0.mk hy144
      clear hy144
      by_cases c6 : x3_1.length < 5864062014805
      ·rw [if_pos c6] at H
       have LMc6 := Aside0.mk c6
       clear c6
       obtain ⟨y147, hy147⟩ : ∃ y_ : List (List Bool), y_ = (x3_1 ++ [y144]) := ⟨_, rfl⟩
       replace H : (spec_paTable.l0 k1 y147 (wrap64 (x4_1 + 1)) a0_0 l0_1) = some r := by first | (rw [hy147]; with_reducible exact H) | (have H2_ := (Option.bind_some _ _).symm.trans H; rw [hy147]; with_reducible exact H2_) | (have H2_ := (Option.bind_some _ _).symm.trans H; with_reducible exact H2_) | with_reducible exact H | (rw [hy147]; exact H) | exact H
       have Ny147 := Aside0.mk hy147
       clear hy147
       have H' := Aside0.mk H
       clear H
       have hcz7_0 := cz BK143 0
       have hcz7_1 := cz BK143 1
       have hfz7_0 := fz BK143 0
       have hfz7_1 := fz BK143 1
       go_wp2_with (first | ((with_reducible refine gate_dst (N := 16) rfl ?_); refine Kd.R_make Kd.bool _ 4 rfl (N := 16) rfl 72 _ _ rfl a0_0 rfl rfl Tryd.underlying72 (.bool false) 1 info4 rfl (by decide) (by omega) false (ok := fun _ => True) (okp := fun _ => True) rfl (fun _ hk => hk) trivial (of_decide_eq_true (by first | (with_reducible assumption) | assumption)) (Nat.le_trans (Nat.mul_le_mul_right _ (of_decide_eq_true (by first | (with_reducible assumption) | assumption) : a0_0.toNat ≤ 281474976710656)) (by omega)) (Below.refl _ _) (Nat.le_refl _) ?_; intro v145 w8 ho9 hb hg_ hnew_; clear hg_ hnew_; (first | rw [← Ny144.out] at ho9 | (simp only [Int.reduceToNat] at ho9; rw [← Ny144.out] at ho9)); have HO146 := Aside0.mk (Kd.R_lower ho9 (below_size hB)); replace HO_3 := Aside0.mk (Kd.S_elder' (sU HO_3) (Kd.R_base ho9) hb); replace BK143 := bS BK143 hb; replace HB := hS HB hb; clear hb ho9; obtain ⟨Ao11, co11, eo11⟩ := Kd.R_slice HO146.out; subst eo11) | ((with_reducible refine gate_builtin (b := .append) (xs := #[.tmp 13, .tmp 17]) rfl ?_); at_builtin; refine Kd.S_append (Kd.slice 4 Kd.bool) (w0 := w) w.heap.size rfl (.tmp 13) (.tmp 17) 73 72 (.slice none 0 0) 24 rfl Tryd.underlying73 info72 rfl (by decide) (by omega) u3 x3_1 y144 [.slice Ao11 y144.length co11] (fun _ => True) (fun k_ => some k_ = (.slice Ao11 y144.length co11 : Value).ownBlock) rfl rfl ?aP (fun k_ hk_ => ((Kd.R_mono (ok' := fun k_ => ((fun _ => True)) k_ ∧ some k_ ≠ (u3 : Value).ownBlock) (Kd.R_apart' (HO146.out) (Kd.S_typed HO_3.out) (by decide)) (fun k_ hk => ⟨trivial, hk.2⟩))).1 k_ hk_.symm) ?aF ?aO ?aB ?aS ?aL ?_; (case aP => exact Kd.M_row (Kd.R_mono (Kd.R_tight rfl (Kd.R_mono (ok' := fun k_ => ((fun _ => True)) k_ ∧ some k_ ≠ (u3 : Value).ownBlock) (Kd.R_apart' (HO146.out) (Kd.S_typed HO_3.out) (by decide)) (fun k_ hk => ⟨trivial, hk.2⟩))) (fun _ h_ => h_))); (case aB => exact hB); (case aF => exact (fun _ _ => trivial)); (case aO => exact (by (with_reducible repeat (first | apply Kd.S_alloc | apply Kd.S_drewN | apply Kd.S_drew)); exact Kd.S_mono HO_3.out (fun k_ hk => ⟨trivial, fun e_ => hk.2 e_⟩))); (case aS => exact (below_size hB)); (case aL => have := LMc6.out; omega); intro v148 w10 ho hb hg hat; rw [← Ny147.out] at ho; have HO149 := Aside0.mk (ho); replace BK143 := Aside0.mk (blk_grown (g := gb143) (o := .cells #[.int .i64 a0_0, .slice A0_1 l0_1.length c0_1] 33 (0, 0)) bK hg (Kd.S_ne HO_3.out BK143.out (by decide))); replace HB := Aside0.mk (hb); clear HO_3; clear HO146; clear ho hb hg hat))
       go_roundg k1
       case measure => have := HK1.out; omega
       case rel => exact ⟨(y147), (wrap64 (x4_1 + 1)), (by first | rfl | (simp; done) | (simp [*]; done)), H', ⟨by have := HK1.out; omega⟩, ⟨sU HO149⟩, ⟨bK⟩, ⟨hB⟩⟩
      ·rw [if_neg c6] at H
       exact absurd H (by simp)
     ·rw [if_neg c5] at H
      exact absurd H (by simp)
    ·rw [if_neg c4] at H
     exact absurd H (by simp)
   ·rw [if_neg c3] at H
    have c3b0 : decide (x4_1 < a0_0) = false := decide_eq_false c3
    clear c3
    have H' := Aside0.mk H
    clear H
    have hcz12_0 := cz BK143 0
    have hcz12_1 := cz BK143 1
    have hfz12_0 := fz BK143 0
    have hfz12_1 := fz BK143 1
    go_wp2
    go_loopg [22] k1 (fun kq v22 w' => ∃ (x3_2 : List (List Bool)) (x22_2 : Int), v22 = .int .i64 x22_2 ∧ Aside0 (spec_paTable.l1 kq x3_2 l0_1 (l0_1.length : Int) x22_2 = some r) ∧ Aside0 (kq ≤ k1) ∧ Aside0 (Kd.S (Kd.slice 4 Kd.bool) 72 w' w.heap.size (fun _ => True) u3 x3_2) ∧ Aside0 (w'.heap[gb143]? = some (.cells #[.int .i64 a0_0, (.slice A0_1 l0_1.length c0_1)] 33 (0, 0))) ∧ Aside0 (Below w.heap.size w w'))
    case atStart => exact ⟨(x3_1), (0), (by first | rfl | (simp; done) | (simp [*]; done)), H', ⟨Nat.le_refl _⟩, ⟨sU HO_3⟩, ⟨bK⟩, ⟨hB⟩⟩
    case round =>
     clear H'
     try clear p2
     try clear c3
     try clear c3b0
     try clear c4
     try clear c4b0
     try clear c4b1
     try clear c5
     try clear c5b0
     try clear c5b1
     try clear c6
     try clear p6
     try clear hcz12_0
     try clear hcz12_1
     try clear hcz7_0
     try clear hcz7_1
     try clear hfz12_0
     try clear hfz12_1
     try clear hfz7_0
     try clear hfz7_1
     try clear p2
     obtain ⟨x3_2, x22_2, rfl, HA, HK2, HO_3, BK143, HB⟩ := hrel
     cases gk with
     | zero => exact absurd HA.out (by simp [spec_paTable.l1])
     | succ k2 =>
      have H := HA.out
      clear HA
      simp only [spec_paTable.l1] at H
      by_cases c13 : x22_2 < (l0_1.length : Int)
      ·rw [if_pos c13] at H
       have c13b0 : decide (x22_2 < (l0_1.length : Int)) = true := decide_eq_true c13
       clear c13
       by_cases c14 : 0 ≤ x22_2
       ·rw [if_pos c14] at H
        have c14b0 : decide (0 ≤ x22_2) = true := decide_eq_true c14
        clear c14
        by_cases c15 : x22_2 < (l0_1.length : Int)
        ·rw [if_pos c15] at H
         have c15b0 : decide (x22_2 < (l0_1.length : Int)) = true := decide_eq_true c15
         clear c15
         by_cases c16 : 0 ≤ ((rd_T105 l0_1 x22_2).f0)
         ·rw [if_pos c16] at H
          have c16b0 : decide (0 ≤ ((rd_T105 l0_1 x22_2).f0)) = true := decide_eq_true c16
          clear c16
          by_cases c17 : ((rd_T105 l0_1 x22_2).f0) < (x3_2.length : Int)
          ·rw [if_pos c17] at H
           have c17b0 : decide (((rd_T105 l0_1 x22_2).f0) < (x3_2.length : Int)) = true := decide_eq_true c17
           clear c17
           by_cases c18 : 0 ≤ ((rd_T105 l0_1 x22_2).f1)
           ·rw [if_pos c18] at H
            have c18b0 : decide (0 ≤ ((rd_T105 l0_1 x22_2).f1)) = true := decide_eq_true c18
            clear c18
            by_cases c19 : ((rd_T105 l0_1 x22_2).f1) < ((rd_L4 x3_2 ((rd_T105 l0_1 x22_2).f0)).length : Int)
            ·rw [if_pos c19] at H
             have c19b0 : decide (((rd_T105 l0_1 x22_2).f1) < ((rd_L4 x3_2 ((rd_T105 l0_1 x22_2).f0)).length : Int)) = true := decide_eq_true c19
             clear c19
             obtain ⟨y153, hy153⟩ : ∃ y_ : List Bool, y_ = ((rd_L4 x3_2 ((rd_T105 l0_1 x22_2).f0)).set (((rd_T105 l0_1 x22_2).f1) : Int).toNat true) := ⟨_, rfl⟩
             replace H : ((some (x3_2.set (((rd_T105 l0_1 x22_2).f0) : Int).toNat y153 : List (List Bool))).bind fun y155 => (if ((rd_T105 l0_1 x22_2).f1) < (x3_2.length : Int) then (if ((rd_T105 l0_1 x22_2).f0) < ((rd_L4 y155 ((rd_T105 l0_1 x22_2).f1)).length : Int) then (spec_paTable.l1 k2 (y155.set (((rd_T105 l0_1 x22_2).f1) : Int).toNat ((rd_L4 y155 ((rd_T105 l0_1 x22_2).f1)).set (((rd_T105 l0_1 x22_2).f0) : Int).toNat true)) l0_1 (l0_1.length : Int) (wrap64 (x22_2 + 1))) else (none)) else (none))) = some r := by first | (rw [hy153]; with_reducible exact H) | (have H2_ := (Option.bind_some _ _).symm.trans H; rw [hy153]; with_reducible exact H2_) | (have H2_ := (Option.bind_some _ _).symm.trans H; with_reducible exact H2_) | with_reducible exact H | (rw [hy153]; exact H) | exact H
             have Ny153 := Aside0.mk hy153
             clear hy153
             obtain ⟨y155, hy155⟩ : ∃ y_ : List (List Bool), y_ = (x3_2.set (((rd_T105 l0_1 x22_2).f0) : Int).toNat y153) := ⟨_, rfl⟩
             replace H : (if ((rd_T105 l0_1 x22_2).f1) < (x3_2.length : Int) then (if ((rd_T105 l0_1 x22_2).f0) < ((rd_L4 y155 ((rd_T105 l0_1 x22_2).f1)).length : Int) then (spec_paTable.l1 k2 (y155.set (((rd_T105 l0_1 x22_2).f1) : Int).toNat ((rd_L4 y155 ((rd_T105 l0_1 x22_2).f1)).set (((rd_T105 l0_1 x22_2).f0) : Int).toNat true)) l0_1 (l0_1.length : Int) (wrap64 (x22_2 + 1))) else (none)) else (none)) = some r := by first | (rw [hy155]; with_reducible exact H) | (have H2_ := (Option.bind_some _ _).symm.trans H; rw [hy155]; with_reducible exact H2_) | (have H2_ := (Option.bind_some _ _).symm.trans H; with_reducible exact H2_) | with_reducible exact H | (rw [hy155]; exact H) | exact H
             have Ny155 := Aside0.mk hy155
             clear hy155
             by_cases c21 : ((rd_T105 l0_1 x22_2).f1) < (x3_2.length : Int)
             ·rw [if_pos c21] at H
              have c21b0 : decide (((rd_T105 l0_1 x22_2).f1) < (x3_2.length : Int)) = true := decide_eq_true c21
              clear c21
              by_cases c22 : ((rd_T105 l0_1 x22_2).f0) < ((rd_L4 y155 ((rd_T105 l0_1 x22_2).f1)).length : Int)
              ·rw [if_pos c22] at H
               have c22b0 : decide (((rd_T105 l0_1 x22_2).f0) < ((rd_L4 y155 ((rd_T105 l0_1 x22_2).f1)).length : Int)) = true := decide_eq_true c22
               clear c22
               obtain ⟨y157, hy157⟩ : ∃ y_ : List Bool, y_ = ((rd_L4 y155 ((rd_T105 l0_1 x22_2).f1)).set (((rd_T105 l0_1 x22_2).f0) : Int).toNat true) := ⟨_, rfl⟩
               replace H : (spec_paTable.l1 k2 (y155.set (((rd_T105 l0_1 x22_2).f1) : Int).toNat y157) l0_1 (l0_1.length : Int) (wrap64 (x22_2 + 1))) = some r := by first | (rw [hy157]; with_reducible exact H) | (have H2_ := (Option.bind_some _ _).symm.trans H; rw [hy157]; with_reducible exact H2_) | (have H2_ := (Option.bind_some _ _).symm.trans H; with_reducible exact H2_) | with_reducible exact H | (rw [hy157]; exact H) | exact H
               have Ny157 := Aside0.mk hy157
               clear hy157
               obtain ⟨y159, hy159⟩ : ∃ y_ : List (List Bool), y_ = (y155.set (((rd_T105 l0_1 x22_2).f1) : Int).toNat y157) := ⟨_, rfl⟩
               replace H : (spec_paTable.l1 k2 y159 l0_1 (l0_1.length : Int) (wrap64 (x22_2 + 1))) = some r := by first | (rw [hy159]; with_reducible exact H) | (have H2_ := (Option.bind_some _ _).symm.trans H; rw [hy159]; with_reducible exact H2_) | (have H2_ := (Option.bind_some _ _).symm.trans H; with_reducible exact H2_) | with_reducible exact H | (rw [hy159]; exact H) | exact H
               have Ny159 := Aside0.mk hy159
               clear hy159
               have H' := Aside0.mk H
               clear H
               have p150 : 0 ≤ (x22_2 : Int) := of_decide_eq_true (by first | (with_reducible assumption) | assumption)
               have q150 : x22_2 < (l0_1.length : Int) := of_decide_eq_true (by first | (with_reducible assumption) | assumption)
               obtain ⟨ad150, e150, hx150_0, hx150_1⟩ := at_T105 HR0_1.out x22_2 p150 q150
               cases e150
               replace hx150_0 := (HB.out.cell (World.block_lt_of_cell? w _ hx150_0)).trans hx150_0
               replace hx150_1 := (HB.out.cell (World.block_lt_of_cell? w _ hx150_1)).trans hx150_1
               replace p150 := eq_true p150
               replace q150 := eq_true q150
               try go_wp2_with (first | ((with_reducible refine gate_dst (N := 6) rfl ?_); refine bxE 6 #[.int .i64 0, .int .i64 0] 105 rfl ?_; intro gb151 hg w24 hbox hb; have BK151 := Aside0.mk (hbox); have GW151 := gS HB hg; have GE151 := gS HB hg; have NB143_151 := nL BK143 hg; have NB151_143 := nG BK143 hg; replace HO_3 := Aside0.mk (Kd.S_below (sU HO_3) hb); replace BK143 := bS BK143 hb; replace HB := hS HB hb; clear hb hbox hg; have hnb25 := NB151_143.out; have hnc25 := NB143_151.out; have hcz26_0 := cz BK151 0; have hcz26_1 := cz BK151 1; have hfz26_0 := fz BK151 0; have hfz26_1 := fz BK151 1))
               have n0_ : Aside0 (Kd.S (Kd.slice 4 Kd.bool) 72 ((w24.setCell ⟨gb151, 0, none⟩ (.int .i64 ((rd_T105 l0_1 x22_2).f0))).setCell ⟨gb151, 1, none⟩ (.int .i64 ((rd_T105 l0_1 x22_2).f1))) w.heap.size (fun _ => True) u3 x3_2) := ⟨by (with_reducible repeat (first | apply Kd.S_alloc | apply Kd.S_drewN | apply Kd.S_drew)); exact Kd.S_mono (Kd.S_far (p := ⟨gb151, 1, none⟩) (Kd.S_far (p := ⟨gb151, 0, none⟩) (Kd.S_types HO_3.out BK151.out (by decide)) (fun _ hk => hk.2) (.int .i64 ((rd_T105 l0_1 x22_2).f0))) (fun _ hk => hk.2) (.int .i64 ((rd_T105 l0_1 x22_2).f1))) (fun _ hk => trivial)⟩
               have n1_ : Aside0 (((w24.setCell ⟨gb151, 0, none⟩ (.int .i64 ((rd_T105 l0_1 x22_2).f0))).setCell ⟨gb151, 1, none⟩ (.int .i64 ((rd_T105 l0_1 x22_2).f1))).heap[gb143]? = some (.cells #[.int .i64 a0_0, .slice (some ad150) l0_1.length c0_1] 33 (0, 0))) := ⟨by (with_reducible repeat (first | refine blk_drewN ?_ _ | refine blk_drew ?_ | refine blk_alloc ?_ _)); refine blk_far ?_ NB143_151.out _; (with_reducible repeat (first | refine blk_drewN ?_ _ | refine blk_drew ?_ | refine blk_alloc ?_ _)); refine blk_far ?_ NB143_151.out _; (with_reducible repeat (first | refine blk_drewN ?_ _ | refine blk_drew ?_ | refine blk_alloc ?_ _)); exact BK143.out⟩
               have n2_ : Aside0 (((w24.setCell ⟨gb151, 0, none⟩ (.int .i64 ((rd_T105 l0_1 x22_2).f0))).setCell ⟨gb151, 1, none⟩ (.int .i64 ((rd_T105 l0_1 x22_2).f1))).heap[gb151]? = some (.cells #[.int .i64 ((rd_T105 l0_1 x22_2).f0), .int .i64 ((rd_T105 l0_1 x22_2).f1)] 105 (0, 0))) := ⟨by (with_reducible repeat (first | refine blk_drewN ?_ _ | refine blk_drew ?_ | refine blk_alloc ?_ _)); refine blk_put (cs := #[.int .i64 ((rd_T105 l0_1 x22_2).f0), .int .i64 0]) ?_ 1 _ rfl; (with_reducible repeat (first | refine blk_drewN ?_ _ | refine blk_drew ?_ | refine blk_alloc ?_ _)); refine blk_put (cs := #[.int .i64 0, .int .i64 0]) ?_ 0 _ rfl; (with_reducible repeat (first | refine blk_drewN ?_ _ | refine blk_drew ?_ | refine blk_alloc ?_ _)); exact BK151.out⟩
               have n3_ : Aside0 (Below w.heap.size w ((w24.setCell ⟨gb151, 0, none⟩ (.int .i64 ((rd_T105 l0_1 x22_2).f0))).setCell ⟨gb151, 1, none⟩ (.int .i64 ((rd_T105 l0_1 x22_2).f1)))) := ⟨hB⟩
               (try clear HO_3)
               (try clear BK143)
               (try clear BK151)
               (try clear HB)
               generalize ((w24.setCell ⟨gb151, 0, none⟩ (.int .i64 ((rd_T105 l0_1 x22_2).f0))).setCell ⟨gb151, 1, none⟩ (.int .i64 ((rd_T105 l0_1 x22_2).f1))) = w27 at n0_ n1_ n2_ n3_ ⊢
               have HO_3 := n0_
               have BK143 := n1_
               have BK151 := n2_
               have HB := n3_
               clear n0_ n1_ n2_ n3_
               replace HO_3 := Aside0.mk (Kd.S_drew HO_3.out)
               replace BK143 := Aside0.mk (blk_drew BK143.out)
               replace BK151 := Aside0.mk (blk_drew BK151.out)
               replace HB := Aside0.mk (below_drew1 HB.out)
               obtain ⟨Ao29, co29, eo29⟩ := Kd.S_slice HO_3.out
               (first | subst eo29 | (injection eo29 with f1_ f2_ f3_; have f4_ := f1_.symm; have f5_ := f3_.symm; clear f1_ f2_ f3_; subst f4_; subst f5_))
               have p152 : 0 ≤ (((rd_T105 l0_1 x22_2).f0) : Int) := of_decide_eq_true (by first | (with_reducible assumption) | assumption)
               have q152 : ((rd_T105 l0_1 x22_2).f0) < (x3_2.length : Int) := of_decide_eq_true (by first | (with_reducible assumption) | assumption)
               obtain ⟨ad152, A152_0, c152_0, e152, hx152_0, hl152_0, hi152_0⟩ := at_L4 (Kd.S_reads' HO_3.out).2.2 ((rd_T105 l0_1 x22_2).f0) p152 q152
               cases e152
               obtain ⟨ce152, hce152, hMe152, hcc152⟩ := Kd.S_get HO_3.out [] ((rd_T105 l0_1 x22_2).f0) p152 (by first | exact q152 | exact of_decide_eq_true (by first | (with_reducible assumption) | assumption) | (have e_ := (Kd.S_reads' HO_3.out).1; omega))
               obtain ⟨ve152_0, rfl, ge152_0⟩ := hMe152
               have hv152_0 := hcc152 0 _ rfl
               rw [Nat.add_zero, show ((Kd.slice 4 Kd.bool)).sz = 1 from rfl, Nat.mul_one] at hv152_0
               replace hv152_0 := Option.some.inj (hv152_0.symm.trans hx152_0)
               rw [hv152_0] at ge152_0
               have HL152_0 := Aside0.mk (show Kd.R Kd.bool 4 _ _ _ _ (rd_L4 x3_2 ((rd_T105 l0_1 x22_2).f0)) from ge152_0)
               clear hv152_0 ge152_0
               have HX152_0 := Aside0.mk hx152_0
               clear hcc152 hce152
               have HR152_0 := Aside0.mk hi152_0
               have HC152_0 := Aside0.mk hl152_0
               clear hi152_0 hl152_0
               replace p152 := eq_true p152
               replace q152 := eq_true q152
               have p20 : 0 ≤ (((rd_T105 l0_1 x22_2).f1) : Int) := of_decide_eq_true (by first | (with_reducible assumption) | assumption)
               have q20 : (((rd_T105 l0_1 x22_2).f1) : Int) < (((rd_L4 x3_2 ((rd_T105 l0_1 x22_2).f0)).length : Int) : Int) := of_decide_eq_true (by first | (with_reducible assumption) | assumption)
               obtain ⟨go20, co20, eo20, gb20, gl20, cl20, HG20⟩ := Kd.R_form HL152_0.out (by omega)
               (first | cases eo20 | (injection eo20 with ea_ en_ ec_; (first | subst ea_ | (injection ea_ with ea_; subst ea_)); subst ec_; clear en_))
               have GB20 := Aside0.mk gb20
               have GG20 := Aside0.mk HG20
               clear gb20 gl20 HG20
               obtain ⟨hx20_0, hf20_0⟩ := Kd.R_celln false HL152_0.out (((rd_T105 l0_1 x22_2).f1) : Int) p20 q20
               replace p20 := eq_true p20
               replace q20 := eq_true q20
               have hq30 : (((rd_T105 l0_1 x22_2).f0) : Int) < (x3_2.length : Int) := (by have h_ : (((rd_T105 l0_1 x22_2).f0) : Int) < ((x3_2.length : Int) : Int) := of_decide_eq_true (by first | (with_reducible assumption) | assumption); first | exact h_ | (have e_ := (Kd.S_reads' HO_3.out).1; omega) | simpa only [List.length_set, List.length_set] using h_)
               obtain ⟨oki30, ce30, hcl30, hM30, hcc30, hok30, hbk30⟩ := Kd.S_borrow HO_3.out [] (((rd_T105 l0_1 x22_2).f0) : Int) (of_decide_eq_true (by first | (with_reducible assumption) | assumption)) (by first | exact hq30 | exact of_decide_eq_true (by first | (with_reducible assumption) | assumption))
               obtain ⟨ve30_0, rfl, ge30_0⟩ := hM30
               have hv30 := hcc30 0 _ rfl
               rw [Nat.add_zero, show ((Kd.slice 4 Kd.bool)).sz = 1 from rfl, Nat.mul_one] at hv30
               replace hv30 := Option.some.inj (hv30.symm.trans HX152_0.out)
               subst hv30
               clear hcc30 hcl30
               replace ge30_0 := (show Kd.R Kd.bool 4 _ _ _ _ (rd_L4 x3_2 ((rd_T105 l0_1 x22_2).f0)) from ge30_0)
               have HP30 := Kd.R_putg ge30_0 (((rd_T105 l0_1 x22_2).f1) : Int) true
               rw [← Ny153.out] at HP30
               have HS30 := hbk30 HP30.2 (fun k_ e_ => by injection e_ with e_; subst e_; exact ge30_0.1 _ rfl) (x' := y153) (Kd.M_row HP30.1)
               rw [← Ny155.out] at HS30
               have HQ30 := Aside0.mk HS30
               clear HP30 HS30 hbk30 hok30
               refine start_ (n := 9) (S := fun w' => w'.cell? ⟨gb151, 0, none⟩ = some (.int .i64 ((rd_T105 l0_1 x22_2).f0)) ∧ w'.cell? ⟨gb151, 1, none⟩ = some (.int .i64 ((rd_T105 l0_1 x22_2).f1)) ∧ w'.cell? (ad152.add (((rd_T105 l0_1 x22_2).f0)).toNat) = some (.slice (some ⟨go20, 0, none⟩) (rd_L4 x3_2 ((rd_T105 l0_1 x22_2).f0)).length c152_0)) (ds := [8]) (bz 9 0) (by kernel_rfl) rfl rfl ⟨(blk_cell BK151.out 0).trans rfl, (blk_cell BK151.out 1).trans rfl, hx152_0⟩ (fun hHeld => ?_); refine with_tabW spec_paTable.tab9 spec_paTable.bits9 (fun HT_ HW_ => ?_)
               generalize w27.drew = w28 at HO_3 BK143 BK151 HB GG20 HL152_0 HQ30 HR152_0 HX152_0 hf20_0 hx152_0 hx20_0 hHeld ⊢
               refine run_ [(0, 0, 1, some 26), (0, 1, 3, some 27), (0, 5, 35, some 31), (1, 2, 39, some 28), (0, 3, 47, some 29), (1, 4, 63, some 30), (1, 6, 127, some 32), (0, 7, 255, some 33)] ?_
               repeat (first | (apply tag0; refine run_p (v := ?_) (a' := ?_) rfl rfl (any_of HT_.out (by kernel_rfl)) (fun _ _ _ h => h) (by rfl) ?_ ?_ ?_; rotate_left 2; (intro w'; go_simp; with_reducible rfl); (first | (simp only [Act.put, List.setIfInBounds_toArray, List.set_cons_zero, List.set_cons_succ, i64_w, i32_w]; rfl) | rfl)) | (apply tag1; refine run_t (v := ?_) (a' := ?_) rfl rfl (take_ofW HT_.out HW_.out (by kernel_rfl)) (fun _ _ _ h => h) (by rfl) ?_ hHeld ?_ ?_; rotate_left 2; (rintro w' ⟨s0, s1, s2⟩; go_simp; with_reducible rfl); (first | (simp only [Act.put, List.setIfInBounds_toArray, List.set_cons_zero, List.set_cons_succ, i64_w, i32_w]; rfl) | rfl)))
               refine run_nil ?_
               refine last_ (i := 8) (N := none) (bz 9 511) rfl rfl (one_of HT_.out (by kernel_rfl)) (by decide) (fun K hK => ?_)
               refine skip_ (w1 := ?_) (by rfl) rfl ?_ ?_
               rotate_left
               ·go_simp
                rfl
               refine hK.out _ _ ?_
               clear hK K
               refine done_ (done_of HT_.out (by kernel_rfl)) ?_
               try go_wp2
               have n0_ : Aside0 (Kd.S (Kd.slice 4 Kd.bool) 72 (w28.setCell ⟨go20, (((rd_T105 l0_1 x22_2).f1) : Int).toNat, none⟩ (.bool true)) w.heap.size (fun _ => True) (.slice (some ad152) x3_2.length co29) y155) := ⟨by (with_reducible repeat (first | apply Kd.S_alloc | apply Kd.S_drewN | apply Kd.S_drew)); exact HQ30.out⟩
               have n1_ : Aside0 ((w28.setCell ⟨go20, (((rd_T105 l0_1 x22_2).f1) : Int).toNat, none⟩ (.bool true)).heap[gb143]? = some (.cells #[.int .i64 a0_0, .slice (some ad150) l0_1.length c0_1] 33 (0, 0))) := ⟨by (with_reducible repeat (first | refine blk_drewN ?_ _ | refine blk_drew ?_ | refine blk_alloc ?_ _)); refine blk_far ?_ (by have h_ := Kd.R_ne HL152_0.out BK143.out (by decide); intro e_; exact h_ (by rw [e_]; rfl)) _; (with_reducible repeat (first | refine blk_drewN ?_ _ | refine blk_drew ?_ | refine blk_alloc ?_ _)); exact BK143.out⟩
               have n2_ : Aside0 ((w28.setCell ⟨go20, (((rd_T105 l0_1 x22_2).f1) : Int).toNat, none⟩ (.bool true)).heap[gb151]? = some (.cells #[.int .i64 ((rd_T105 l0_1 x22_2).f0), .int .i64 ((rd_T105 l0_1 x22_2).f1)] 105 (0, 0))) := ⟨by (with_reducible repeat (first | refine blk_drewN ?_ _ | refine blk_drew ?_ | refine blk_alloc ?_ _)); refine blk_far ?_ (by have h_ := Kd.R_ne HL152_0.out BK151.out (by decide); intro e_; exact h_ (by rw [e_]; rfl)) _; (with_reducible repeat (first | refine blk_drewN ?_ _ | refine blk_drew ?_ | refine blk_alloc ?_ _)); exact BK151.out⟩
               have n3_ : Aside0 (Below w.heap.size w (w28.setCell ⟨go20, (((rd_T105 l0_1 x22_2).f1) : Int).toNat, none⟩ (.bool true))) := ⟨by repeat (first | (with_reducible first | exact HB.out | apply below_alloc | apply pw_below_drewN | apply below_drew1 | refine below_set ?_ GB20.out | refine below_set ?_ GE143.out | refine below_set ?_ GE151.out) | exact HB.out)⟩
               (try clear HO_3)
               (try clear BK143)
               (try clear BK151)
               (try clear HB)
               generalize (w28.setCell ⟨go20, (((rd_T105 l0_1 x22_2).f1) : Int).toNat, none⟩ (.bool true)) = w32 at n0_ n1_ n2_ n3_ ⊢
               have HO_3 := n0_
               have BK143 := n1_
               have BK151 := n2_
               have HB := n3_
               clear n0_ n1_ n2_ n3_
               replace HO_3 := Aside0.mk (Kd.S_drew HO_3.out)
               replace BK143 := Aside0.mk (blk_drew BK143.out)
               replace BK151 := Aside0.mk (blk_drew BK151.out)
               replace HB := Aside0.mk (below_drew1 HB.out)
               have p156 : 0 ≤ (((rd_T105 l0_1 x22_2).f1) : Int) := of_decide_eq_true (by first | (with_reducible assumption) | assumption)
               have q156 : ((rd_T105 l0_1 x22_2).f1) < (y155.length : Int) := (by have h_ : (((rd_T105 l0_1 x22_2).f1) : Int) < ((x3_2.length : Int) : Int) := of_decide_eq_true (by first | (with_reducible assumption) | assumption); first | (have e_ := (Kd.S_reads' HO_3.out).1; omega) | simpa only [Ny155.out, List.length_set] using h_)
               have ql156 : ((((rd_T105 l0_1 x22_2).f1) : Int) < ((x3_2.length : Int) : Int)) = True := eq_true (of_decide_eq_true (by first | (with_reducible assumption) | assumption))
               obtain ⟨ad156, A156_0, c156_0, e156, hx156_0, hl156_0, hi156_0⟩ := at_L4 (Kd.S_reads' HO_3.out).2.2 ((rd_T105 l0_1 x22_2).f1) p156 q156
               obtain rfl : ad152 = ad156 := (by injection e156)
               obtain ⟨ce156, hce156, hMe156, hcc156⟩ := Kd.S_get HO_3.out [] ((rd_T105 l0_1 x22_2).f1) p156 (by first | exact q156 | exact of_decide_eq_true (by first | (with_reducible assumption) | assumption) | (have e_ := (Kd.S_reads' HO_3.out).1; omega))
               obtain ⟨ve156_0, rfl, ge156_0⟩ := hMe156
               have hv156_0 := hcc156 0 _ rfl
               rw [Nat.add_zero, show ((Kd.slice 4 Kd.bool)).sz = 1 from rfl, Nat.mul_one] at hv156_0
               replace hv156_0 := Option.some.inj (hv156_0.symm.trans hx156_0)
               rw [hv156_0] at ge156_0
               have HL156_0 := Aside0.mk (show Kd.R Kd.bool 4 _ _ _ _ (rd_L4 y155 ((rd_T105 l0_1 x22_2).f1)) from ge156_0)
               clear hv156_0 ge156_0
               have HX156_0 := Aside0.mk hx156_0
               clear hcc156 hce156
               have HR156_0 := Aside0.mk hi156_0
               have HC156_0 := Aside0.mk hl156_0
               clear hi156_0 hl156_0
               replace p156 := eq_true p156
               replace q156 := eq_true q156
               have p23 : 0 ≤ (((rd_T105 l0_1 x22_2).f0) : Int) := of_decide_eq_true (by first | (with_reducible assumption) | assumption)
               have q23 : (((rd_T105 l0_1 x22_2).f0) : Int) < (((rd_L4 y155 ((rd_T105 l0_1 x22_2).f1)).length : Int) : Int) := of_decide_eq_true (by first | (with_reducible assumption) | assumption)
               obtain ⟨go23, co23, eo23, gb23, gl23, cl23, HG23⟩ := Kd.R_form HL156_0.out (by omega)
               (first | cases eo23 | (injection eo23 with ea_ en_ ec_; (first | subst ea_ | (injection ea_ with ea_; subst ea_)); subst ec_; clear en_))
               have GB23 := Aside0.mk gb23
               have GG23 := Aside0.mk HG23
               clear gb23 gl23 HG23
               obtain ⟨hx23_0, hf23_0⟩ := Kd.R_celln false HL156_0.out (((rd_T105 l0_1 x22_2).f0) : Int) p23 q23
               replace p23 := eq_true p23
               replace q23 := eq_true q23
               have hq34 : (((rd_T105 l0_1 x22_2).f1) : Int) < (y155.length : Int) := (by have h_ : (((rd_T105 l0_1 x22_2).f1) : Int) < ((x3_2.length : Int) : Int) := of_decide_eq_true (by first | (with_reducible assumption) | assumption); first | exact h_ | (have e_ := (Kd.S_reads' HO_3.out).1; omega) | simpa only [Ny155.out, List.length_set] using h_)
               obtain ⟨oki34, ce34, hcl34, hM34, hcc34, hok34, hbk34⟩ := Kd.S_borrow HO_3.out [] (((rd_T105 l0_1 x22_2).f1) : Int) (of_decide_eq_true (by first | (with_reducible assumption) | assumption)) (by first | exact hq34 | exact of_decide_eq_true (by first | (with_reducible assumption) | assumption))
               obtain ⟨ve34_0, rfl, ge34_0⟩ := hM34
               have hv34 := hcc34 0 _ rfl
               rw [Nat.add_zero, show ((Kd.slice 4 Kd.bool)).sz = 1 from rfl, Nat.mul_one] at hv34
               replace hv34 := Option.some.inj (hv34.symm.trans HX156_0.out)
               subst hv34
               clear hcc34 hcl34
               replace ge34_0 := (show Kd.R Kd.bool 4 _ _ _ _ (rd_L4 y155 ((rd_T105 l0_1 x22_2).f1)) from ge34_0)
               have HP34 := Kd.R_putg ge34_0 (((rd_T105 l0_1 x22_2).f0) : Int) true
               rw [← Ny157.out] at HP34
               have HS34 := hbk34 HP34.2 (fun k_ e_ => by injection e_ with e_; subst e_; exact ge34_0.1 _ rfl) (x' := y157) (Kd.M_row HP34.1)
               rw [← Ny159.out] at HS34
               have HQ34 := Aside0.mk HS34
               clear HP34 HS34 hbk34 hok34
               refine start_ (n := 9) (S := fun w' => w'.cell? ⟨gb151, 0, none⟩ = some (.int .i64 ((rd_T105 l0_1 x22_2).f0)) ∧ w'.cell? ⟨gb151, 1, none⟩ = some (.int .i64 ((rd_T105 l0_1 x22_2).f1)) ∧ w'.cell? (ad152.add (((rd_T105 l0_1 x22_2).f1)).toNat) = some (.slice (some ⟨go23, 0, none⟩) (rd_L4 y155 ((rd_T105 l0_1 x22_2).f1)).length c156_0)) (ds := [8]) (bz 9 0) (by kernel_rfl) rfl rfl ⟨(blk_cell BK151.out 0).trans rfl, (blk_cell BK151.out 1).trans rfl, hx156_0⟩ (fun hHeld => ?_); refine with_tabW spec_paTable.tab10 spec_paTable.bits10 (fun HT_ HW_ => ?_)
               generalize w32.drew = w33 at HO_3 BK143 BK151 HB GG23 HL156_0 HQ30 HQ34 HR156_0 HX156_0 hf23_0 hx156_0 hx23_0 hHeld ⊢
               refine run_ [(0, 0, 1, some 34), (0, 1, 3, some 35), (0, 5, 35, some 39), (1, 2, 39, some 36), (0, 3, 47, some 37), (1, 4, 63, some 38), (1, 6, 127, some 40), (0, 7, 255, some 41)] ?_
               repeat (first | (apply tag0; refine run_p (v := ?_) (a' := ?_) rfl rfl (any_of HT_.out (by kernel_rfl)) (fun _ _ _ h => h) (by rfl) ?_ ?_ ?_; rotate_left 2; (intro w'; go_simp; with_reducible rfl); (first | (simp only [Act.put, List.setIfInBounds_toArray, List.set_cons_zero, List.set_cons_succ, i64_w, i32_w]; rfl) | rfl)) | (apply tag1; refine run_t (v := ?_) (a' := ?_) rfl rfl (take_ofW HT_.out HW_.out (by kernel_rfl)) (fun _ _ _ h => h) (by rfl) ?_ hHeld ?_ ?_; rotate_left 2; (rintro w' ⟨s0, s1, s2⟩; go_simp; with_reducible rfl); (first | (simp only [Act.put, List.setIfInBounds_toArray, List.set_cons_zero, List.set_cons_succ, i64_w, i32_w]; rfl) | rfl)))
               refine run_nil ?_
               refine last_ (i := 8) (N := none) (bz 9 511) rfl rfl (one_of HT_.out (by kernel_rfl)) (by decide) (fun K hK => ?_)
               refine skip_ (w1 := ?_) (by rfl) rfl ?_ ?_
               rotate_left
               ·go_simp
                rfl
               refine hK.out _ _ ?_
               clear hK K
               refine done_ (done_of HT_.out (by kernel_rfl)) ?_
               try go_wp2
               go_roundg k2
               case measure => have := HK1.out; have := HK2.out; omega
               case rel => exact ⟨(y159), (wrap64 (x22_2 + 1)), (by first | rfl | (simp; done) | (simp [*]; done)), H', ⟨by have := HK1.out; have := HK2.out; omega⟩, ⟨by (with_reducible repeat (first | apply Kd.S_alloc | apply Kd.S_drewN | apply Kd.S_drew)); exact HQ34.out⟩, ⟨by (with_reducible repeat (first | refine blk_drewN ?_ _ | refine blk_drew ?_ | refine blk_alloc ?_ _)); refine blk_far ?_ (by have h_ := Kd.R_ne HL156_0.out BK143.out (by decide); intro e_; exact h_ (by rw [e_]; rfl)) _; (with_reducible repeat (first | refine blk_drewN ?_ _ | refine blk_drew ?_ | refine blk_alloc ?_ _)); exact BK143.out⟩, ⟨by repeat (first | (with_reducible first | exact HB.out | apply below_alloc | apply pw_below_drewN | apply below_drew1 | refine below_set ?_ GB23.out | refine below_set ?_ GE143.out | refine below_set ?_ GE151.out) | exact HB.out)⟩⟩
              ·rw [if_neg c22] at H
               exact absurd H (by simp)
             ·rw [if_neg c21] at H
              exact absurd H (by simp)
            ·rw [if_neg c19] at H
             exact absurd H (by simp)
           ·rw [if_neg c18] at H
            exact absurd H (by simp)
          ·rw [if_neg c17] at H
           exact absurd H (by simp)
         ·rw [if_neg c16] at H
          exact absurd H (by simp)
        ·rw [if_neg c15] at H
         exact absurd H (by simp)
       ·rw [if_neg c14] at H
        exact absurd H (by simp)
      ·rw [if_neg c13] at H
       have c13b0 : decide (x22_2 < (l0_1.length : Int)) = false := decide_eq_false c13
       clear c13
       obtain rfl := Option.some.inj H
       go_wp2
       go_ret
       exact ⟨_, by first | rfl | (simp [errW_none, errW_some] <;> rfl) | (simp [*, errW_none, errW_some] <;> rfl), sU HO_3, hB⟩

/-! ### spec_taPair: function 118 (a text of this session's own) -/

/-- The first person of a list from one on who is in no pair yet. -/
def spec_taPair.la : Nat → Nat → List Bool → Int → Option Int
 | 0, _, _, _ => none
 | k + 1, n, d, x => if x < (n : Int) then (if 0 ≤ x then (if rdOf false d x = true then spec_taPair.la k n d (wrap64 (x + 1)) else some x) else none) else (if x = (n : Int) then some x else none)
mutual
/-- The round over those whom person a can be paired with. -/
def spec_taPair.l1 : Nat → Nat → List (List Bool) → List Bool → List S105 → Int → Int → Int → List S105 → Option (List Bool × Int × List S105)
 | 0, _, _, _, _, _, _, _, _ => none
 | k + 1, n, t, d, ps, a, b, c, F => if b < (n : Int) then (if 0 ≤ b then (if a < (t.length : Int) then (if b < ((t.getD a.toNat []).length : Int) then (if rdOf false (t.getD a.toNat []) b = true then (if rdOf false d b = true then spec_taPair.l1 k n t d ps a (wrap64 (b + 1)) c F else (if ps.length < 8796093022206 then ((spec_taPair.f k n t (d.set b.toNat true) (ps ++ [⟨a, b⟩]) c F).bind fun r => spec_taPair.l1 k n t (r.1.set b.toNat false) ps a (wrap64 (b + 1)) r.2.1 r.2.2) else none)) else spec_taPair.l1 k n t d ps a (wrap64 (b + 1)) c F) else none) else none) else none) else some (d.set a.toNat false, c, F)
def spec_taPair.f : Nat → Nat → List (List Bool) → List Bool → List S105 → Int → List S105 → Option (List Bool × Int × List S105)
 | 0, _, _, _, _, _, _ => none
 | k + 1, n, t, d, ps, c, F => (spec_taPair.la k n d 0).bind fun a => if a = (n : Int) then (if c = 0 then (if ps.length < 8796093022206 then some (d, wrap64 (c + 1), ps) else none) else some (d, wrap64 (c + 1), F)) else spec_taPair.l1 k n t (d.set a.toNat true) ps a (wrap64 (a + 1)) c F
end
theorem spec_taPair.mono_a : ∀ k, (∀ y0 y1 y2, LeO (spec_taPair.la k y0 y1 y2) (spec_taPair.la (k + 1) y0 y1 y2))
 | 0 => fun _ _ _ r h => by simp [spec_taPair.la] at h
 | k + 1 => by
  have ih0 := spec_taPair.mono_a k
  intro y0 y1 y2
  unfold spec_taPair.la
  repeat' first
    | (with_reducible exact ih0 _ _ _)
    | (with_reducible exact LeO.refl _)
    | (with_reducible exact LeO.none _)
    | (with_reducible refine LeO.ite ?_ ?_)
theorem spec_taPair.mono_l : ∀ k, (∀ y0 y1 y2 y3 y4 y5 y6 y7, LeO (spec_taPair.l1 k y0 y1 y2 y3 y4 y5 y6 y7) (spec_taPair.l1 (k + 1) y0 y1 y2 y3 y4 y5 y6 y7)) ∧ (∀ y0 y1 y2 y3 y4 y5, LeO (spec_taPair.f k y0 y1 y2 y3 y4 y5) (spec_taPair.f (k + 1) y0 y1 y2 y3 y4 y5))
 | 0 => ⟨fun _ _ _ _ _ _ _ _ r h => by simp [spec_taPair.l1] at h, fun _ _ _ _ _ _ r h => by simp [spec_taPair.f] at h⟩
 | k + 1 => by
  obtain ⟨ih0, ih1⟩ := spec_taPair.mono_l k
  refine ⟨?_, ?_⟩
  · intro y0 y1 y2 y3 y4 y5 y6 y7
    unfold spec_taPair.l1
    repeat' first
      | (with_reducible exact ih0 _ _ _ _ _ _ _ _)
      | (with_reducible exact ih1 _ _ _ _ _ _)
      | (with_reducible exact LeO.refl _)
      | (with_reducible exact LeO.none _)
      | (with_reducible refine LeO.ite ?_ ?_)
      | (with_reducible refine LeO.bind ?_ (fun _ => ?_))
  · intro y0 y1 y2 y3 y4 y5
    unfold spec_taPair.f
    repeat' first
      | (with_reducible exact ih0 _ _ _ _ _ _ _ _)
      | (with_reducible exact spec_taPair.mono_a _ _ _ _)
      | (with_reducible exact LeO.refl _)
      | (with_reducible exact LeO.none _)
      | (with_reducible refine LeO.ite ?_ ?_)
      | (with_reducible refine LeO.bind ?_ (fun _ => ?_))
/-- What a call leaves: who is in a pair, the count and the first one in their places, and all else that lay there. -/
structure spec_taPair.St (w : World) (base bc bf : Nat) (vd : Value) (w' : World) (d : List Bool) (c : Int) (F : List S105) : Prop where
  cnt : w'.heap[bc]? = some (.cells #[.int .i64 c] 3 (0, 0))
  fst : ∃ v, w'.heap[bf]? = some (.cells #[v] 31 (0, 0)) ∧ Kd.R k105 105 w' base (fun k => k ≠ bc ∧ k ≠ bf ∧ some k ≠ vd.ownBlock) v F
  don : Kd.R Kd.bool 4 w' base (fun k => k ≠ bc ∧ k ≠ bf) vd d
  below : Below base w w'
  keep : ∀ k, (k ≠ bc ∧ k ≠ bf ∧ some k ≠ vd.ownBlock) → k < w.heap.size → w'.heap[k]? = w.heap[k]?
section
variable {w w' w'' : World} {base bc bf gd n cd : Nat} {vd : Value} {d d' : List Bool} {c c' : Int} {F F' : List S105}
theorem spec_taPair.St.foot {α : Type} {dk : Kd α} {A : Option Addr} {m : Nat} {xs : List α} (s : spec_taPair.St w base bc bf vd w' d c F) (h : Kd.F dk w (fun k => k ≠ bc ∧ k ≠ bf ∧ some k ≠ vd.ownBlock) A m xs) : Kd.F dk w' (fun k => k ≠ bc ∧ k ≠ bf ∧ some k ≠ vd.ownBlock) A m xs :=
  Kd.F_mono (Kd.F_step (Kd.F_bound h) (fun k hk hlt => s.keep k hk.1 hlt)) (fun _ hk => hk.1)
theorem spec_taPair.St.later (s : spec_taPair.St w base bc bf vd w' d c F) (hbase : base ≤ w.heap.size) (hb : Below w'.heap.size w' w'') : spec_taPair.St w base bc bf vd w'' d c F := by
  obtain ⟨v, hv, hr⟩ := s.fst
  exact ⟨blk_below s.cnt hb, ⟨v, blk_below hv hb, Kd.R_below hr hb⟩, Kd.R_below s.don hb, below_then s.below (Nat.le_trans hbase s.below.size) hb, fun k hk hl => (hb.block k (Nat.lt_of_lt_of_le hl s.below.size)).trans (s.keep k hk hl)⟩
theorem spec_taPair.St.self (s : spec_taPair.St w base bc bf vd w' d c F) : spec_taPair.St w' base bc bf vd w' d c F := ⟨s.cnt, s.fst, s.don, Below.refl _ _, fun _ _ _ => rfl⟩
theorem spec_taPair.St.trans (s : spec_taPair.St w base bc bf vd w' d c F) (u : spec_taPair.St w' base bc bf vd w'' d' c' F') : spec_taPair.St w base bc bf vd w'' d' c' F' :=
  ⟨u.cnt, u.fst, u.don, s.below.trans u.below, fun k hk hl => (u.keep k hk (Nat.lt_of_lt_of_le hl s.below.size)).trans (s.keep k hk hl)⟩
theorem spec_taPair.St.inc (s : spec_taPair.St w base bc bf vd w' d c F) (hb : base ≤ bc) (hn : bc ≠ bf) (c2 : Int) : spec_taPair.St w base bc bf vd (w'.setCell ⟨bc, 0, none⟩ (.int .i64 c2)) d c2 F := by
  obtain ⟨v, hv, hr⟩ := s.fst
  exact ⟨blk_set s.cnt 0 _, ⟨v, blk_far hv (p := ⟨bc, 0, none⟩) (Ne.symm hn) _, Kd.R_far hr (fun k hk => hk.1) _⟩, Kd.R_far s.don (fun k hk => hk.1) _, s.below.setCell hb _, fun k hk hl => (Below.heap_setCell w' ⟨bc, 0, none⟩ _ k hk.1).trans (s.keep k hk hl)⟩
theorem spec_taPair.St.put (s : spec_taPair.St w base bc bf vd w' d c F) (hb : base ≤ bf) (hn : bc ≠ bf) {u : Value} (hu : Kd.R k105 105 w' base (fun k => k ≠ bc ∧ k ≠ bf ∧ some k ≠ vd.ownBlock) u F') : spec_taPair.St w base bc bf vd (w'.setCell ⟨bf, 0, none⟩ u) d c F' := by
  obtain ⟨v, hv, hr⟩ := s.fst
  exact ⟨blk_far s.cnt (p := ⟨bf, 0, none⟩) hn _, ⟨u, blk_set hv 0 _, Kd.R_far hu (fun k hk => hk.2.1) _⟩, Kd.R_far s.don (fun k hk => hk.2) _, s.below.setCell hb _, fun k hk hl => (Below.heap_setCell w' ⟨bf, 0, none⟩ _ k hk.2.1).trans (s.keep k hk hl)⟩
theorem spec_taPair.St.mark (s : spec_taPair.St w base bc bf (.slice (some ⟨gd, 0, none⟩) n cd) w' d c F) (i : Int) (b : Bool) : spec_taPair.St w base bc bf (.slice (some ⟨gd, 0, none⟩) n cd) (w'.setCell ⟨gd, i.toNat, none⟩ (.bool b)) (d.set i.toNat b) c F := by
  obtain ⟨v, hv, hr⟩ := s.fst
  have ho : (Value.slice (some ⟨gd, 0, none⟩) n cd).ownBlock = some gd := by simp [Value.ownBlock]
  have hg := s.don.1 gd ho
  exact ⟨blk_far s.cnt (p := ⟨gd, i.toNat, none⟩) (Ne.symm hg.1) _, ⟨v, blk_far hv (p := ⟨gd, i.toNat, none⟩) (Ne.symm hg.2) _, Kd.R_far hr (fun k hk he => hk.2.2 (by rw [ho, he])) _⟩, (Kd.R_putg s.don i b).1, s.below.setCell (Kd.R_base s.don gd ho) _, fun k hk hl => (Below.heap_setCell w' ⟨gd, i.toNat, none⟩ _ k (fun he => hk.2.2 (by rw [ho, he]))).trans (s.keep k hk hl)⟩
theorem spec_taPair.St.drewN (s : spec_taPair.St w base bc bf vd w' d c F) (hbase : base ≤ w.heap.size) (m : Nat) : spec_taPair.St w base bc bf vd (w'.drewN m) d c F := s.later hbase (pw_below_drewN (Below.refl _ _) m)
theorem spec_taPair.St.lts (s : spec_taPair.St w base bc bf vd w' d c F) : bc < w'.heap.size ∧ bf < w'.heap.size ∧ ∀ k, vd.ownBlock = some k → k < w'.heap.size := by
  obtain ⟨v, hv, _⟩ := s.fst
  exact ⟨blk_lt s.cnt, blk_lt hv, Kd.R_lt s.don⟩
end
set_option maxHeartbeats 16000000 in
set_option maxRecDepth 100000 in
theorem spec_taPair.calls : ∀ (k n : Nat) (A0 : Option Addr) (c0 : Nat) (l0 : List (List Bool)) (Ad : Option Addr) (cd : Nat) (d : List Bool) (A2 : Option Addr) (c2 : Nat) (l2 : List S105) (bc bf : Nat) (c : Int) (F : List S105) (r1 : List Bool) (r2 : Int) (r3 : List S105) (w : World) (base : Nat)
    (_h0 : Kd.F (Kd.slice 4 Kd.bool) w (fun k => k ≠ bc ∧ k ≠ bf ∧ some k ≠ (Value.slice Ad n cd).ownBlock) A0 l0.length l0) (_hc0 : l0.length ≤ c0) (_h2 : Kd.F k105 w (fun k => k ≠ bc ∧ k ≠ bf ∧ some k ≠ (Value.slice Ad n cd).ownBlock) A2 l2.length l2) (_hc2 : l2.length ≤ c2)
    (_hS : spec_taPair.St w base bc bf (.slice Ad n cd) w d c F) (_hbb : base ≤ bc ∧ base ≤ bf ∧ bc ≠ bf) (_hbase : base ≤ w.heap.size) (_h : spec_taPair.f k n l0 d l2 c F = some (r1, r2, r3)),
    Calls Tryd.prog 118 #[.slice A0 l0.length c0, .slice Ad n cd, .slice A2 l2.length c2, .pointer (some ⟨bc, 0, none⟩), .pointer (some ⟨bf, 0, none⟩)] w fun e w' => e = .returned (.tuple #[]) ∧ spec_taPair.St w base bc bf (.slice Ad n cd) w' r1 r2 r3 := by
  intro k
  induction k using Nat.strongRecOn with
  | ind k ih =>
    intro n A0 c0 l0 Ad cd d A2 c2 l2 bc bf c F r1 r2 r3 w base h0 hc0 h2 hc2 hS hbb hbase h
    cases k with
    | zero => simp [spec_taPair.f] at h
    | succ k =>
      simp only [spec_taPair.f] at h
      replace h := Option.bind_eq_some_iff.mp h
      obtain ⟨a, ha, h⟩ := h
      have HS := Aside0.mk hS
      have H0 := Aside0.mk h0
      have H2 := Aside0.mk h2
      have HA0 := Aside0.mk ha
      have HL := Aside0.mk h
      have HBB := Aside0.mk hbb
      have HLEN := Aside0.mk (Kd.R_reads' hS.don).1
      have hn1 := hbb.2.2
      have hn2 := Ne.symm hbb.2.2
      clear hS h0 h2 ha h hbb
      go_enter Tryd.func118, Tryd.ntmps118
      go_wp2
      go_loopg [10] k (fun kq v10 w' => ∃ (x : Int), v10 = .int .i64 x ∧ Aside0 (spec_taPair.la kq n d x = some a) ∧ Aside0 (kq ≤ k) ∧ Drawn0 w w')
      case atStart => exact ⟨0, rfl, HA0, ⟨Nat.le_refl _⟩, by repeat (first | exact Drawn0.refl _ | apply Drawn0.step)⟩
      case round =>
        obtain ⟨x, rfl, HA, HK1, ⟨m1, rfl⟩⟩ := hrel
        clear HA0
        cases gk with
        | zero => exact absurd HA.out (by simp [spec_taPair.la])
        | succ k1 =>
          have H := HA.out
          clear HA
          simp only [spec_taPair.la] at H
          by_cases cx : x < (n : Int)
          · rw [if_pos cx] at H
            by_cases cx0 : 0 ≤ x
            · rw [if_pos cx0] at H
              have hpos : 0 < d.length := by have := HLEN.out; omega
              obtain ⟨gd, cd', ed, hbd, hld, cells, hcell⟩ := Kd.R_form HS.out.don hpos
              injection ed with ea en ec
              subst ea
              subst ec
              clear en cells hcell hpos
              obtain ⟨bx, hbx⟩ : ∃ b_ : Bool, b_ = rdOf false d x := ⟨_, rfl⟩
              rw [← hbx] at H
              have HS1 := Aside0.mk (HS.out.drewN hbase m1)
              obtain ⟨hx0, hxf⟩ := Kd.R_celln false HS.out.don x cx0 cx
              rw [← hbx] at hx0
              have cxb : decide (x < (n : Int)) = true := decide_eq_true cx
              cases bx with
              | true =>
                rw [if_pos rfl] at H
                have HN := Aside0.mk H
                clear H hbx
                replace cx := eq_true cx
                replace cx0 := eq_true cx0
                go_wp2
                go_roundg k1
                case measure => have := HK1.out; omega
                case rel => exact ⟨wrap64 (x + 1), by first | rfl | (simp; done), HN, ⟨by have := HK1.out; omega⟩, by repeat (first | exact Drawn0.refl _ | apply Drawn0.step)⟩
              | false =>
                rw [if_neg (by simp)] at H
                obtain rfl := Option.some.inj H
                have h := HL.out
                rw [if_neg (by omega)] at h
                have HL1 := Aside0.mk h
                have cxe : (x == (n : Int)) = false := beq_eq_false_iff_ne.mpr (by omega)
                clear H h hbx HL
                have CX := Aside0.mk (And.intro cx0 cx)
                replace cx := eq_true cx
                replace cx0 := eq_true cx0
                generalize hw1 : w.drewN m1 = w1 at HS1
                have hx0' : w1.cell? ⟨gd, x.toNat, none⟩ = some (.bool false) := by rw [← hw1]; simpa using hx0
                have hxf' : w1.frozen? ⟨gd, x.toNat, none⟩ = false := by rw [← hw1]; simpa using hxf
                go_wp2_with ((with_reducible refine gate_store (t := 4) (p := 44) rfl ?_); refine store_event (t := 4) (p := 44) (v := ?vo44) (w1 := (w1.setCell ⟨gd, (x : Int).toNat, none⟩ (.bool true))) ?hg44 ?ho44 ?hn44 ?hr44 ?_; (case ho44 => rfl); (case hg44 => rfl); (case hn44 => rfl); (case hr44 => first | (go_simp; done) | (go_simp; rfl)); intro w2 hw; have HS2 := Aside0.mk (show spec_taPair.St w base bc bf (.slice (some ⟨gd, 0, none⟩) n cd) w2 _ _ _ from (by rw [hw]; exact HS1.out.mark x true)); clear hw; clear hx0' hxf' hx0 hxf)
                have HL2 := HL1
                clear HL1
                go_loopg [11] k (fun kq v11 W => ∃ (y : Int) (d1 : List Bool) (y2 : Int) (F1 : List S105), v11 = .int .i64 y ∧ Aside0 (spec_taPair.l1 kq n l0 d1 l2 x y y2 F1 = some (r1, r2, r3)) ∧ Aside0 (kq ≤ k) ∧ Aside0 (spec_taPair.St w base bc bf (.slice (some ⟨gd, 0, none⟩) n cd) W d1 y2 F1))
                case atStart => exact ⟨_, _, _, _, rfl, HL2, ⟨Nat.le_refl _⟩, HS2⟩
                case round =>
                  obtain ⟨y, d1, y2, F1, rfl, HA, HK2, HS4⟩ := hrel
                  cases gk with
                  | zero => exact absurd HA.out (by simp [spec_taPair.l1])
                  | succ k2 =>
                    have H := HA.out
                    clear HA HS2 HL2
                    simp only [spec_taPair.l1] at H
                    by_cases d1_ : y < (n : Int)
                    · rw [if_pos d1_] at H
                      by_cases d2_ : 0 ≤ y
                      · rw [if_pos d2_] at H
                        by_cases d3_ : x < (l0.length : Int)
                        · rw [if_pos d3_] at H
                          obtain ⟨L, hL⟩ : ∃ L_, L_ = l0.getD x.toNat [] := ⟨_, rfl⟩
                          rw [← hL] at H
                          by_cases d4_ : y < (L.length : Int)
                          · rw [if_pos d4_] at H
                            obtain ⟨ad0, cs0, e0, hcl0, hFK0, hcell0, hok0⟩ := Kd.F_get (HS4.out.foot H0.out) [] x CX.out.1 d3_
                            rw [← hL] at hFK0
                            obtain ⟨Ar, cr, rfl, hlr, hFr⟩ := Kd.FK_slice_open hFK0
                            subst e0
                            have hxr : wr.cell? (ad0.add x.toNat) = some (.slice Ar L.length cr) := by have := hcell0 0 _ rfl; rwa [show x.toNat * (Kd.slice 4 Kd.bool).sz + 0 = x.toNat from Nat.mul_one _] at this
                            obtain ⟨ad5, e5, hx5⟩ := Kd.at_bool (Kd.F_now hFr) y d2_ d4_
                            subst e5
                            obtain ⟨bt, hbt⟩ : ∃ b_ : Bool, b_ = rdOf false L y := ⟨_, rfl⟩
                            rw [← hbt] at H hx5
                            obtain ⟨hy0, hyf⟩ := Kd.R_celln false HS4.out.don y d2_ d1_
                            obtain ⟨bd, hbd5⟩ : ∃ b_ : Bool, b_ = rdOf false d1 y := ⟨_, rfl⟩
                            rw [← hbd5] at H hy0
                            have d1b : decide (y < (n : Int)) = true := decide_eq_true d1_
                            replace d1_ := eq_true d1_
                            replace d2_ := eq_true d2_
                            replace d3_ := eq_true d3_
                            replace d4_ := eq_true d4_
                            clear hL hcl0 hFK0 hcell0 hok0 hlr hFr hbt hbd5
                            cases bt with
                            | false =>
                              rw [if_neg (by simp)] at H
                              have HN := Aside0.mk H
                              clear H
                              go_wp2
                              go_roundg k2
                              case measure => have := HK2.out; omega
                              case rel => exact ⟨_, _, _, _, by first | rfl | (simp; done), HN, ⟨by have := HK2.out; omega⟩, ⟨by with_reducible repeat (first | exact HS4.out | apply spec_taPair.St.drewN (hbase := hbase))⟩⟩
                            | true =>
                              rw [if_pos rfl] at H
                              cases bd with
                              | true =>
                                rw [if_pos rfl] at H
                                have HN := Aside0.mk H
                                clear H
                                go_wp2
                                go_roundg k2
                                case measure => have := HK2.out; omega
                                case rel => exact ⟨_, _, _, _, by first | rfl | (simp; done), HN, ⟨by have := HK2.out; omega⟩, ⟨by with_reducible repeat (first | exact HS4.out | apply spec_taPair.St.drewN (hbase := hbase))⟩⟩
                              | false =>
                                rw [if_neg (by simp)] at H
                                by_cases hl : l2.length < 8796093022206
                                · rw [if_pos hl] at H
                                  replace H := Option.bind_eq_some_iff.mp H
                                  obtain ⟨⟨q1, q2, q3⟩, hq, H⟩ := H
                                  obtain ⟨y9, hy9⟩ : ∃ y_ : List S105, y_ = l2 ++ [⟨x, y⟩] := ⟨_, rfl⟩
                                  rw [← hy9] at hq
                                  have NY := Aside0.mk hy9
                                  have HQ := Aside0.mk hq
                                  have HN := Aside0.mk H
                                  have LX := Aside0.mk hl
                                  clear hl hq H hy9
                                  go_wp2_with (first
                                    | ((with_reducible refine gate_store (t := 4) (p := 69) rfl ?_); refine store_event (t := 4) (p := 69) (v := ?vo69) (w1 := (wr.setCell ⟨gd, (y : Int).toNat, none⟩ (.bool true))) ?hg69 ?ho69 ?hn69 ?hr69 ?_; (case ho69 => rfl); (case hg69 => rfl); (case hn69 => rfl); (case hr69 => first | (go_simp; done) | (go_simp; rfl)); intro w3 hw; have HS5 := Aside0.mk (show spec_taPair.St w base bc bf (.slice (some ⟨gd, 0, none⟩) n cd) w3 _ _ _ from (by rw [hw]; exact HS4.out.mark y true)); clear hw; have F2 := Aside0.mk (HS5.out.foot H2.out); have F0 := Aside0.mk (HS5.out.foot H0.out); clear hy0 hyf hxr hx5)
                                    | ((with_reducible refine gate_dst (N := 72) rfl ?_); refine Kd.R_lit k105 (w0 := w3) w3.heap.size 105 ?hg (N := 72) ?hd (xs := ([] : List S105)) (inner := []) (ok := fun k_ => w3.heap.size ≤ k_) (okp := fun _ => False) ?hr ?hp (fun _ hk => hk.elim) (Nat.le_refl _) (Below.refl _ _) (Nat.le_refl _) (by simp) ?_; (case hd => rfl); (case hg => rfl); (case hr => first | (go_simp; done) | (go_simp; rfl)); (case hp => exact (Reps.none _ _)); intro v_HO3 w4 ho hb hg_ hnew_; clear hg_ hnew_; have HO3 := Aside0.mk ho; have HB3 := Aside0.mk hb; clear ho hb)
                                    | ((with_reducible refine gate_builtin (b := .append) (xs := #[.tmp 72, .tmp 73]) rfl ?_); at_builtin; refine Kd.R_append_rows k105 (Rr := Kd.K k105 w4) (w0 := w3) w3.heap.size rfl (.tmp 72) (.tmp 73) 31 105 (.agg #[(.int .i64 0), (.int .i64 0)]) 16 rfl Tryd.underlying31 info105 rfl (by decide) (by omega) v_HO3 [] l2 _ _ _ (fun k_ => w3.heap.size ≤ k_) (fun _ => False) rfl rfl ?aO72 ?aR72 (fun x_ cs_ h => by rw [k105_open h]; exact k105_mkM _ _ _ x_) (fun _ h => h.elim) ?aF72 ?aB72 ?aS72 ?aL72 ?_; (case aR72 => exact Kd.C_below (Kd.F_now F2.out) HB3.out); (case aB72 => exact HB3.out); (case aF72 => exact fun k_ hk => Nat.le_trans HB3.out.size hk); (case aO72 => exact HO3.out); (case aS72 => exact HB3.out.size); (case aL72 => have := LX.out; simp only [List.length_nil]; omega); intro v_HO5 w5 ho hb hg hat; have HO5 := Aside0.mk ho; have HB5 := Aside0.mk hb; clear ho hb hg hat; skip)
                                    | ((with_reducible refine gate_builtin (b := .append) (xs := #[.tmp 74, .tmp 78]) rfl ?_); at_builtin; refine Kd.R_append k105 (w0 := w3) w3.heap.size rfl (.tmp 74) (.tmp 78) 31 105 (.agg #[(.int .i64 0), (.int .i64 0)]) 16 rfl Tryd.underlying31 info105 rfl (by decide) (by omega) v_HO5 l2 (⟨x, y⟩ : S105) [.int .i64 x, .int .i64 y] (fun k_ => w3.heap.size ≤ k_) (fun _ => False) rfl rfl ?bP (fun _ hk => hk.elim) ?bF ?bO ?bB ?bS ?bL ?_; (case bP => exact k105_mkM _ _ _ _); (case bB => exact HB5.out); (case bF => exact fun k_ hk => Nat.le_trans HB5.out.size hk); (case bO => exact HO5.out); (case bS => exact HB5.out.size); (case bL => have := LX.out; omega); intro v6 w6 ho hb hg hat; rw [← NY.out] at ho; have HO6 := Aside0.mk ho; have HB6 := Aside0.mk hb; clear ho hb hg hat; obtain ⟨A6, c6, rfl⟩ := Kd.R_slice HO6.out)
                                    | (go_at_call 118; refine (ih k2 (by have := HK2.out; omega) n (some ad0) c0 l0 (some ⟨gd, 0, none⟩) cd (d1.set y.toNat true) A6 c6 y9 bc bf y2 F1 q1 q2 q3 w6 base (Kd.F_below F0.out HB6.out) hc0 (Kd.R_F (Kd.R_mono HO6.out (fun k_ hk => (by have := HS5.out.lts; exact ⟨by omega, by omega, fun he => by have := this.2.2 k_ he.symm; omega⟩)))) (Kd.R_reads' HO6.out).2.1 (HS5.out.later hbase HB6.out).self HBB.out (Nat.le_trans hbase (HS5.out.later hbase HB6.out).below.size) HQ.out).mono ?_; rintro e w7 ⟨rfl, s7⟩; have HS7 := Aside0.mk ((HS5.out.later hbase HB6.out).trans s7); clear s7; obtain ⟨hy7, hyf7⟩ := Kd.R_celln false HS7.out.don y (of_eq_true d2_) (of_eq_true d1_))
                                    | ((with_reducible refine gate_store (t := 4) (p := 85) rfl ?_); refine store_event (t := 4) (p := 85) (v := ?vo85) (w1 := (w7.setCell ⟨gd, (y : Int).toNat, none⟩ (.bool false))) ?hg85 ?ho85 ?hn85 ?hr85 ?_; (case ho85 => rfl); (case hg85 => rfl); (case hn85 => rfl); (case hr85 => first | (go_simp; done) | (go_simp; rfl)); intro w8 hw; have HS9 := Aside0.mk (show spec_taPair.St w base bc bf (.slice (some ⟨gd, 0, none⟩) n cd) w8 _ _ _ from (by rw [hw]; exact HS7.out.mark y false)); clear hw; clear hy7 hyf7))
                                  go_roundg k2
                                  case measure => have := HK2.out; omega
                                  case rel => exact ⟨_, _, _, _, by first | rfl | (simp; done), HN, ⟨by have := HK2.out; omega⟩, HS9⟩
                                · rw [if_neg hl] at H; cases H
                          · rw [if_neg d4_] at H; cases H
                        · rw [if_neg d3_] at H; cases H
                      · rw [if_neg d2_] at H; cases H
                    · rw [if_neg d1_] at H
                      have d1b : decide (y < (n : Int)) = false := decide_eq_false d1_
                      clear d1_
                      simp only [Option.some.injEq, Prod.mk.injEq] at H
                      obtain ⟨rfl, rfl, rfl⟩ := H
                      obtain ⟨hy0, hyf⟩ := Kd.R_celln false HS4.out.don x CX.out.1 CX.out.2
                      go_wp2_with ((with_reducible refine gate_store (t := 4) (p := 88) rfl ?_); refine store_event (t := 4) (p := 88) (v := ?vo88) (w1 := (wr.setCell ⟨gd, (x : Int).toNat, none⟩ (.bool false))) ?hg88 ?ho88 ?hn88 ?hr88 ?_; (case ho88 => rfl); (case hg88 => rfl); (case hn88 => rfl); (case hr88 => first | (go_simp; done) | (go_simp; rfl)); intro w9 hw; have HS9 := Aside0.mk (show spec_taPair.St w base bc bf (.slice (some ⟨gd, 0, none⟩) n cd) w9 _ _ _ from (by rw [hw]; exact HS4.out.mark x false)); clear hw; clear hy0 hyf)
                      first | go_end0 | ((try simp only [Exit.inBlock, Exit.then]); refine bodyPost_ret (results_none rfl _ _ _) rfl ?_)
                      exact ⟨rfl, HS9.out⟩
            · rw [if_neg cx0] at H; cases H
          · rw [if_neg cx] at H
            by_cases ce : x = (n : Int)
            · rw [if_pos ce] at H
              obtain rfl := Option.some.inj H
              have h := HL.out
              rw [if_pos ce] at h
              have cxb : decide (x < (n : Int)) = false := decide_eq_false cx
              have ceb : (x == (n : Int)) = true := beq_iff_eq.mpr ce
              have HS1 := Aside0.mk (HS.out.drewN hbase m1)
              have F2 := Aside0.mk (HS1.out.foot H2.out)
              clear H HL cx ce HS
              have hcc : w.cell? ⟨bc, 0, none⟩ = some (.int .i64 c) := (blk_cell HS1.out.cnt 0).trans rfl
              have hcf := blk_frozen HS1.out.cnt 0
              obtain ⟨vf, hvf, hvr⟩ := HS1.out.fst
              have hff : w.cell? ⟨bf, 0, none⟩ = some vf := (blk_cell hvf 0).trans rfl
              have hfz := blk_frozen hvf 0
              by_cases cz : c = 0
              · rw [if_pos cz] at h
                by_cases hl : l2.length < 8796093022206
                · rw [if_pos hl] at h
                  simp only [Option.some.injEq, Prod.mk.injEq] at h
                  obtain ⟨rfl, rfl, rfl⟩ := h
                  have czb : (c == 0) = true := beq_iff_eq.mpr cz
                  have LX := Aside0.mk hl
                  have HVF := Aside0.mk hvf
                  clear cz hl hvf hvr
                  generalize hw1 : w.drewN m1 = w1 at HS1 F2
                  have HD := Aside0.mk hw1
                  clear hcc hcf hff hfz HVF hw1
                  have hcc : w1.cell? ⟨bc, 0, none⟩ = some (.int .i64 c) := (blk_cell HS1.out.cnt 0).trans rfl
                  have hcf := blk_frozen HS1.out.cnt 0
                  obtain ⟨vf1, hvf1, _⟩ := HS1.out.fst
                  have hff : w1.cell? ⟨bf, 0, none⟩ = some vf1 := (blk_cell hvf1 0).trans rfl
                  have hfz := blk_frozen hvf1 0
                  clear hvf1
                  go_wp2_with (first
                    | ((with_reducible refine gate_dst (N := 33) rfl ?_); refine Kd.R_lit k105 (w0 := w1) w1.heap.size 105 ?hg (N := 33) ?hd (xs := ([] : List S105)) (inner := []) (ok := fun k_ => w1.heap.size ≤ k_) (okp := fun _ => False) ?hr ?hp (fun _ hk => hk.elim) (Nat.le_refl _) (Below.refl _ _) (Nat.le_refl _) (by simp) ?_; (case hd => rfl); (case hg => rfl); (case hr => first | (go_simp; done) | (go_simp; rfl)); (case hp => exact (Reps.none _ _)); intro v_HO3 w3 ho hb hg_ hnew_; clear hg_ hnew_; have HO3 := Aside0.mk ho; have HB3 := Aside0.mk hb; clear ho hb)
                    | ((with_reducible refine gate_builtin (b := .append) (xs := #[.tmp 33, .tmp 34]) rfl ?_); at_builtin; refine Kd.R_append_rows k105 (Rr := Kd.K k105 w3) (w0 := w1) w1.heap.size rfl (.tmp 33) (.tmp 34) 31 105 (.agg #[(.int .i64 0), (.int .i64 0)]) 16 rfl Tryd.underlying31 info105 rfl (by decide) (by omega) v_HO3 [] l2 _ _ _ (fun k_ => w1.heap.size ≤ k_) (fun _ => False) rfl rfl ?aO33 ?aR33 (fun x_ cs_ h => by rw [k105_open h]; exact k105_mkM _ _ _ x_) (fun _ h => h.elim) ?aF33 ?aB33 ?aS33 ?aL33 ?_; (case aR33 => exact Kd.C_below (Kd.F_now F2.out) HB3.out); (case aB33 => exact HB3.out); (case aF33 => exact fun k_ hk => Nat.le_trans HB3.out.size hk); (case aO33 => exact HO3.out); (case aS33 => exact HB3.out.size); (case aL33 => have := LX.out; simp only [List.length_nil]; omega); intro v_HO5 w5 ho hb hg hat; have HO5 := Aside0.mk ho; have HB5 := Aside0.mk hb; clear ho hb hg hat; obtain ⟨A5, c5, rfl⟩ := Kd.R_slice HO5.out; have HS5 := Aside0.mk (HS1.out.later hbase HB5.out); clear hcc hcf hff hfz; have hcc := (blk_cell HS5.out.cnt 0).trans (show (#[Value.int .i64 c] : Array Value)[0]? = some (.int .i64 c) from rfl); have hcf := blk_frozen HS5.out.cnt 0; obtain ⟨vf5, hvf5, _⟩ := HS5.out.fst; have hff : w5.cell? ⟨bf, 0, none⟩ = some vf5 := (blk_cell hvf5 0).trans rfl; have hfz := blk_frozen hvf5 0; clear hvf5))
                  first | go_end0 | ((try simp only [Exit.inBlock, Exit.then]); refine bodyPost_ret (results_none rfl _ _ _) rfl ?_)
                  exact ⟨rfl, (HS5.out.put HBB.out.2.1 hn1 (Kd.R_lower (Kd.R_mono (Kd.R_bound HO5.out) (fun k_ hk => (by have := HS1.out.lts; exact ⟨by have := hk.2.1; omega, by have := hk.2.1; omega, fun he => by have := this.2.2 k_ he.symm; have := hk.2.1; omega⟩))) (Nat.le_trans hbase HS1.out.below.size))).inc HBB.out.1 hn1 _⟩
                · rw [if_neg hl] at h; cases h
              · rw [if_neg cz] at h
                simp only [Option.some.injEq, Prod.mk.injEq] at h
                obtain ⟨rfl, rfl, rfl⟩ := h
                have czb : (c == 0) = false := beq_eq_false_iff_ne.mpr cz
                clear cz hvf hvr
                go_wp2
                first | go_end0 | ((try simp only [Exit.inBlock, Exit.then]); refine bodyPost_ret (results_none rfl _ _ _) rfl ?_)
                exact ⟨rfl, HS1.out.inc HBB.out.1 hn1 _⟩
            · rw [if_neg ce] at H; cases H

/-! ### spec_taPairs: function 75 (a text of this session's own) -/
def spec_taPairs.T3 : Bool × List (List Nat × List Nat) := (true, [([], []), ([0], [0]), ([], []), ([2], [2]), ([3, 3], [3]), ([1, 4, 1], [1, 4])])
def spec_taPairs.B3 : List Nat := [0, 1, 0, 4, 12, 31]
theorem spec_taPairs.tab3 : rtab .any (opsOf Tryd.f75 3) = spec_taPairs.T3 := by kernel_rfl
theorem spec_taPairs.bits3 : waitsOk spec_taPairs.T3.2 spec_taPairs.B3 = true := by kernel_rfl
def spec_taPairs.T4 : Bool × List (List Nat × List Nat) := (true, [([], []), ([], []), ([0, 0], [0]), ([1, 2, 0, 1, 2], [1])])
def spec_taPairs.B4 : List Nat := [0, 0, 1, 7]
theorem spec_taPairs.tab4 : rtab .any (opsOf Tryd.f75 4) = spec_taPairs.T4 := by kernel_rfl
theorem spec_taPairs.bits4 : waitsOk spec_taPairs.T4.2 spec_taPairs.B4 = true := by kernel_rfl
def spec_taPairs.f (k : Nat) (n : Int) (l : List S105) : Option (Int × List S105) := (spec_paTable.f k n l).bind fun t => if 0 ≤ n then (if n.toNat ≤ 281474976710656 then (spec_taPair.f k n.toNat t (List.replicate n.toNat false) [] 0 []).bind fun r => some (r.2.1, r.2.2) else none) else none
theorem spec_taPairs.mono : ∀ a0 a1 k, LeO (spec_taPairs.f k a0 a1) (spec_taPairs.f (k + 1) a0 a1) := by
  intro a0 a1 k
  unfold spec_taPairs.f
  repeat' first
    | (with_reducible exact (spec_taPair.mono_l k).2 _ _ _ _ _ _)
    | (with_reducible exact spec_paTable.mono _ _ _)
    | (with_reducible exact LeO.refl _)
    | (with_reducible exact LeO.none _)
    | (with_reducible refine LeO.ite ?_ ?_)
    | (with_reducible refine LeO.bind ?_ (fun _ => ?_))
set_option maxHeartbeats 8000000 in
set_option maxRecDepth 100000 in
theorem spec_taPairs.calls (k : Nat) (n : Int) (Ap : Option Addr) (cp : Nat) (l : List S105) (r1 : Int) (r2 : List S105) (w : World) (hr : Kd.C k105 w Ap l.length l) (hc : l.length ≤ cp) (h : spec_taPairs.f k n l = some (r1, r2)) :
    Calls Tryd.prog 75 #[.agg #[.int .i64 n, .slice Ap l.length cp]] w fun e w' => ∃ v1_ : Value, e = .returned (.tuple #[.int .i64 r1, v1_]) ∧ Kd.R k105 105 w' w.heap.size (fun _ => True) v1_ r2 ∧ Below w.heap.size w w' := by
  have hu := Tryd.underlying33
  unfold spec_taPairs.f at h
  replace h := Option.bind_eq_some_iff.mp h
  obtain ⟨t, ht, h⟩ := h
  by_cases c0 : 0 ≤ n
  · rw [if_pos c0] at h
    by_cases c1 : n.toNat ≤ 281474976710656
    · rw [if_pos c1] at h
      replace h := Option.bind_eq_some_iff.mp h
      obtain ⟨⟨q1, q2, q3⟩, hq, h⟩ := h
      simp only [Option.some.injEq, Prod.mk.injEq] at h
      obtain ⟨rfl, rfl⟩ := h
      have HR := Aside0.mk hr
      have HC := Aside0.mk hc
      have HT := Aside0.mk ht
      have HQ := Aside0.mk hq
      have CN := Aside0.mk c0
      have LN := Aside0.mk c1
      have HB := Aside0.mk (Below.refl w.heap.size w)
      clear hr hc ht hq c0 c1
      go_enter Tryd.func75, Tryd.ntmps75
      go_wp2_with (first
        | ((with_reducible refine gate_dst (N := 1) rfl ?_); refine bxE 1 #[.int .i64 n, .slice Ap l.length cp] 33 rfl ?_; intro gp hg w2 hbox hb; have BKp := Aside0.mk hbox; have GEp := gS HB hg; replace HB := hS HB hb; have hp0 := cz BKp 0; have hp1 := cz BKp 1; clear hg hbox hb)
        | ((with_reducible refine gate_dst (N := 4) rfl ?_); refine bxE 4 #[.int .i64 0] 3 rfl ?_; intro gc hg w3 hbox hb; have BKc := Aside0.mk hbox; have GEc := gS HB hg; have NPc := nL BKp hg; replace BKp := bS BKp hb; replace HB := hS HB hb; clear hp0 hp1; have hc0 := cz BKc 0; have hc1 := fz BKc 0; clear hg hbox hb)
        | ((with_reducible refine gate_dst (N := 5) rfl ?_); refine bxE 5 #[.slice none 0 0] 31 rfl ?_; intro gf hg w4 hbox hb; have BKf := Aside0.mk hbox; have BKc0 := Aside0.mk (blk_set BKc.out 0 (.int .i64 0)); have BKp0 := Aside0.mk (blk_far BKp.out (p := ⟨gc, 0, none⟩) NPc.out (.int .i64 0)); have HB0 := Aside0.mk (below_set (j := 0) (v := .int .i64 0) HB.out GEc.out); have GEf := gS HB0 hg; have NCf := nL BKc0 hg; have BKp1 := bS BKp0 hb; have BKc1 := bS BKc0 hb; have HB1 := hS HB0 hb; clear hc0 hc1 BKc BKp HB BKc0 BKp0 HB0; have BKc := BKc1; have BKp := BKp1; have HB := HB1; clear BKc1 BKp1 HB1; clear hg hbox hb))
      have SW := Aside0.mk (fun (W' : World) (hb : Below w4.heap.size w4 W') => (⟨pw_cell_below hb ((blk_cell BKp.out 0).trans rfl), pw_cell_below hb ((blk_cell BKp.out 1).trans rfl)⟩ : (fun w' : World => w'.cell? ⟨gp, 0, none⟩ = some (.int .i64 n) ∧ w'.cell? ⟨gp, 1, none⟩ = some (.slice Ap l.length cp)) W'))
      refine start_ (n := 6) (S := fun w' => w'.cell? ⟨gp, 0, none⟩ = some (.int .i64 n) ∧ w'.cell? ⟨gp, 1, none⟩ = some (.slice Ap l.length cp)) (ds := [5]) (bz 6 0) (by kernel_rfl) rfl rfl (SW.out _ (by repeat (first | exact Below.refl _ _ | apply below_drew1 | apply pw_below_drewN))) (fun hHeld => ?_)
      refine with_tabW spec_taPairs.tab3 spec_taPairs.bits3 (fun HT_ HW_ => ?_)
      have HBd := Aside0.mk (show Below w4.heap.size w4 w4.drew from by repeat (first | exact Below.refl _ _ | apply below_drew1 | apply pw_below_drewN))
      generalize w4.drew = w5 at HBd hHeld ⊢
      refine run_ [(1, 0, 1, some 6), (0, 2, 5, some 8), (1, 3, 13, some 9)] ?_
      repeat (first | (apply tag0; refine run_p (v := ?_) (a' := ?_) rfl rfl (any_of HT_.out (by kernel_rfl)) (fun _ _ _ h => h) (by rfl) ?_ ?_ ?_; rotate_left 2; (intro w'; go_simp; with_reducible rfl); (first | (simp only [Act.put, List.setIfInBounds_toArray, List.set_cons_zero, List.set_cons_succ, i64_w, i32_w]; rfl) | rfl)) | (apply tag1; refine run_t (v := ?_) (a' := ?_) rfl rfl (take_ofW HT_.out HW_.out (by kernel_rfl)) (fun _ _ _ h => h) (by rfl) ?_ hHeld ?_ ?_; rotate_left 2; (rintro w' ⟨s0, s1⟩; go_simp; with_reducible rfl); (first | (simp only [Act.put, List.setIfInBounds_toArray, List.set_cons_zero, List.set_cons_succ, i64_w, i32_w]; rfl) | rfl)))
      refine run_nil ?_
      refine join_ (σ := Value × Value) 1 (bz 6 31) (fun s_ => [(7, s_.1), (10, s_.2)]) (fun s_ w' => (w'.cell? ⟨gp, 0, none⟩ = some (.int .i64 n) ∧ w'.cell? ⟨gp, 1, none⟩ = some (.slice Ap l.length cp)) ∧ (Kd.S (Kd.slice 4 Kd.bool) 72 w' w4.heap.size (fun k_ => some k_ ≠ (s_.2 : Value).ownBlock) s_.1 t) ∧ (Kd.R Kd.bool 4 w' w4.heap.size (fun _ => True) s_.2 (List.replicate n.toNat false)) ∧ (Below w4.heap.size w4 w')) ?_ ?_
      rotate_left
      · intro hCont
        refine two_ (i := 1) (j := 4) (Ni := some 7) (Nj := some 10) (bz 6 15) (bz 6 29) rfl rfl rfl rfl (two_of HT_.out (by kernel_rfl)) (by decide) (by decide) (fun K hK => ?_) (fun K hK => ?_)
        · refine goes_ Tryd.func54 (by kernel_rfl) rfl #[.agg #[.int .i64 n, .slice Ap l.length cp]] (by rfl) rfl rfl mapT ?_
          refine (spec_paTable.calls k n Ap cp l t _ (Kd.C_below (Kd.C_below HR.out HB.out) HBd.out) HC.out HT.out).mono ?_
          rintro e w6 ⟨v1, rfl, ho, hb⟩
          refine ⟨_, rfl, ?_⟩
          have HB6 := Aside0.mk (below_step HBd.out hb)
          have HO6 := Aside0.mk (Kd.S_lower ho (below_size HBd.out))
          clear ho hb
          refine hK.out _ _ (SW.out _ HB6.out) (fun hHeld2 => ?_)
          clear hK K
          refine one_ (i := 4) (N := some 10) (bz 6 31) rfl rfl (one_of HT_.out (by kernel_rfl)) (by decide) (fun K hK => ?_)
          refine Kd.R_make_step Kd.bool (w0 := w4) w4.heap.size 4 (by rfl) (N := 10) rfl 72 _ _ rfl n rfl rfl Tryd.underlying72 (.bool false) 1 info4 rfl (by decide) (by omega) false (ok := fun k_ => some k_ ≠ v1.ownBlock) (okp := fun _ => False) rfl (fun _ h => h.elim) ?hf1 CN.out (by have := LN.out; omega) HB6.out (below_size HB6.out) ?_
          case hf1 => exact fun he => by have := Kd.S_lt HO6.out _ he.symm; omega
          intro v2 w7 ho2 hb2 hg2 hnew2
          refine hK.out _ _ (SW.out _ hb2) (fun hHeld3 => ?_)
          refine norm_ ?_ (hCont (v1, v2) w7 ⟨SW.out _ hb2, Kd.S_mono (Kd.S_grown (Kd.S_bound HO6.out) hg2 (fun k_ _ => by simp)) (fun k_ hk => fun he => by obtain ⟨g, e, hg⟩ := hnew2; rw [e] at he; injection he with he; have := hk.2.2.1; omega), Kd.R_mono ho2 (fun _ _ => trivial), hb2⟩)
          first | rfl | (simp only [putAll, Act.put, List.setIfInBounds_toArray, List.set_cons_zero, List.set_cons_succ, i64_w, i32_w]; rfl)
        · refine Kd.R_make_step Kd.bool (w0 := w4) w4.heap.size 4 (by rfl) (N := 10) rfl 72 _ _ rfl n rfl rfl Tryd.underlying72 (.bool false) 1 info4 rfl (by decide) (by omega) false (ok := fun _ => True) (okp := fun _ => False) rfl (fun _ h => h.elim) trivial CN.out (by have := LN.out; omega) HBd.out (below_size HBd.out) ?_
          intro v2 w6 ho2 hb2 hg2 hnew2
          have HB6 := Aside0.mk hb2
          have HO6 := Aside0.mk ho2
          clear hb2 ho2 hg2
          refine hK.out _ _ (SW.out _ HB6.out) (fun hHeld2 => ?_)
          clear hK K
          refine one_ (i := 1) (N := some 7) (bz 6 31) rfl rfl (one_of HT_.out (by kernel_rfl)) (by decide) (fun K hK => ?_)
          refine goes_ Tryd.func54 (by kernel_rfl) rfl #[.agg #[.int .i64 n, .slice Ap l.length cp]] (by rfl) rfl rfl mapT ?_
          refine (spec_paTable.calls k n Ap cp l t _ (Kd.C_below (Kd.C_below HR.out HB.out) HB6.out) HC.out HT.out).mono ?_
          rintro e w7 ⟨v1, rfl, ho, hb⟩
          refine ⟨_, rfl, ?_⟩
          refine hK.out _ _ (SW.out _ (below_step HB6.out hb)) (fun hHeld3 => ?_)
          refine norm_ ?_ (hCont (v1, v2) w7 ⟨SW.out _ (below_step HB6.out hb), Kd.S_mono (Kd.S_lower (Kd.S_bound ho) (below_size HB6.out)) (fun k_ hk => fun he => by have := Kd.R_lt HO6.out _ he.symm; have := hk.2.1; omega), Kd.R_below HO6.out hb, below_step HB6.out hb⟩)
          first | rfl | (simp only [putAll, Act.put, List.setIfInBounds_toArray, List.set_cons_zero, List.set_cons_succ, i64_w, i32_w]; rfl)
      · rintro ⟨v1, v2⟩ w7 ⟨hHeld3, R1, R2, HB7⟩
        simp only at R1 R2
        refine norm_ (a' := ?_) ?_ ?_
        rotate_left
        · simp only [putAll, Act.put, List.setIfInBounds_toArray, List.set_cons_zero, List.set_cons_succ, i64_w, i32_w]
          rfl
        obtain ⟨A1, c1, rfl⟩ := Kd.S_slice R1
        obtain ⟨A2, c2, rfl⟩ := Kd.R_slice R2
        rw [List.length_replicate] at R2 R1
        have HO1 := Aside0.mk R1
        have HO2 := Aside0.mk R2
        have HB8 := Aside0.mk HB7
        have LC := Aside0.mk (blk_lt BKc.out)
        have LF := Aside0.mk (blk_lt BKf.out)
        have BKc7 := Aside0.mk (blk_below BKc.out HB7)
        have BKf7 := Aside0.mk (blk_below BKf.out HB7)
        have HBw := Aside0.mk (below_step HB.out HB7)
        have HS7 := Aside0.mk (⟨BKc7.out, ⟨_, BKf7.out, Kd.R_nil _ _ _ _ _⟩, Kd.R_mono (Kd.R_lower (Kd.R_bound HO2.out) (below_size HB.out)) (fun k_ hk => ⟨by have := hk.2.1; have := LC.out; omega, by have := hk.2.1; have := LF.out; omega⟩), Below.refl _ _, fun _ _ _ => rfl⟩ : spec_taPair.St w7 w.heap.size gc gf (.slice A2 n.toNat c2) w7 (List.replicate n.toNat false) 0 [])
        clear R1 R2 HB7
        refine last_ (i := 5) (N := some 11) (bz 6 63) rfl rfl (one_of HT_.out (by kernel_rfl)) (by decide) (fun K hK => ?_)
        refine goes_ Tryd.func118 (by kernel_rfl) rfl #[.slice A1 t.length c1, .slice A2 n.toNat c2, .slice none 0 0, .pointer (some ⟨gc, 0, none⟩), .pointer (some ⟨gf, 0, none⟩)] (by rfl) rfl rfl ?_ ?_
        · (try simp only [List.length_replicate]); first | rfl | exact mapT
        refine (spec_taPair.calls k n.toNat A1 c1 t A2 c2 (List.replicate n.toNat false) none 0 [] gc gf 0 [] q1 q2 q3 w7 w.heap.size (Kd.F_mono (Kd.S_F (Kd.S_bound HO1.out)) (fun k_ hk => ⟨by have := hk.2.1; have := LC.out; omega, by have := hk.2.1; have := LF.out; omega, hk.1⟩)) (Kd.S_reads' HO1.out).2.1 (Kd.F_nil _ _ _) (Nat.le_refl _) HS7.out ⟨GEc.out, GEf.out, NCf.out⟩ (below_size HBw.out) HQ.out).mono ?_
        rintro e w8 ⟨rfl, s8⟩
        refine ⟨_, rfl, ?_⟩
        refine hK.out _ _ ?_
        clear hK K
        refine done_ (done_of HT_.out (by kernel_rfl)) ?_
        have HS8 := Aside0.mk s8
        clear s8 HS7 HT_ HW_ hHeld hHeld3
        obtain ⟨vf, hvf, hvr⟩ := HS8.out.fst
        obtain ⟨Af, cf, rfl⟩ := Kd.R_slice hvr
        have HVF := Aside0.mk hvf
        have HVR := Aside0.mk hvr
        clear hvf hvr
        try go_wp2
        refine start_ (n := 4) (S := fun w' => w'.cell? ⟨gc, 0, none⟩ = some (.int .i64 q2) ∧ w'.cell? ⟨gf, 0, none⟩ = some (.slice Af q3.length cf)) (ds := []) (bz 4 0) (by kernel_rfl) rfl rfl ⟨(blk_cell HS8.out.cnt 0).trans rfl, (blk_cell HVF.out 0).trans rfl⟩ (fun hHeld => ?_)
        refine with_tabW spec_taPairs.tab4 spec_taPairs.bits4 (fun HT_ HW_ => ?_)
        refine run_ [(1, 0, 1, some 12), (1, 1, 3, some 13), (0, 2, 7, some 2), (0, 3, 15, some 3)] ?_
        repeat (first | (apply tag0; refine run_p (v := ?_) (a' := ?_) rfl rfl (any_of HT_.out (by kernel_rfl)) (fun _ _ _ h => h) (by rfl) ?_ ?_ ?_; rotate_left 2; (intro w'; go_simp; with_reducible rfl); (first | (simp only [Act.put, List.setIfInBounds_toArray, List.set_cons_zero, List.set_cons_succ, i64_w, i32_w]; rfl) | rfl)) | (apply tag1; refine run_t (v := ?_) (a' := ?_) rfl rfl (take_ofW HT_.out HW_.out (by kernel_rfl)) (fun _ _ _ h => h) (by rfl) ?_ hHeld ?_ ?_; rotate_left 2; (rintro w' ⟨s0, s1⟩; go_simp; with_reducible rfl); (first | (simp only [Act.put, List.setIfInBounds_toArray, List.set_cons_zero, List.set_cons_succ, i64_w, i32_w]; rfl) | rfl)))
        refine run_nil ?_
        refine done_ (done_of HT_.out (by kernel_rfl)) ?_
        (try go_wp2)
        first | go_ret2 | go_ret
        exact ⟨_, rfl, Kd.R_mono (by first | exact HVR.out | exact Kd.R_below HVR.out (below_drew (Below.refl _ _))) (fun _ _ => trivial), by first | exact HBw.out.trans HS8.out.below | exact (HBw.out.trans HS8.out.below).trans (below_drew (Below.refl _ _))⟩
    · rw [if_neg c1] at h; cases h
  · rw [if_neg c0] at h; cases h

end Go.Proofs.YtjpfbkkikcpmhaaDoor.PFnExactFirstPairing
