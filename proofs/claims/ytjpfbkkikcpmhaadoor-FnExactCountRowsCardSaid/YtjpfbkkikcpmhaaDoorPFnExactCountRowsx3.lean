-- Of this session's own program wip/gen/gen.py (it drives the kit's print): contracts of the functions that the law reaches.
import Derived.Test.YtjpfbkkikcpmhaaDoorPFnExactCountRowsx0
namespace Go.Proofs.YtjpfbkkikcpmhaaDoor.PFnExactCountRows
open Go.RowKit Go.Proofs.YtjpfbkkikcpmhaaDoorW.PrintWords Go.Proofs.YtjpfbkkikcpmhaaDoorW.PrintLast Go.Proofs.YtjpfbkkikcpmhaaDoorW.PrintMore Go.Proofs.YtjpfbkkikcpmhaaDoor.Base
attribute [local go_sem] max2_int min2_int max_two min_two max_three min_three max_four min_four   -- for this text's walks alone
set_option linter.unusedVariables false
set_option linter.unusedSimpArgs false

/-! ### spec_paTable: function 54 -/
mutual
def spec_paTable.l0 : Nat → List (List Bool) → Int → Int → List (S105) → Option ((List (List Bool)))
 | 0, _, _, _, _ => none
 | k + 1, x3, x4, x141000, x141001 => if x4 < x141000 then (if 0 ≤ x141000 then (if (x141000 : Int).toNat ≤ 281474976710656 then (if x3.length < 5864062014805 then (spec_paTable.l0 k (x3 ++ [(List.replicate (x141000 : Int).toNat false)]) (wrap64 (x4 + 1)) x141000 x141001) else (none)) else (none)) else (none)) else (spec_paTable.l1 k x3 x141001 (x141001.length : Int) 0)
def spec_paTable.l1 : Nat → List (List Bool) → List (S105) → Int → Int → Option ((List (List Bool)))
 | 0, _, _, _, _ => none
 | k + 1, x3, x20, x21, x22 => if x22 < x21 then (if 0 ≤ x22 then (if x22 < (x20.length : Int) then (if 0 ≤ ((rd_T105 x20 x22).f0) then (if ((rd_T105 x20 x22).f0) < (x3.length : Int) then (if 0 ≤ ((rd_T105 x20 x22).f1) then (if ((rd_T105 x20 x22).f1) < ((rd_L4 x3 ((rd_T105 x20 x22).f0)).length : Int) then ((some (x3.set (((rd_T105 x20 x22).f0) : Int).toNat ((rd_L4 x3 ((rd_T105 x20 x22).f0)).set (((rd_T105 x20 x22).f1) : Int).toNat true) : List (List Bool))).bind fun y152 => (if ((rd_T105 x20 x22).f1) < (x3.length : Int) then (if ((rd_T105 x20 x22).f0) < ((rd_L4 y152 ((rd_T105 x20 x22).f1)).length : Int) then (spec_paTable.l1 k (y152.set (((rd_T105 x20 x22).f1) : Int).toNat ((rd_L4 y152 ((rd_T105 x20 x22).f1)).set (((rd_T105 x20 x22).f0) : Int).toNat true)) x20 x21 (wrap64 (x22 + 1))) else (none)) else (none))) else (none)) else (none)) else (none)) else (none)) else (none)) else (none)) else (some x3)
end
def spec_paTable.f (k : Nat) (a0_0 : Int) (l0_1 : List (S105)) : Option ((List (List Bool))) := spec_paTable.l0 k ([] : List (List Bool)) 0 a0_0 l0_1
theorem spec_paTable.mono_l : ∀ k, (∀ y0 y1 y2 y3, LeO (spec_paTable.l0 k y0 y1 y2 y3) (spec_paTable.l0 (k + 1) y0 y1 y2 y3)) ∧ (∀ y0 y1 y2 y3, LeO (spec_paTable.l1 k y0 y1 y2 y3) (spec_paTable.l1 (k + 1) y0 y1 y2 y3))
 | 0 => ⟨fun _ _ _ _ r h => by simp [spec_paTable.l0] at h, fun _ _ _ _ r h => by simp [spec_paTable.l1] at h⟩
 | k + 1 => by
  obtain ⟨ih0, ih1⟩ := spec_paTable.mono_l k
  refine ⟨?_, ?_⟩
  ·intro y0 y1 y2 y3
   unfold spec_paTable.l0
   repeat' first
   | (with_reducible exact ih0 _ _ _ _)
   | (with_reducible exact ih1 _ _ _ _)
   | (with_reducible exact LeO.refl _)
   | (with_reducible exact LeO.none _)
   | (with_reducible refine LeO.ite ?_ ?_)
   | (with_reducible refine LeO.bind ?_ (fun _ => ?_))
   | exact ih0 _ _ _ _
   | exact ih1 _ _ _ _
   | exact LeO.none _
   | refine LeO.ite ?_ ?_
   | refine LeO.bind ?_ (fun _ => ?_)
  ·intro y0 y1 y2 y3
   unfold spec_paTable.l1
   repeat' first
   | (with_reducible exact ih0 _ _ _ _)
   | (with_reducible exact ih1 _ _ _ _)
   | (with_reducible exact LeO.refl _)
   | (with_reducible exact LeO.none _)
   | (with_reducible refine LeO.ite ?_ ?_)
   | (with_reducible refine LeO.bind ?_ (fun _ => ?_))
   | exact ih0 _ _ _ _
   | exact ih1 _ _ _ _
   | exact LeO.none _
   | refine LeO.ite ?_ ?_
   | refine LeO.bind ?_ (fun _ => ?_)
theorem spec_paTable.mono : ∀ a0 a1 k, LeO (spec_paTable.f k a0 a1) (spec_paTable.f (k + 1) a0 a1) := by
 intro a0 a1 k
 obtain ⟨ih0, ih1⟩ := spec_paTable.mono_l k
 unfold spec_paTable.f
 repeat' first
   | (with_reducible exact ih0 _ _ _ _)
   | (with_reducible exact ih1 _ _ _ _)
   | (with_reducible exact LeO.refl _)
   | (with_reducible exact LeO.none _)
   | (with_reducible refine LeO.ite ?_ ?_)
   | (with_reducible refine LeO.bind ?_ (fun _ => ?_))
   | exact ih0 _ _ _ _
   | exact ih1 _ _ _ _
   | exact LeO.none _
   | refine LeO.ite ?_ ?_
   | refine LeO.bind ?_ (fun _ => ?_)
def spec_paTable.T9 : Bool × List (List Nat × List Nat) := (true, [([], []), ([], []), ([1], [1]), ([0, 2], [0, 2]), ([3], [3]), ([], []), ([5], [5]), ([4, 6, 0, 1, 2, 3, 4, 5, 6], [4, 6]), ([7, 0, 1, 2, 3, 4, 5, 6], [7])])
def spec_paTable.B9 : List Nat := [0, 0, 2, 7, 15, 0, 32, 127, 255]
theorem spec_paTable.tab9 : rtab .any (opsOf Tryd.f54 9) = spec_paTable.T9 := by kernel_rfl
theorem spec_paTable.bits9 : waitsOk spec_paTable.T9.2 spec_paTable.B9 = true := by kernel_rfl
def spec_paTable.T10 : Bool × List (List Nat × List Nat) := (true, [([], []), ([], []), ([1], [1]), ([0, 2], [0, 2]), ([3], [3]), ([], []), ([5], [5]), ([4, 6, 0, 1, 2, 3, 4, 5, 6], [4, 6]), ([7, 0, 1, 2, 3, 4, 5, 6], [7])])
def spec_paTable.B10 : List Nat := [0, 0, 2, 7, 15, 0, 32, 127, 255]
theorem spec_paTable.tab10 : rtab .any (opsOf Tryd.f54 10) = spec_paTable.T10 := by kernel_rfl
theorem spec_paTable.bits10 : waitsOk spec_paTable.T10.2 spec_paTable.B10 = true := by kernel_rfl
set_option maxHeartbeats 8000000 in
set_option maxRecDepth 100000 in
theorem spec_paTable.calls (k : Nat) (a0_0 : Int) (A0_1 : Option Addr) (c0_1 : Nat) (l0_1 : List (S105)) (r : List (List Bool)) (w : World) (hr0_1 : Kd.C k105 w A0_1 l0_1.length l0_1) (hc0_1 : l0_1.length ≤ c0_1) (h : spec_paTable.f k a0_0 l0_1 = some r) :
  Calls Tryd.prog 54 #[.agg #[.int .i64 a0_0, .slice A0_1 l0_1.length c0_1]] w fun e w' => ∃ v0_ : Value, e = .returned (v0_) ∧ Kd.S (Kd.slice 4 Kd.bool) 72 w' w.heap.size (fun _ => True) v0_ r ∧ Below w.heap.size w w' := by
 have hu33 := Tryd.underlying33
 have hu105 := Tryd.underlying105
 have HR0_1 := Aside0.mk hr0_1
 have HC0_1 := Aside0.mk hc0_1
 clear hr0_1 hc0_1
 have HB := Aside0.mk (Below.refl w.heap.size w)
 have H : (spec_paTable.l0 k ([] : List (List Bool)) 0 a0_0 l0_1) = some r := h
 clear h
 have H' := Aside0.mk H
 clear H
 go_enter Tryd.func54, Tryd.ntmps54
 go_wp2_with (first | ((with_reducible refine gate_dst (N := 1) rfl ?_); refine bxE 1 #[.int .i64 a0_0, .slice A0_1 l0_1.length c0_1] 33 rfl ?_; intro gb140 hg w2 hbox hb; have BK140 := Aside0.mk (hbox); have GW140 := gS HB hg; have GE140 := gS HB hg; replace HB := hS HB hb; clear hb hbox hg))
 go_loopg [3, 4] k (fun kq v3 v4 w' => ∃ (x3_1 : List (List Bool)) (x4_1 : Int), v4 = .int .i64 x4_1 ∧ Aside0 (spec_paTable.l0 kq x3_1 x4_1 a0_0 l0_1 = some r) ∧ Aside0 (kq ≤ k) ∧ Aside0 (Kd.S (Kd.slice 4 Kd.bool) 72 w' w.heap.size (fun _ => True) v3 x3_1) ∧ Aside0 (w'.heap[gb140]? = some (.cells #[.int .i64 a0_0, (.slice A0_1 l0_1.length c0_1)] 33 (0, 0))) ∧ Aside0 (Below w.heap.size w w'))
 case atStart => exact ⟨(([] : List (List Bool))), (0), (by first | rfl | (simp; done) | (simp [*]; done)), H', ⟨Nat.le_refl _⟩, ⟨by first | exact Kd.S_nil _ _ _ _ _ | exact Kd.N_nil _ _ _ _ _ | exact Kd.V_nil _ _ _ _ _ | exact Kd.Q_nil _ _ _ _ _ | exact Kd.R_nil _ _ _ _ _⟩, ⟨bK⟩, ⟨hB⟩⟩
 case round =>
  clear H'
  try clear p2
  obtain ⟨x3_1, x4_1, rfl, HA, HK1, HO_3, BK140, HB⟩ := hrel
  cases gk with
  | zero => exact absurd HA.out (by simp [spec_paTable.l0])
  | succ k1 =>
   have H := HA.out
   clear HA
   simp only [spec_paTable.l0] at H
   by_cases c3 : x4_1 < a0_0
   ·rw [if_pos c3] at H
    have c3b0 : decide (x4_1 < a0_0) = true := decide_eq_true c3
    clear c3
    by_cases c4 : 0 ≤ a0_0
    ·rw [if_pos c4] at H
     have c4b0 := eq_true c4
     have c4b1 : decide (0 ≤ a0_0) = true := decide_eq_true c4
     clear c4
     by_cases c5 : (a0_0 : Int).toNat ≤ 281474976710656
     ·rw [if_pos c5] at H
      have c5b0 := eq_true c5
      have c5b1 : decide ((a0_0 : Int).toNat ≤ 281474976710656) = true := decide_eq_true c5
      clear c5
      obtain ⟨y141, hy141⟩ : ∃ y_ : List Bool, y_ = (List.replicate (a0_0 : Int).toNat false) := ⟨_, rfl⟩
      replace H : (if x3_1.length < 5864062014805 then (spec_paTable.l0 k1 (x3_1 ++ [y141]) (wrap64 (x4_1 + 1)) a0_0 l0_1) else (none)) = some r := by first | (rw [hy141]; with_reducible exact H) | (have H2_ := (Option.bind_some _ _).symm.trans H; rw [hy141]; with_reducible exact H2_) | (have H2_ := (Option.bind_some _ _).symm.trans H; with_reducible exact H2_) | with_reducible exact H | (rw [hy141]; exact H) | exact H
      have Ny141 := Aside0.mk hy141
      clear hy141
      by_cases c6 : x3_1.length < 5864062014805
      ·rw [if_pos c6] at H
       have LMc6 := Aside0.mk c6
       clear c6
       obtain ⟨y144, hy144⟩ : ∃ y_ : List (List Bool), y_ = (x3_1 ++ [y141]) := ⟨_, rfl⟩
       replace H : (spec_paTable.l0 k1 y144 (wrap64 (x4_1 + 1)) a0_0 l0_1) = some r := by first | (rw [hy144]; with_reducible exact H) | (have H2_ := (Option.bind_some _ _).symm.trans H; rw [hy144]; with_reducible exact H2_) | (have H2_ := (Option.bind_some _ _).symm.trans H; with_reducible exact H2_) | with_reducible exact H | (rw [hy144]; exact H) | exact H
       have Ny144 := Aside0.mk hy144
       clear hy144
       have H' := Aside0.mk H
       clear H
       have hcz7_0 := cz BK140 0
       have hcz7_1 := cz BK140 1
       have hfz7_0 := fz BK140 0
       have hfz7_1 := fz BK140 1
       go_wp2_with (first | ((with_reducible refine gate_dst (N := 16) rfl ?_); refine Kd.R_make Kd.bool _ 4 rfl (N := 16) rfl 72 _ _ rfl a0_0 rfl rfl Tryd.underlying72 (.bool false) 1 info4 rfl (by decide) (by omega) false (ok := fun _ => True) (okp := fun _ => True) rfl (fun _ hk => hk) trivial (of_decide_eq_true (by first | (with_reducible assumption) | assumption)) (Nat.le_trans (Nat.mul_le_mul_right _ (of_decide_eq_true (by first | (with_reducible assumption) | assumption) : a0_0.toNat ≤ 281474976710656)) (by omega)) (Below.refl _ _) (Nat.le_refl _) ?_; intro v142 w8 ho9 hb hg_ hnew_; clear hg_ hnew_; (first | rw [← Ny141.out] at ho9 | (simp only [Int.reduceToNat] at ho9; rw [← Ny141.out] at ho9)); have HO143 := Aside0.mk (Kd.R_lower ho9 (below_size hB)); replace HO_3 := Aside0.mk (Kd.S_elder' (sU HO_3) (Kd.R_base ho9) hb); replace BK140 := bS BK140 hb; replace HB := hS HB hb; clear hb ho9; obtain ⟨Ao11, co11, eo11⟩ := Kd.R_slice HO143.out; subst eo11) | ((with_reducible refine gate_builtin (b := .append) (xs := #[.tmp 13, .tmp 17]) rfl ?_); at_builtin; refine Kd.S_append (Kd.slice 4 Kd.bool) (w0 := w) w.heap.size rfl (.tmp 13) (.tmp 17) 73 72 (.slice none 0 0) 24 rfl Tryd.underlying73 info72 rfl (by decide) (by omega) u3 x3_1 y141 [.slice Ao11 y141.length co11] (fun _ => True) (fun k_ => some k_ = (.slice Ao11 y141.length co11 : Value).ownBlock) rfl rfl ?aP (fun k_ hk_ => ((Kd.R_mono (ok' := fun k_ => ((fun _ => True)) k_ ∧ some k_ ≠ (u3 : Value).ownBlock) (Kd.R_apart' (HO143.out) (Kd.S_typed HO_3.out) (by decide)) (fun k_ hk => ⟨trivial, hk.2⟩))).1 k_ hk_.symm) ?aF ?aO ?aB ?aS ?aL ?_; (case aP => exact Kd.M_row (Kd.R_mono (Kd.R_tight rfl (Kd.R_mono (ok' := fun k_ => ((fun _ => True)) k_ ∧ some k_ ≠ (u3 : Value).ownBlock) (Kd.R_apart' (HO143.out) (Kd.S_typed HO_3.out) (by decide)) (fun k_ hk => ⟨trivial, hk.2⟩))) (fun _ h_ => h_))); (case aB => exact hB); (case aF => exact (fun _ _ => trivial)); (case aO => exact (by (with_reducible repeat (first | apply Kd.S_alloc | apply Kd.S_drewN | apply Kd.S_drew)); exact Kd.S_mono HO_3.out (fun k_ hk => ⟨trivial, fun e_ => hk.2 e_⟩))); (case aS => exact (below_size hB)); (case aL => have := LMc6.out; omega); intro v145 w10 ho hb hg hat; rw [← Ny144.out] at ho; have HO146 := Aside0.mk (ho); replace BK140 := Aside0.mk (blk_grown (g := gb140) (o := .cells #[.int .i64 a0_0, .slice A0_1 l0_1.length c0_1] 33 (0, 0)) bK hg (Kd.S_ne HO_3.out BK140.out (by decide))); replace HB := Aside0.mk (hb); clear HO_3; clear HO143; clear ho hb hg hat))
       go_roundg k1
       case measure => have := HK1.out; omega
       case rel => exact ⟨(y144), (wrap64 (x4_1 + 1)), (by first | rfl | (simp; done) | (simp [*]; done)), H', ⟨by have := HK1.out; omega⟩, ⟨sU HO146⟩, ⟨bK⟩, ⟨hB⟩⟩
      ·rw [if_neg c6] at H
       exact absurd H (by simp)
     ·rw [if_neg c5] at H
      exact absurd H (by simp)
    ·rw [if_neg c4] at H
     exact absurd H (by simp)
   ·rw [if_neg c3] at H
    have c3b0 : decide (x4_1 < a0_0) = false := decide_eq_false c3
    clear c3
    have H' := Aside0.mk H
    clear H
    have hcz12_0 := cz BK140 0
    have hcz12_1 := cz BK140 1
    have hfz12_0 := fz BK140 0
    have hfz12_1 := fz BK140 1
    go_wp2
    go_loopg [22] k1 (fun kq v22 w' => ∃ (x3_2 : List (List Bool)) (x22_2 : Int), v22 = .int .i64 x22_2 ∧ Aside0 (spec_paTable.l1 kq x3_2 l0_1 (l0_1.length : Int) x22_2 = some r) ∧ Aside0 (kq ≤ k1) ∧ Aside0 (Kd.S (Kd.slice 4 Kd.bool) 72 w' w.heap.size (fun _ => True) u3 x3_2) ∧ Aside0 (w'.heap[gb140]? = some (.cells #[.int .i64 a0_0, (.slice A0_1 l0_1.length c0_1)] 33 (0, 0))) ∧ Aside0 (Below w.heap.size w w'))
    case atStart => exact ⟨(x3_1), (0), (by first | rfl | (simp; done) | (simp [*]; done)), H', ⟨Nat.le_refl _⟩, ⟨sU HO_3⟩, ⟨bK⟩, ⟨hB⟩⟩
    case round =>
     clear H'
     try clear p2
     try clear c3
     try clear c3b0
     try clear c4
     try clear c4b0
     try clear c4b1
     try clear c5
     try clear c5b0
     try clear c5b1
     try clear c6
     try clear p6
     try clear hcz12_0
     try clear hcz12_1
     try clear hcz7_0
     try clear hcz7_1
     try clear hfz12_0
     try clear hfz12_1
     try clear hfz7_0
     try clear hfz7_1
     try clear p2
     obtain ⟨x3_2, x22_2, rfl, HA, HK2, HO_3, BK140, HB⟩ := hrel
     cases gk with
     | zero => exact absurd HA.out (by simp [spec_paTable.l1])
     | succ k2 =>
      have H := HA.out
      clear HA
      simp only [spec_paTable.l1] at H
      by_cases c13 : x22_2 < (l0_1.length : Int)
      ·rw [if_pos c13] at H
       have c13b0 : decide (x22_2 < (l0_1.length : Int)) = true := decide_eq_true c13
       clear c13
       by_cases c14 : 0 ≤ x22_2
       ·rw [if_pos c14] at H
        have c14b0 : decide (0 ≤ x22_2) = true := decide_eq_true c14
        clear c14
        by_cases c15 : x22_2 < (l0_1.length : Int)
        ·rw [if_pos c15] at H
         have c15b0 : decide (x22_2 < (l0_1.length : Int)) = true := decide_eq_true c15
         clear c15
         by_cases c16 : 0 ≤ ((rd_T105 l0_1 x22_2).f0)
         ·rw [if_pos c16] at H
          have c16b0 : decide (0 ≤ ((rd_T105 l0_1 x22_2).f0)) = true := decide_eq_true c16
          clear c16
          by_cases c17 : ((rd_T105 l0_1 x22_2).f0) < (x3_2.length : Int)
          ·rw [if_pos c17] at H
           have c17b0 : decide (((rd_T105 l0_1 x22_2).f0) < (x3_2.length : Int)) = true := decide_eq_true c17
           clear c17
           by_cases c18 : 0 ≤ ((rd_T105 l0_1 x22_2).f1)
           ·rw [if_pos c18] at H
            have c18b0 : decide (0 ≤ ((rd_T105 l0_1 x22_2).f1)) = true := decide_eq_true c18
            clear c18
            by_cases c19 : ((rd_T105 l0_1 x22_2).f1) < ((rd_L4 x3_2 ((rd_T105 l0_1 x22_2).f0)).length : Int)
            ·rw [if_pos c19] at H
             have c19b0 : decide (((rd_T105 l0_1 x22_2).f1) < ((rd_L4 x3_2 ((rd_T105 l0_1 x22_2).f0)).length : Int)) = true := decide_eq_true c19
             clear c19
             obtain ⟨y150, hy150⟩ : ∃ y_ : List Bool, y_ = ((rd_L4 x3_2 ((rd_T105 l0_1 x22_2).f0)).set (((rd_T105 l0_1 x22_2).f1) : Int).toNat true) := ⟨_, rfl⟩
             replace H : ((some (x3_2.set (((rd_T105 l0_1 x22_2).f0) : Int).toNat y150 : List (List Bool))).bind fun y152 => (if ((rd_T105 l0_1 x22_2).f1) < (x3_2.length : Int) then (if ((rd_T105 l0_1 x22_2).f0) < ((rd_L4 y152 ((rd_T105 l0_1 x22_2).f1)).length : Int) then (spec_paTable.l1 k2 (y152.set (((rd_T105 l0_1 x22_2).f1) : Int).toNat ((rd_L4 y152 ((rd_T105 l0_1 x22_2).f1)).set (((rd_T105 l0_1 x22_2).f0) : Int).toNat true)) l0_1 (l0_1.length : Int) (wrap64 (x22_2 + 1))) else (none)) else (none))) = some r := by first | (rw [hy150]; with_reducible exact H) | (have H2_ := (Option.bind_some _ _).symm.trans H; rw [hy150]; with_reducible exact H2_) | (have H2_ := (Option.bind_some _ _).symm.trans H; with_reducible exact H2_) | with_reducible exact H | (rw [hy150]; exact H) | exact H
             have Ny150 := Aside0.mk hy150
             clear hy150
             obtain ⟨y152, hy152⟩ : ∃ y_ : List (List Bool), y_ = (x3_2.set (((rd_T105 l0_1 x22_2).f0) : Int).toNat y150) := ⟨_, rfl⟩
             replace H : (if ((rd_T105 l0_1 x22_2).f1) < (x3_2.length : Int) then (if ((rd_T105 l0_1 x22_2).f0) < ((rd_L4 y152 ((rd_T105 l0_1 x22_2).f1)).length : Int) then (spec_paTable.l1 k2 (y152.set (((rd_T105 l0_1 x22_2).f1) : Int).toNat ((rd_L4 y152 ((rd_T105 l0_1 x22_2).f1)).set (((rd_T105 l0_1 x22_2).f0) : Int).toNat true)) l0_1 (l0_1.length : Int) (wrap64 (x22_2 + 1))) else (none)) else (none)) = some r := by first | (rw [hy152]; with_reducible exact H) | (have H2_ := (Option.bind_some _ _).symm.trans H; rw [hy152]; with_reducible exact H2_) | (have H2_ := (Option.bind_some _ _).symm.trans H; with_reducible exact H2_) | with_reducible exact H | (rw [hy152]; exact H) | exact H
             have Ny152 := Aside0.mk hy152
             clear hy152
             by_cases c21 : ((rd_T105 l0_1 x22_2).f1) < (x3_2.length : Int)
             ·rw [if_pos c21] at H
              have c21b0 : decide (((rd_T105 l0_1 x22_2).f1) < (x3_2.length : Int)) = true := decide_eq_true c21
              clear c21
              by_cases c22 : ((rd_T105 l0_1 x22_2).f0) < ((rd_L4 y152 ((rd_T105 l0_1 x22_2).f1)).length : Int)
              ·rw [if_pos c22] at H
               have c22b0 : decide (((rd_T105 l0_1 x22_2).f0) < ((rd_L4 y152 ((rd_T105 l0_1 x22_2).f1)).length : Int)) = true := decide_eq_true c22
               clear c22
               obtain ⟨y154, hy154⟩ : ∃ y_ : List Bool, y_ = ((rd_L4 y152 ((rd_T105 l0_1 x22_2).f1)).set (((rd_T105 l0_1 x22_2).f0) : Int).toNat true) := ⟨_, rfl⟩
               replace H : (spec_paTable.l1 k2 (y152.set (((rd_T105 l0_1 x22_2).f1) : Int).toNat y154) l0_1 (l0_1.length : Int) (wrap64 (x22_2 + 1))) = some r := by first | (rw [hy154]; with_reducible exact H) | (have H2_ := (Option.bind_some _ _).symm.trans H; rw [hy154]; with_reducible exact H2_) | (have H2_ := (Option.bind_some _ _).symm.trans H; with_reducible exact H2_) | with_reducible exact H | (rw [hy154]; exact H) | exact H
               have Ny154 := Aside0.mk hy154
               clear hy154
               obtain ⟨y156, hy156⟩ : ∃ y_ : List (List Bool), y_ = (y152.set (((rd_T105 l0_1 x22_2).f1) : Int).toNat y154) := ⟨_, rfl⟩
               replace H : (spec_paTable.l1 k2 y156 l0_1 (l0_1.length : Int) (wrap64 (x22_2 + 1))) = some r := by first | (rw [hy156]; with_reducible exact H) | (have H2_ := (Option.bind_some _ _).symm.trans H; rw [hy156]; with_reducible exact H2_) | (have H2_ := (Option.bind_some _ _).symm.trans H; with_reducible exact H2_) | with_reducible exact H | (rw [hy156]; exact H) | exact H
               have Ny156 := Aside0.mk hy156
               clear hy156
               have H' := Aside0.mk H
               clear H
               have p147 : 0 ≤ (x22_2 : Int) := of_decide_eq_true (by first | (with_reducible assumption) | assumption)
               have q147 : x22_2 < (l0_1.length : Int) := of_decide_eq_true (by first | (with_reducible assumption) | assumption)
               obtain ⟨ad147, e147, hx147_0, hx147_1⟩ := at_T105 HR0_1.out x22_2 p147 q147
               cases e147
               replace hx147_0 := (HB.out.cell (World.block_lt_of_cell? w _ hx147_0)).trans hx147_0
               replace hx147_1 := (HB.out.cell (World.block_lt_of_cell? w _ hx147_1)).trans hx147_1
               replace p147 := eq_true p147
               replace q147 := eq_true q147
               try go_wp2_with (first | ((with_reducible refine gate_dst (N := 6) rfl ?_); refine bxE 6 #[.int .i64 0, .int .i64 0] 105 rfl ?_; intro gb148 hg w24 hbox hb; have BK148 := Aside0.mk (hbox); have GW148 := gS HB hg; have GE148 := gS HB hg; have NB140_148 := nL BK140 hg; have NB148_140 := nG BK140 hg; replace HO_3 := Aside0.mk (Kd.S_below (sU HO_3) hb); replace BK140 := bS BK140 hb; replace HB := hS HB hb; clear hb hbox hg; have hnb25 := NB148_140.out; have hnc25 := NB140_148.out; have hcz26_0 := cz BK148 0; have hcz26_1 := cz BK148 1; have hfz26_0 := fz BK148 0; have hfz26_1 := fz BK148 1))
               have n0_ : Aside0 (Kd.S (Kd.slice 4 Kd.bool) 72 ((w24.setCell ⟨gb148, 0, none⟩ (.int .i64 ((rd_T105 l0_1 x22_2).f0))).setCell ⟨gb148, 1, none⟩ (.int .i64 ((rd_T105 l0_1 x22_2).f1))) w.heap.size (fun _ => True) u3 x3_2) := ⟨by (with_reducible repeat (first | apply Kd.S_alloc | apply Kd.S_drewN | apply Kd.S_drew)); exact Kd.S_mono (Kd.S_far (p := ⟨gb148, 1, none⟩) (Kd.S_far (p := ⟨gb148, 0, none⟩) (Kd.S_types HO_3.out BK148.out (by decide)) (fun _ hk => hk.2) (.int .i64 ((rd_T105 l0_1 x22_2).f0))) (fun _ hk => hk.2) (.int .i64 ((rd_T105 l0_1 x22_2).f1))) (fun _ hk => trivial)⟩
               have n1_ : Aside0 (((w24.setCell ⟨gb148, 0, none⟩ (.int .i64 ((rd_T105 l0_1 x22_2).f0))).setCell ⟨gb148, 1, none⟩ (.int .i64 ((rd_T105 l0_1 x22_2).f1))).heap[gb140]? = some (.cells #[.int .i64 a0_0, .slice (some ad147) l0_1.length c0_1] 33 (0, 0))) := ⟨by (with_reducible repeat (first | refine blk_drewN ?_ _ | refine blk_drew ?_ | refine blk_alloc ?_ _)); refine blk_far ?_ NB140_148.out _; (with_reducible repeat (first | refine blk_drewN ?_ _ | refine blk_drew ?_ | refine blk_alloc ?_ _)); refine blk_far ?_ NB140_148.out _; (with_reducible repeat (first | refine blk_drewN ?_ _ | refine blk_drew ?_ | refine blk_alloc ?_ _)); exact BK140.out⟩
               have n2_ : Aside0 (((w24.setCell ⟨gb148, 0, none⟩ (.int .i64 ((rd_T105 l0_1 x22_2).f0))).setCell ⟨gb148, 1, none⟩ (.int .i64 ((rd_T105 l0_1 x22_2).f1))).heap[gb148]? = some (.cells #[.int .i64 ((rd_T105 l0_1 x22_2).f0), .int .i64 ((rd_T105 l0_1 x22_2).f1)] 105 (0, 0))) := ⟨by (with_reducible repeat (first | refine blk_drewN ?_ _ | refine blk_drew ?_ | refine blk_alloc ?_ _)); refine blk_put (cs := #[.int .i64 ((rd_T105 l0_1 x22_2).f0), .int .i64 0]) ?_ 1 _ rfl; (with_reducible repeat (first | refine blk_drewN ?_ _ | refine blk_drew ?_ | refine blk_alloc ?_ _)); refine blk_put (cs := #[.int .i64 0, .int .i64 0]) ?_ 0 _ rfl; (with_reducible repeat (first | refine blk_drewN ?_ _ | refine blk_drew ?_ | refine blk_alloc ?_ _)); exact BK148.out⟩
               have n3_ : Aside0 (Below w.heap.size w ((w24.setCell ⟨gb148, 0, none⟩ (.int .i64 ((rd_T105 l0_1 x22_2).f0))).setCell ⟨gb148, 1, none⟩ (.int .i64 ((rd_T105 l0_1 x22_2).f1)))) := ⟨hB⟩
               (try clear HO_3)
               (try clear BK140)
               (try clear BK148)
               (try clear HB)
               generalize ((w24.setCell ⟨gb148, 0, none⟩ (.int .i64 ((rd_T105 l0_1 x22_2).f0))).setCell ⟨gb148, 1, none⟩ (.int .i64 ((rd_T105 l0_1 x22_2).f1))) = w27 at n0_ n1_ n2_ n3_ ⊢
               have HO_3 := n0_
               have BK140 := n1_
               have BK148 := n2_
               have HB := n3_
               clear n0_ n1_ n2_ n3_
               replace HO_3 := Aside0.mk (Kd.S_drew HO_3.out)
               replace BK140 := Aside0.mk (blk_drew BK140.out)
               replace BK148 := Aside0.mk (blk_drew BK148.out)
               replace HB := Aside0.mk (below_drew1 HB.out)
               obtain ⟨Ao29, co29, eo29⟩ := Kd.S_slice HO_3.out
               (first | subst eo29 | (injection eo29 with f1_ f2_ f3_; have f4_ := f1_.symm; have f5_ := f3_.symm; clear f1_ f2_ f3_; subst f4_; subst f5_))
               have p149 : 0 ≤ (((rd_T105 l0_1 x22_2).f0) : Int) := of_decide_eq_true (by first | (with_reducible assumption) | assumption)
               have q149 : ((rd_T105 l0_1 x22_2).f0) < (x3_2.length : Int) := of_decide_eq_true (by first | (with_reducible assumption) | assumption)
               obtain ⟨ad149, A149_0, c149_0, e149, hx149_0, hl149_0, hi149_0⟩ := at_L4 (Kd.S_reads' HO_3.out).2.2 ((rd_T105 l0_1 x22_2).f0) p149 q149
               cases e149
               obtain ⟨ce149, hce149, hMe149, hcc149⟩ := Kd.S_get HO_3.out [] ((rd_T105 l0_1 x22_2).f0) p149 (by first | exact q149 | exact of_decide_eq_true (by first | (with_reducible assumption) | assumption) | (have e_ := (Kd.S_reads' HO_3.out).1; omega))
               obtain ⟨ve149_0, rfl, ge149_0⟩ := hMe149
               have hv149_0 := hcc149 0 _ rfl
               rw [Nat.add_zero, show ((Kd.slice 4 Kd.bool)).sz = 1 from rfl, Nat.mul_one] at hv149_0
               replace hv149_0 := Option.some.inj (hv149_0.symm.trans hx149_0)
               rw [hv149_0] at ge149_0
               have HL149_0 := Aside0.mk (show Kd.R Kd.bool 4 _ _ _ _ (rd_L4 x3_2 ((rd_T105 l0_1 x22_2).f0)) from ge149_0)
               clear hv149_0 ge149_0
               have HX149_0 := Aside0.mk hx149_0
               clear hcc149 hce149
               have HR149_0 := Aside0.mk hi149_0
               have HC149_0 := Aside0.mk hl149_0
               clear hi149_0 hl149_0
               replace p149 := eq_true p149
               replace q149 := eq_true q149
               have p20 : 0 ≤ (((rd_T105 l0_1 x22_2).f1) : Int) := of_decide_eq_true (by first | (with_reducible assumption) | assumption)
               have q20 : (((rd_T105 l0_1 x22_2).f1) : Int) < (((rd_L4 x3_2 ((rd_T105 l0_1 x22_2).f0)).length : Int) : Int) := of_decide_eq_true (by first | (with_reducible assumption) | assumption)
               obtain ⟨go20, co20, eo20, gb20, gl20, cl20, HG20⟩ := Kd.R_form HL149_0.out (by omega)
               (first | cases eo20 | (injection eo20 with ea_ en_ ec_; (first | subst ea_ | (injection ea_ with ea_; subst ea_)); subst ec_; clear en_))
               have GB20 := Aside0.mk gb20
               have GG20 := Aside0.mk HG20
               clear gb20 gl20 HG20
               obtain ⟨hx20_0, hf20_0⟩ := Kd.R_celln false HL149_0.out (((rd_T105 l0_1 x22_2).f1) : Int) p20 q20
               replace p20 := eq_true p20
               replace q20 := eq_true q20
               have hq30 : (((rd_T105 l0_1 x22_2).f0) : Int) < (x3_2.length : Int) := (by have h_ : (((rd_T105 l0_1 x22_2).f0) : Int) < ((x3_2.length : Int) : Int) := of_decide_eq_true (by first | (with_reducible assumption) | assumption); first | exact h_ | (have e_ := (Kd.S_reads' HO_3.out).1; omega) | simpa only [List.length_set, List.length_set] using h_)
               obtain ⟨oki30, ce30, hcl30, hM30, hcc30, hok30, hbk30⟩ := Kd.S_borrow HO_3.out [] (((rd_T105 l0_1 x22_2).f0) : Int) (of_decide_eq_true (by first | (with_reducible assumption) | assumption)) (by first | exact hq30 | exact of_decide_eq_true (by first | (with_reducible assumption) | assumption))
               obtain ⟨ve30_0, rfl, ge30_0⟩ := hM30
               have hv30 := hcc30 0 _ rfl
               rw [Nat.add_zero, show ((Kd.slice 4 Kd.bool)).sz = 1 from rfl, Nat.mul_one] at hv30
               replace hv30 := Option.some.inj (hv30.symm.trans HX149_0.out)
               subst hv30
               clear hcc30 hcl30
               replace ge30_0 := (show Kd.R Kd.bool 4 _ _ _ _ (rd_L4 x3_2 ((rd_T105 l0_1 x22_2).f0)) from ge30_0)
               have HP30 := Kd.R_putg ge30_0 (((rd_T105 l0_1 x22_2).f1) : Int) true
               rw [← Ny150.out] at HP30
               have HS30 := hbk30 HP30.2 (fun k_ e_ => by injection e_ with e_; subst e_; exact ge30_0.1 _ rfl) (x' := y150) (Kd.M_row HP30.1)
               rw [← Ny152.out] at HS30
               have HQ30 := Aside0.mk HS30
               clear HP30 HS30 hbk30 hok30
               refine start_ (n := 9) (S := fun w' => w'.cell? ⟨gb148, 0, none⟩ = some (.int .i64 ((rd_T105 l0_1 x22_2).f0)) ∧ w'.cell? ⟨gb148, 1, none⟩ = some (.int .i64 ((rd_T105 l0_1 x22_2).f1)) ∧ w'.cell? (ad149.add (((rd_T105 l0_1 x22_2).f0)).toNat) = some (.slice (some ⟨go20, 0, none⟩) (rd_L4 x3_2 ((rd_T105 l0_1 x22_2).f0)).length c149_0)) (ds := [8]) (bz 9 0) (by kernel_rfl) rfl rfl ⟨(blk_cell BK148.out 0).trans rfl, (blk_cell BK148.out 1).trans rfl, hx149_0⟩ (fun hHeld => ?_); refine with_tabW spec_paTable.tab9 spec_paTable.bits9 (fun HT_ HW_ => ?_)
               generalize w27.drew = w28 at HO_3 BK140 BK148 HB GG20 HL149_0 HQ30 HR149_0 HX149_0 hf20_0 hx149_0 hx20_0 hHeld ⊢
               refine run_ [(0, 0, 1, some 26), (0, 1, 3, some 27), (0, 5, 35, some 31), (1, 2, 39, some 28), (0, 3, 47, some 29), (1, 4, 63, some 30), (1, 6, 127, some 32), (0, 7, 255, some 33)] ?_
               repeat (first | (apply tag0; refine run_p (v := ?_) (a' := ?_) rfl rfl (any_of HT_.out (by kernel_rfl)) (fun _ _ _ h => h) (by rfl) ?_ ?_ ?_; rotate_left 2; (intro w'; go_simp; with_reducible rfl); (first | (simp only [Act.put, List.setIfInBounds_toArray, List.set_cons_zero, List.set_cons_succ, i64_w, i32_w]; rfl) | rfl)) | (apply tag1; refine run_t (v := ?_) (a' := ?_) rfl rfl (take_ofW HT_.out HW_.out (by kernel_rfl)) (fun _ _ _ h => h) (by rfl) ?_ hHeld ?_ ?_; rotate_left 2; (rintro w' ⟨s0, s1, s2⟩; go_simp; with_reducible rfl); (first | (simp only [Act.put, List.setIfInBounds_toArray, List.set_cons_zero, List.set_cons_succ, i64_w, i32_w]; rfl) | rfl)))
               refine run_nil ?_
               refine last_ (i := 8) (N := none) (bz 9 511) rfl rfl (one_of HT_.out (by kernel_rfl)) (by decide) (fun K hK => ?_)
               refine skip_ (w1 := ?_) (by rfl) rfl ?_ ?_
               rotate_left
               ·go_simp
                rfl
               refine hK.out _ _ ?_
               clear hK K
               refine done_ (done_of HT_.out (by kernel_rfl)) ?_
               try go_wp2
               have n0_ : Aside0 (Kd.S (Kd.slice 4 Kd.bool) 72 (w28.setCell ⟨go20, (((rd_T105 l0_1 x22_2).f1) : Int).toNat, none⟩ (.bool true)) w.heap.size (fun _ => True) (.slice (some ad149) x3_2.length co29) y152) := ⟨by (with_reducible repeat (first | apply Kd.S_alloc | apply Kd.S_drewN | apply Kd.S_drew)); exact HQ30.out⟩
               have n1_ : Aside0 ((w28.setCell ⟨go20, (((rd_T105 l0_1 x22_2).f1) : Int).toNat, none⟩ (.bool true)).heap[gb140]? = some (.cells #[.int .i64 a0_0, .slice (some ad147) l0_1.length c0_1] 33 (0, 0))) := ⟨by (with_reducible repeat (first | refine blk_drewN ?_ _ | refine blk_drew ?_ | refine blk_alloc ?_ _)); refine blk_far ?_ (by have h_ := Kd.R_ne HL149_0.out BK140.out (by decide); intro e_; exact h_ (by rw [e_]; rfl)) _; (with_reducible repeat (first | refine blk_drewN ?_ _ | refine blk_drew ?_ | refine blk_alloc ?_ _)); exact BK140.out⟩
               have n2_ : Aside0 ((w28.setCell ⟨go20, (((rd_T105 l0_1 x22_2).f1) : Int).toNat, none⟩ (.bool true)).heap[gb148]? = some (.cells #[.int .i64 ((rd_T105 l0_1 x22_2).f0), .int .i64 ((rd_T105 l0_1 x22_2).f1)] 105 (0, 0))) := ⟨by (with_reducible repeat (first | refine blk_drewN ?_ _ | refine blk_drew ?_ | refine blk_alloc ?_ _)); refine blk_far ?_ (by have h_ := Kd.R_ne HL149_0.out BK148.out (by decide); intro e_; exact h_ (by rw [e_]; rfl)) _; (with_reducible repeat (first | refine blk_drewN ?_ _ | refine blk_drew ?_ | refine blk_alloc ?_ _)); exact BK148.out⟩
               have n3_ : Aside0 (Below w.heap.size w (w28.setCell ⟨go20, (((rd_T105 l0_1 x22_2).f1) : Int).toNat, none⟩ (.bool true))) := ⟨by repeat (first | (with_reducible first | exact HB.out | apply below_alloc | apply pw_below_drewN | apply below_drew1 | refine below_set ?_ GB20.out | refine below_set ?_ GE140.out | refine below_set ?_ GE148.out) | exact HB.out)⟩
               (try clear HO_3)
               (try clear BK140)
               (try clear BK148)
               (try clear HB)
               generalize (w28.setCell ⟨go20, (((rd_T105 l0_1 x22_2).f1) : Int).toNat, none⟩ (.bool true)) = w32 at n0_ n1_ n2_ n3_ ⊢
               have HO_3 := n0_
               have BK140 := n1_
               have BK148 := n2_
               have HB := n3_
               clear n0_ n1_ n2_ n3_
               replace HO_3 := Aside0.mk (Kd.S_drew HO_3.out)
               replace BK140 := Aside0.mk (blk_drew BK140.out)
               replace BK148 := Aside0.mk (blk_drew BK148.out)
               replace HB := Aside0.mk (below_drew1 HB.out)
               have p153 : 0 ≤ (((rd_T105 l0_1 x22_2).f1) : Int) := of_decide_eq_true (by first | (with_reducible assumption) | assumption)
               have q153 : ((rd_T105 l0_1 x22_2).f1) < (y152.length : Int) := (by have h_ : (((rd_T105 l0_1 x22_2).f1) : Int) < ((x3_2.length : Int) : Int) := of_decide_eq_true (by first | (with_reducible assumption) | assumption); first | (have e_ := (Kd.S_reads' HO_3.out).1; omega) | simpa only [Ny152.out, List.length_set] using h_)
               have ql153 : ((((rd_T105 l0_1 x22_2).f1) : Int) < ((x3_2.length : Int) : Int)) = True := eq_true (of_decide_eq_true (by first | (with_reducible assumption) | assumption))
               obtain ⟨ad153, A153_0, c153_0, e153, hx153_0, hl153_0, hi153_0⟩ := at_L4 (Kd.S_reads' HO_3.out).2.2 ((rd_T105 l0_1 x22_2).f1) p153 q153
               obtain rfl : ad149 = ad153 := (by injection e153)
               obtain ⟨ce153, hce153, hMe153, hcc153⟩ := Kd.S_get HO_3.out [] ((rd_T105 l0_1 x22_2).f1) p153 (by first | exact q153 | exact of_decide_eq_true (by first | (with_reducible assumption) | assumption) | (have e_ := (Kd.S_reads' HO_3.out).1; omega))
               obtain ⟨ve153_0, rfl, ge153_0⟩ := hMe153
               have hv153_0 := hcc153 0 _ rfl
               rw [Nat.add_zero, show ((Kd.slice 4 Kd.bool)).sz = 1 from rfl, Nat.mul_one] at hv153_0
               replace hv153_0 := Option.some.inj (hv153_0.symm.trans hx153_0)
               rw [hv153_0] at ge153_0
               have HL153_0 := Aside0.mk (show Kd.R Kd.bool 4 _ _ _ _ (rd_L4 y152 ((rd_T105 l0_1 x22_2).f1)) from ge153_0)
               clear hv153_0 ge153_0
               have HX153_0 := Aside0.mk hx153_0
               clear hcc153 hce153
               have HR153_0 := Aside0.mk hi153_0
               have HC153_0 := Aside0.mk hl153_0
               clear hi153_0 hl153_0
               replace p153 := eq_true p153
               replace q153 := eq_true q153
               have p23 : 0 ≤ (((rd_T105 l0_1 x22_2).f0) : Int) := of_decide_eq_true (by first | (with_reducible assumption) | assumption)
               have q23 : (((rd_T105 l0_1 x22_2).f0) : Int) < (((rd_L4 y152 ((rd_T105 l0_1 x22_2).f1)).length : Int) : Int) := of_decide_eq_true (by first | (with_reducible assumption) | assumption)
               obtain ⟨go23, co23, eo23, gb23, gl23, cl23, HG23⟩ := Kd.R_form HL153_0.out (by omega)
               (first | cases eo23 | (injection eo23 with ea_ en_ ec_; (first | subst ea_ | (injection ea_ with ea_; subst ea_)); subst ec_; clear en_))
               have GB23 := Aside0.mk gb23
               have GG23 := Aside0.mk HG23
               clear gb23 gl23 HG23
               obtain ⟨hx23_0, hf23_0⟩ := Kd.R_celln false HL153_0.out (((rd_T105 l0_1 x22_2).f0) : Int) p23 q23
               replace p23 := eq_true p23
               replace q23 := eq_true q23
               have hq34 : (((rd_T105 l0_1 x22_2).f1) : Int) < (y152.length : Int) := (by have h_ : (((rd_T105 l0_1 x22_2).f1) : Int) < ((x3_2.length : Int) : Int) := of_decide_eq_true (by first | (with_reducible assumption) | assumption); first | exact h_ | (have e_ := (Kd.S_reads' HO_3.out).1; omega) | simpa only [Ny152.out, List.length_set] using h_)
               obtain ⟨oki34, ce34, hcl34, hM34, hcc34, hok34, hbk34⟩ := Kd.S_borrow HO_3.out [] (((rd_T105 l0_1 x22_2).f1) : Int) (of_decide_eq_true (by first | (with_reducible assumption) | assumption)) (by first | exact hq34 | exact of_decide_eq_true (by first | (with_reducible assumption) | assumption))
               obtain ⟨ve34_0, rfl, ge34_0⟩ := hM34
               have hv34 := hcc34 0 _ rfl
               rw [Nat.add_zero, show ((Kd.slice 4 Kd.bool)).sz = 1 from rfl, Nat.mul_one] at hv34
               replace hv34 := Option.some.inj (hv34.symm.trans HX153_0.out)
               subst hv34
               clear hcc34 hcl34
               replace ge34_0 := (show Kd.R Kd.bool 4 _ _ _ _ (rd_L4 y152 ((rd_T105 l0_1 x22_2).f1)) from ge34_0)
               have HP34 := Kd.R_putg ge34_0 (((rd_T105 l0_1 x22_2).f0) : Int) true
               rw [← Ny154.out] at HP34
               have HS34 := hbk34 HP34.2 (fun k_ e_ => by injection e_ with e_; subst e_; exact ge34_0.1 _ rfl) (x' := y154) (Kd.M_row HP34.1)
               rw [← Ny156.out] at HS34
               have HQ34 := Aside0.mk HS34
               clear HP34 HS34 hbk34 hok34
               refine start_ (n := 9) (S := fun w' => w'.cell? ⟨gb148, 0, none⟩ = some (.int .i64 ((rd_T105 l0_1 x22_2).f0)) ∧ w'.cell? ⟨gb148, 1, none⟩ = some (.int .i64 ((rd_T105 l0_1 x22_2).f1)) ∧ w'.cell? (ad149.add (((rd_T105 l0_1 x22_2).f1)).toNat) = some (.slice (some ⟨go23, 0, none⟩) (rd_L4 y152 ((rd_T105 l0_1 x22_2).f1)).length c153_0)) (ds := [8]) (bz 9 0) (by kernel_rfl) rfl rfl ⟨(blk_cell BK148.out 0).trans rfl, (blk_cell BK148.out 1).trans rfl, hx153_0⟩ (fun hHeld => ?_); refine with_tabW spec_paTable.tab10 spec_paTable.bits10 (fun HT_ HW_ => ?_)
               generalize w32.drew = w33 at HO_3 BK140 BK148 HB GG23 HL153_0 HQ30 HQ34 HR153_0 HX153_0 hf23_0 hx153_0 hx23_0 hHeld ⊢
               refine run_ [(0, 0, 1, some 34), (0, 1, 3, some 35), (0, 5, 35, some 39), (1, 2, 39, some 36), (0, 3, 47, some 37), (1, 4, 63, some 38), (1, 6, 127, some 40), (0, 7, 255, some 41)] ?_
               repeat (first | (apply tag0; refine run_p (v := ?_) (a' := ?_) rfl rfl (any_of HT_.out (by kernel_rfl)) (fun _ _ _ h => h) (by rfl) ?_ ?_ ?_; rotate_left 2; (intro w'; go_simp; with_reducible rfl); (first | (simp only [Act.put, List.setIfInBounds_toArray, List.set_cons_zero, List.set_cons_succ, i64_w, i32_w]; rfl) | rfl)) | (apply tag1; refine run_t (v := ?_) (a' := ?_) rfl rfl (take_ofW HT_.out HW_.out (by kernel_rfl)) (fun _ _ _ h => h) (by rfl) ?_ hHeld ?_ ?_; rotate_left 2; (rintro w' ⟨s0, s1, s2⟩; go_simp; with_reducible rfl); (first | (simp only [Act.put, List.setIfInBounds_toArray, List.set_cons_zero, List.set_cons_succ, i64_w, i32_w]; rfl) | rfl)))
               refine run_nil ?_
               refine last_ (i := 8) (N := none) (bz 9 511) rfl rfl (one_of HT_.out (by kernel_rfl)) (by decide) (fun K hK => ?_)
               refine skip_ (w1 := ?_) (by rfl) rfl ?_ ?_
               rotate_left
               ·go_simp
                rfl
               refine hK.out _ _ ?_
               clear hK K
               refine done_ (done_of HT_.out (by kernel_rfl)) ?_
               try go_wp2
               go_roundg k2
               case measure => have := HK1.out; have := HK2.out; omega
               case rel => exact ⟨(y156), (wrap64 (x22_2 + 1)), (by first | rfl | (simp; done) | (simp [*]; done)), H', ⟨by have := HK1.out; have := HK2.out; omega⟩, ⟨by (with_reducible repeat (first | apply Kd.S_alloc | apply Kd.S_drewN | apply Kd.S_drew)); exact HQ34.out⟩, ⟨by (with_reducible repeat (first | refine blk_drewN ?_ _ | refine blk_drew ?_ | refine blk_alloc ?_ _)); refine blk_far ?_ (by have h_ := Kd.R_ne HL153_0.out BK140.out (by decide); intro e_; exact h_ (by rw [e_]; rfl)) _; (with_reducible repeat (first | refine blk_drewN ?_ _ | refine blk_drew ?_ | refine blk_alloc ?_ _)); exact BK140.out⟩, ⟨by repeat (first | (with_reducible first | exact HB.out | apply below_alloc | apply pw_below_drewN | apply below_drew1 | refine below_set ?_ GB23.out | refine below_set ?_ GE140.out | refine below_set ?_ GE148.out) | exact HB.out)⟩⟩
              ·rw [if_neg c22] at H
               exact absurd H (by simp)
             ·rw [if_neg c21] at H
              exact absurd H (by simp)
            ·rw [if_neg c19] at H
             exact absurd H (by simp)
           ·rw [if_neg c18] at H
            exact absurd H (by simp)
          ·rw [if_neg c17] at H
           exact absurd H (by simp)
         ·rw [if_neg c16] at H
          exact absurd H (by simp)
        ·rw [if_neg c15] at H
         exact absurd H (by simp)
       ·rw [if_neg c14] at H
        exact absurd H (by simp)
      ·rw [if_neg c13] at H
       have c13b0 : decide (x22_2 < (l0_1.length : Int)) = false := decide_eq_false c13
       clear c13
       obtain rfl := Option.some.inj H
       go_wp2
       go_ret
       exact ⟨_, by first | rfl | (simp [errW_none, errW_some] <;> rfl) | (simp [*, errW_none, errW_some] <;> rfl), sU HO_3, hB⟩

/-! ### spec_l1Own: function 143 -/
def spec_l1Own.f (l0 : List Int) : Option (List Int) := (some (([] : List Int) : List Int)).bind fun y157 => (if y157.length + l0.length < 17592186044416 then (some (y157 ++ l0)) else (none))
set_option maxHeartbeats 8000000 in
set_option maxRecDepth 100000 in
theorem spec_l1Own.calls (A0 : Option Addr) (c0 : Nat) (l0 : List Int) (r : List Int) (w : World) (hr0 : Kd.C (Kd.int .i64) w A0 l0.length l0) (hc0 : l0.length ≤ c0) (h : spec_l1Own.f l0 = some r) :
  Calls Tryd.prog 143 #[.slice A0 l0.length c0] w fun e w' => ∃ v0_ : Value, e = .returned (v0_) ∧ Kd.R (Kd.int .i64) 3 w' w.heap.size (fun _ => True) v0_ r ∧ Below w.heap.size w w' := by
 have HR0 := Aside0.mk hr0
 have HC0 := Aside0.mk hc0
 clear hr0 hc0
 have HB := Aside0.mk (Below.refl w.heap.size w)
 have H : ((some (([] : List Int) : List Int)).bind fun y157 => (if y157.length + l0.length < 17592186044416 then (some (y157 ++ l0)) else (none))) = some r := h
 clear h
 obtain ⟨y157, hy157⟩ : ∃ y_ : List Int, y_ = (([] : List Int)) := ⟨_, rfl⟩
 replace H : (if y157.length + l0.length < 17592186044416 then (some (y157 ++ l0)) else (none)) = some r := by first | (rw [hy157]; with_reducible exact H) | (have H2_ := (Option.bind_some _ _).symm.trans H; rw [hy157]; with_reducible exact H2_) | (have H2_ := (Option.bind_some _ _).symm.trans H; with_reducible exact H2_) | with_reducible exact H | (rw [hy157]; exact H) | exact H
 have Ny157 := Aside0.mk hy157
 clear hy157
 by_cases c2 : y157.length + l0.length < 17592186044416
 ·rw [if_pos c2] at H
  have LMc2 := Aside0.mk c2
  clear c2
  obtain ⟨y160, hy160⟩ : ∃ y_ : List Int, y_ = (y157 ++ l0) := ⟨_, rfl⟩
  replace H : (some y160) = some r := by first | (rw [hy160]; with_reducible exact H) | (have H2_ := (Option.bind_some _ _).symm.trans H; rw [hy160]; with_reducible exact H2_) | (have H2_ := (Option.bind_some _ _).symm.trans H; with_reducible exact H2_) | with_reducible exact H | (rw [hy160]; exact H) | exact H
  have Ny160 := Aside0.mk hy160
  clear hy160
  obtain rfl := Option.some.inj H
  go_enter Tryd.func143, Tryd.ntmps143
  go_wp2_with (first | ((with_reducible refine gate_dst (N := 3) rfl ?_); refine Kd.R_lit (Kd.int .i64) _ 3 ?hg (N := 3) ?hd (xs := ([] : List Int)) (inner := []) (ok := fun _ => True) (okp := fun _ => True) ?hr ?hp (fun _ hk => hk) trivial (Below.refl _ _) (Nat.le_refl _) (by simp) ?_; (case hd => rfl); (case hg => rfl); (case hr => first | (go_simp; done) | (go_simp; rfl)); (case hp => exact (Reps.none _ _)); intro v158 w3 ho4 hb hg_ hnew_; clear hg_ hnew_; (first | rw [← Ny157.out] at ho4 | (simp only [Int.reduceToNat] at ho4; rw [← Ny157.out] at ho4)); have HO159 := Aside0.mk (Kd.R_lower ho4 (below_size hB)); replace HB := hS HB hb; clear hb ho4) | ((with_reducible refine gate_builtin (b := .append) (xs := #[.tmp 3, .tmp 4]) rfl ?_); at_builtin; refine Kd.R_append_rows (Kd.int .i64) (w0 := w) w.heap.size rfl (.tmp 3) (.tmp 4) 75 3 (.int .i64 0) 8 rfl Tryd.underlying75 info3 rfl (by decide) (by omega) v158 y157 l0 _ _ _ (fun _ => True) (fun _ => False) rfl rfl ?aO ?aR (fun _ _ h => h) (fun _ h => h.elim) ?aF ?aB ?aS ?aL ?_; (case aR => repeat (first | exact (Kd.C_below HR0.out HB.out) | (with_reducible refine Kd.C_alloc ?_ _) | (with_reducible refine Kd.C_drewN ?_ _) | (with_reducible refine Kd.C_drew ?_))); (case aB => exact hB); (case aF => exact (fun _ _ => trivial)); (case aO => exact (rU HO159)); (case aS => exact (below_size hB)); (case aL => have := LMc2.out; omega); intro v161 w5 ho hb hg hat; rw [← Ny160.out] at ho; have HO162 := Aside0.mk (ho); replace HB := Aside0.mk (hb); clear HO159; clear ho hb hg hat))
  go_ret
  exact ⟨_, by first | rfl | (simp [errW_none, errW_some] <;> rfl) | (simp [*, errW_none, errW_some] <;> rfl), rU HO162, hB⟩
 ·rw [if_neg c2] at H
  exact absurd H (by simp)

/-! ### spec_l1Has: function 144 -/
def spec_l1Has.l0 : Nat → Int → List Int → Int → Int → Option (Bool)
 | 0, _, _, _, _ => none
 | k + 1, x1, x7, x8, x9 => if x9 < x8 then (if 0 ≤ x9 then (if x9 < (x7.length : Int) then (if (rd x7 x9) = x1 then (some true) else (spec_l1Has.l0 k x1 x7 x8 (wrap64 (x9 + 1)))) else (none)) else (none)) else (some false)
def spec_l1Has.f (k : Nat) (l0 : List Int) (a1 : Int) : Option (Bool) := spec_l1Has.l0 k a1 l0 (l0.length : Int) 0
theorem spec_l1Has.mono_l : ∀ k, (∀ y0 y1 y2 y3, LeO (spec_l1Has.l0 k y0 y1 y2 y3) (spec_l1Has.l0 (k + 1) y0 y1 y2 y3))
 | 0 => fun _ _ _ _ r h => by simp [spec_l1Has.l0] at h
 | k + 1 => by
  have ih0 := spec_l1Has.mono_l k
  ·intro y0 y1 y2 y3
   unfold spec_l1Has.l0
   repeat' first
   | (with_reducible exact ih0 _ _ _ _)
   | (with_reducible exact LeO.refl _)
   | (with_reducible exact LeO.none _)
   | (with_reducible refine LeO.ite ?_ ?_)
   | (with_reducible refine LeO.bind ?_ (fun _ => ?_))
   | exact ih0 _ _ _ _
   | exact LeO.none _
   | refine LeO.ite ?_ ?_
   | refine LeO.bind ?_ (fun _ => ?_)
theorem spec_l1Has.mono : ∀ a0 a1 k, LeO (spec_l1Has.f k a0 a1) (spec_l1Has.f (k + 1) a0 a1) := by
 intro a0 a1 k
 have ih0 := spec_l1Has.mono_l k
 unfold spec_l1Has.f
 repeat' first
   | (with_reducible exact ih0 _ _ _ _)
   | (with_reducible exact LeO.refl _)
   | (with_reducible exact LeO.none _)
   | (with_reducible refine LeO.ite ?_ ?_)
   | (with_reducible refine LeO.bind ?_ (fun _ => ?_))
   | exact ih0 _ _ _ _
   | exact LeO.none _
   | refine LeO.ite ?_ ?_
   | refine LeO.bind ?_ (fun _ => ?_)
set_option maxHeartbeats 8000000 in
set_option maxRecDepth 100000 in
theorem spec_l1Has.calls (k : Nat) (A0 : Option Addr) (c0 : Nat) (l0 : List Int) (a1 : Int) (r : Bool) (w : World) (hr0 : Kd.C (Kd.int .i64) w A0 l0.length l0) (hc0 : l0.length ≤ c0) (h : spec_l1Has.f k l0 a1 = some r) :
  Calls Tryd.prog 144 #[.slice A0 l0.length c0, .int .i64 a1] w fun e w' => e = .returned (.bool r) ∧ Drawn0 w w' := by
 have HR0 := Aside0.mk hr0
 have HC0 := Aside0.mk hc0
 clear hr0 hc0
 have H : (spec_l1Has.l0 k a1 l0 (l0.length : Int) 0) = some r := h
 clear h
 have H' := Aside0.mk H
 clear H
 go_enter Tryd.func144, Tryd.ntmps144
 go_wp2
 go_loopg [9] k (fun kq v9 w' => ∃ (x9_1 : Int), v9 = .int .i64 x9_1 ∧ Aside0 (spec_l1Has.l0 kq a1 l0 (l0.length : Int) x9_1 = some r) ∧ Aside0 (kq ≤ k) ∧ Drawn0 w w')
 case atStart => exact ⟨(0), (by first | rfl | (simp; done) | (simp [*]; done)), H', ⟨Nat.le_refl _⟩, by repeat (first | exact Drawn0.refl _ | apply Drawn0.step)⟩
 case round =>
  clear H'
  try clear c1
  try clear p2
  obtain ⟨x9_1, rfl, HA, HK1, ⟨m1, rfl⟩⟩ := hrel
  cases gk with
  | zero => exact absurd HA.out (by simp [spec_l1Has.l0])
  | succ k1 =>
   have H := HA.out
   clear HA
   simp only [spec_l1Has.l0] at H
   by_cases c3 : x9_1 < (l0.length : Int)
   ·rw [if_pos c3] at H
    have c3b0 : decide (x9_1 < (l0.length : Int)) = true := decide_eq_true c3
    clear c3
    by_cases c4 : 0 ≤ x9_1
    ·rw [if_pos c4] at H
     have c4b0 : decide (0 ≤ x9_1) = true := decide_eq_true c4
     clear c4
     by_cases c5 : x9_1 < (l0.length : Int)
     ·rw [if_pos c5] at H
      have c5b0 : decide (x9_1 < (l0.length : Int)) = true := decide_eq_true c5
      clear c5
      by_cases c6 : (rd l0 x9_1) = a1
      ·rw [if_pos c6] at H
       have c6b0 : ((rd l0 x9_1) == a1) = true := beq_iff_eq.mpr c6
       have c6b1 : ((rd l0 x9_1) != a1) = false := bne_eq_false_iff_eq.mpr c6
       clear c6
       obtain rfl := Option.some.inj H
       have p163 : 0 ≤ (x9_1 : Int) := of_decide_eq_true (by first | (with_reducible assumption) | assumption)
       have q163 : x9_1 < (l0.length : Int) := of_decide_eq_true (by first | (with_reducible assumption) | assumption)
       obtain ⟨ad163, e163, hx163_0⟩ := Kd.at_int HR0.out x9_1 p163 q163
       cases e163
       replace p163 := eq_true p163
       replace q163 := eq_true q163
       go_wp2
       go_ret
       exact ⟨by first | rfl | (simp; done) | (simp [*]; done), by repeat (first | exact Drawn0.refl _ | apply Drawn0.step)⟩
      ·rw [if_neg c6] at H
       have c6b0 : ((rd l0 x9_1) == a1) = false := beq_eq_false_iff_ne.mpr c6
       have c6b1 : ((rd l0 x9_1) != a1) = true := bne_iff_ne.mpr c6
       have H' := Aside0.mk H
       clear H
       have p163 : 0 ≤ (x9_1 : Int) := of_decide_eq_true (by first | (with_reducible assumption) | assumption)
       have q163 : x9_1 < (l0.length : Int) := of_decide_eq_true (by first | (with_reducible assumption) | assumption)
       obtain ⟨ad163, e163, hx163_0⟩ := Kd.at_int HR0.out x9_1 p163 q163
       cases e163
       replace p163 := eq_true p163
       replace q163 := eq_true q163
       go_wp2
       go_roundg k1
       case measure => have := HK1.out; omega
       case rel => exact ⟨(wrap64 (x9_1 + 1)), (by first | rfl | (simp; done) | (simp [*]; done)), H', ⟨by have := HK1.out; omega⟩, by repeat (first | exact Drawn0.refl _ | apply Drawn0.step)⟩
     ·rw [if_neg c5] at H
      exact absurd H (by simp)
    ·rw [if_neg c4] at H
     exact absurd H (by simp)
   ·rw [if_neg c3] at H
    have c3b0 : decide (x9_1 < (l0.length : Int)) = false := decide_eq_false c3
    clear c3
    obtain rfl := Option.some.inj H
    go_wp2
    go_ret
    exact ⟨by first | rfl | (simp; done) | (simp [*]; done), by repeat (first | exact Drawn0.refl _ | apply Drawn0.step)⟩

/-! ### spec_taLook: function 122 (a text of this session's own) -/

def spec_taLook.T3 : Bool × List (List Nat × List Nat) := (true, [([], []), ([0], [0]), ([1], [1]), ([2, 1], [1, 2]), ([3, 1, 1], [1, 3]), ([4], [4]), ([4], [4]), ([5, 6, 4], [4, 5, 6]), ([7, 4], [4, 7]), ([4], [4]), ([9, 4], [4, 9]), ([10, 4], [4, 10]), ([8, 11, 4], [4, 8, 11]), ([12, 4], [4, 12]), ([13, 4], [4, 13]), ([4, 14, 1], [1, 4, 14]), ([15, 4, 1], [1, 15]), ([16], [16]), ([17, 16], [16, 17]), ([18, 16], [16, 18]), ([16], [16]), ([19, 20, 16], [16, 19, 20]), ([16, 21, 1], [1, 16, 21]), ([1, 22], [1, 22])])
def spec_taLook.B3 : List Nat := [0, 1, 3, 7, 15, 31, 31, 127, 255, 31, 543, 1567, 4095, 8191, 16383, 32767, 65535, 131071, 262143, 524287, 131071, 2097151, 4194303, 8388607]
theorem spec_taLook.tab3 : rtab .any (opsOf Tryd.f122 3) = spec_taLook.T3 := by kernel_rfl
theorem spec_taLook.bits3 : waitsOk spec_taLook.T3.2 spec_taLook.B3 = true := by kernel_rfl
mutual
/-- Of seats in a row, how many rows go on with them (the search that does not go around). -/
def spec_taLook.l0 : Nat → List (List Bool) → List Int → List Bool → Int → Int → Option Int
 | 0, _, _, _, _, _ => none
 | k + 1, t, s, L, i, c => if i < (L.length : Int) then (if 0 ≤ i then (if rdOf false L i = true then ((spec_l1Has.f k s i).bind fun h => if h = true then spec_taLook.l0 k t s L (wrap64 (i + 1)) c else ((spec_l1Own.f s).bind fun q => if q.length < 17592186044416 then ((spec_taLook.f k t (q ++ [i]) c).bind fun c2 => spec_taLook.l0 k t s L (wrap64 (i + 1)) c2) else none)) else spec_taLook.l0 k t s L (wrap64 (i + 1)) c) else none) else some c
def spec_taLook.f : Nat → List (List Bool) → List Int → Int → Option Int
 | 0, _, _, _ => none
 | k + 1, t, s, c => if 0 ≤ wrap64 ((s.length : Int) - 1) then (if wrap64 ((s.length : Int) - 1) < (s.length : Int) then (if (s.length : Int) = (t.length : Int) then (if c = 0 then ((spec_l1Own.f s).bind fun _ => some (wrap64 (c + 1))) else some (wrap64 (c + 1))) else (if 0 ≤ rd s (wrap64 ((s.length : Int) - 1)) then (if rd s (wrap64 ((s.length : Int) - 1)) < (t.length : Int) then spec_taLook.l0 k t s (t.getD (rd s (wrap64 ((s.length : Int) - 1))).toNat []) 0 c else none) else none)) else none) else none
end
theorem spec_taLook.mono_l : ∀ k, (∀ y0 y1 y2 y3 y4, LeO (spec_taLook.l0 k y0 y1 y2 y3 y4) (spec_taLook.l0 (k + 1) y0 y1 y2 y3 y4)) ∧ (∀ y0 y1 y2, LeO (spec_taLook.f k y0 y1 y2) (spec_taLook.f (k + 1) y0 y1 y2))
 | 0 => ⟨fun _ _ _ _ _ r h => by simp [spec_taLook.l0] at h, fun _ _ _ r h => by simp [spec_taLook.f] at h⟩
 | k + 1 => by
  obtain ⟨ih0, ih1⟩ := spec_taLook.mono_l k
  refine ⟨?_, ?_⟩
  · intro y0 y1 y2 y3 y4
    unfold spec_taLook.l0
    repeat' first
      | (with_reducible exact ih0 _ _ _ _ _)
      | (with_reducible exact ih1 _ _ _)
      | (with_reducible exact spec_l1Has.mono _ _ _)
      | (with_reducible exact LeO.refl _)
      | (with_reducible exact LeO.none _)
      | (with_reducible refine LeO.ite ?_ ?_)
      | (with_reducible refine LeO.bind ?_ (fun _ => ?_))
  · intro y0 y1 y2
    unfold spec_taLook.f
    repeat' first
      | (with_reducible exact ih0 _ _ _ _ _)
      | (with_reducible exact LeO.refl _)
      | (with_reducible exact LeO.none _)
      | (with_reducible refine LeO.ite ?_ ?_)
      | (with_reducible refine LeO.bind ?_ (fun _ => ?_))
/-- What a call leaves: the count and the first one in their places, and all else that lay there. -/
structure spec_taLook.St (w : World) (base bc bf : Nat) (w' : World) (c : Int) : Prop where
  cnt : w'.heap[bc]? = some (.cells #[.int .i64 c] 3 (0, 0))
  fst : ∃ v, w'.heap[bf]? = some (.cells #[v] 75 (0, 0))
  below : Below base w w'
  keep : ∀ k, (k ≠ bc ∧ k ≠ bf) → k < w.heap.size → w'.heap[k]? = w.heap[k]?
section
variable {w w' w'' : World} {base bc bf : Nat} {c c' : Int}
theorem spec_taLook.St.foot {α : Type} {d : Kd α} {A : Option Addr} {n : Nat} {xs : List α} (s : spec_taLook.St w base bc bf w' c) (h : Kd.F d w (fun k => k ≠ bc ∧ k ≠ bf) A n xs) : Kd.F d w' (fun k => k ≠ bc ∧ k ≠ bf) A n xs :=
  Kd.F_mono (Kd.F_step (Kd.F_bound h) (fun k hk hlt => s.keep k hk.1 hlt)) (fun _ hk => hk.1)
theorem spec_taLook.St.later (s : spec_taLook.St w base bc bf w' c) (hbase : base ≤ w.heap.size) (hb : Below w'.heap.size w' w'') : spec_taLook.St w base bc bf w'' c := by
  obtain ⟨v, hv⟩ := s.fst
  exact ⟨blk_below s.cnt hb, ⟨v, blk_below hv hb⟩, below_then s.below (Nat.le_trans hbase s.below.size) hb, fun k hk hl => (hb.block k (Nat.lt_of_lt_of_le hl s.below.size)).trans (s.keep k hk hl)⟩
theorem spec_taLook.St.trans (s : spec_taLook.St w base bc bf w' c) (u : spec_taLook.St w' base bc bf w'' c') : spec_taLook.St w base bc bf w'' c' :=
  ⟨u.cnt, u.fst, s.below.trans u.below, fun k hk hl => (u.keep k hk (Nat.lt_of_lt_of_le hl s.below.size)).trans (s.keep k hk hl)⟩
theorem spec_taLook.St.inc (s : spec_taLook.St w base bc bf w' c) (hb : base ≤ bc) (hn : bc ≠ bf) (c2 : Int) : spec_taLook.St w base bc bf (w'.setCell ⟨bc, 0, none⟩ (.int .i64 c2)) c2 := by
  obtain ⟨v, hv⟩ := s.fst
  exact ⟨blk_set s.cnt 0 _, ⟨v, blk_far hv (p := ⟨bc, 0, none⟩) (Ne.symm hn) _⟩, s.below.setCell hb _, fun k hk hl => (Below.heap_setCell w' ⟨bc, 0, none⟩ _ k hk.1).trans (s.keep k hk hl)⟩
theorem spec_taLook.St.put (s : spec_taLook.St w base bc bf w' c) (hb : base ≤ bf) (hn : bc ≠ bf) (u : Value) : spec_taLook.St w base bc bf (w'.setCell ⟨bf, 0, none⟩ u) c := by
  obtain ⟨v, hv⟩ := s.fst
  exact ⟨blk_far s.cnt (p := ⟨bf, 0, none⟩) hn _, ⟨u, blk_set hv 0 _⟩, s.below.setCell hb _, fun k hk hl => (Below.heap_setCell w' ⟨bf, 0, none⟩ _ k hk.2).trans (s.keep k hk hl)⟩
theorem spec_taLook.St.self (s : spec_taLook.St w base bc bf w' c) : spec_taLook.St w' base bc bf w' c := ⟨s.cnt, s.fst, Below.refl _ _, fun _ _ _ => rfl⟩
theorem spec_taLook.St.lts (s : spec_taLook.St w base bc bf w' c) : bc < w'.heap.size ∧ bf < w'.heap.size := by
  obtain ⟨v, hv⟩ := s.fst
  exact ⟨blk_lt s.cnt, blk_lt hv⟩
theorem spec_taLook.St.drewN (s : spec_taLook.St w base bc bf w' c) (hbase : base ≤ w.heap.size) (n : Nat) : spec_taLook.St w base bc bf (w'.drewN n) c := s.later hbase (pw_below_drewN (Below.refl _ _) n)
end
set_option maxHeartbeats 8000000 in
set_option maxRecDepth 100000 in
theorem spec_taLook.calls : ∀ (k : Nat) (A0 : Option Addr) (c0 : Nat) (l0 : List (List Bool)) (A1 : Option Addr) (c1 : Nat) (l1 : List Int) (bc bf : Nat) (c r : Int) (w : World) (base : Nat)
    (_h0 : Kd.F (Kd.slice 4 Kd.bool) w (fun k => k ≠ bc ∧ k ≠ bf) A0 l0.length l0) (_hc0 : l0.length ≤ c0) (_h1 : Kd.F (Kd.int .i64) w (fun k => k ≠ bc ∧ k ≠ bf) A1 l1.length l1) (_hc1 : l1.length ≤ c1)
    (_hS : spec_taLook.St w base bc bf w c) (_hbb : base ≤ bc ∧ base ≤ bf ∧ bc ≠ bf) (_hbase : base ≤ w.heap.size) (_h : spec_taLook.f k l0 l1 c = some r),
    Calls Tryd.prog 122 #[.slice A0 l0.length c0, .slice A1 l1.length c1, .bool false, .pointer (some ⟨bc, 0, none⟩), .pointer (some ⟨bf, 0, none⟩)] w fun e w' => e = .returned (.tuple #[]) ∧ spec_taLook.St w base bc bf w' r := by
  intro k
  induction k using Nat.strongRecOn with
  | ind k ih =>
    intro A0 c0 l0 A1 c1 l1 bc bf c r w base h0 hc0 h1 hc1 hS hbb hbase h
    cases k with
    | zero => simp [spec_taLook.f] at h
    | succ k =>
      simp only [spec_taLook.f] at h
      by_cases cj0 : 0 ≤ wrap64 ((l1.length : Int) - 1)
      · rw [if_pos cj0] at h
        by_cases cj1 : wrap64 ((l1.length : Int) - 1) < (l1.length : Int)
        · rw [if_pos cj1] at h
          obtain ⟨ad1, e1, hx1⟩ := Kd.at_int (Kd.F_now h1) _ cj0 cj1
          obtain ⟨la, hla⟩ : ∃ a_, a_ = rd l1 (wrap64 ((l1.length : Int) - 1)) := ⟨_, rfl⟩
          rw [← hla] at h hx1
          subst e1
          replace cj0 := eq_true cj0
          replace cj1 := eq_true cj1
          have HS := Aside0.mk hS
          have H0 := Aside0.mk h0
          have H1 := Aside0.mk h1
          have HBB := Aside0.mk hbb
          have hn1 := hbb.2.2
          have hn2 := Ne.symm hbb.2.2
          clear hS h0 h1 hbb hla
          by_cases ce : (l1.length : Int) = (l0.length : Int)
          · rw [if_pos ce] at h
            have ceb : ((l1.length : Int) == (l0.length : Int)) = true := beq_iff_eq.mpr ce
            clear ce
            have hcc : w.cell? ⟨bc, 0, none⟩ = some (.int .i64 c) := (blk_cell HS.out.cnt 0).trans rfl
            have hcf := blk_frozen HS.out.cnt 0
            obtain ⟨vf, hvf⟩ := HS.out.fst
            have hff : w.cell? ⟨bf, 0, none⟩ = some vf := (blk_cell hvf 0).trans rfl
            have hfz := blk_frozen hvf 0
            by_cases cz0 : c = 0
            · rw [if_pos cz0] at h
              replace h := Option.bind_eq_some_iff.mp h
              obtain ⟨q, hq, h⟩ := h
              obtain rfl := Option.some.inj h
              have czb : (c == 0) = true := beq_iff_eq.mpr cz0
              have HQ := Aside0.mk hq
              have HVF := Aside0.mk hvf
              clear cz0 hq h hvf
              go_enter Tryd.func122, Tryd.ntmps122
              go_wp2
              refine start_ (n := 24) (S := fun _ => True) (ds := []) (bz 24 0) (by kernel_rfl) rfl rfl trivial (fun hHeld => ?_)
              refine with_tabW spec_taLook.tab3 spec_taLook.bits3 (fun HT_ HW_ => ?_)
              refine run_ [(0, 0, 1, some 26), (0, 1, 3, some 27), (2, 2, 7, some 28), (2, 3, 15, some 29), (2, 4, 31, some 30), (2, 5, 63, some 31), (2, 6, 127, some 32), (2, 7, 255, some 33), (2, 8, 511, some 34), (2, 9, 1023, some 35), (2, 10, 2047, some 36), (2, 11, 4095, some 37), (2, 12, 8191, some 38), (2, 13, 16383, some 39), (2, 14, 32767, some 40), (2, 15, 65535, some 41), (2, 16, 131071, some 42), (2, 17, 262143, some 43), (2, 18, 524287, some 44), (2, 19, 1048575, some 45), (2, 20, 2097151, some 46), (2, 21, 4194303, some 47), (2, 22, 8388607, some 48), (0, 23, 16777215, some 49)] ?_
              repeat (first | (apply tag0; refine run_p (v := ?_) (a' := ?_) rfl rfl (any_of HT_.out (by kernel_rfl)) (fun _ _ _ h => h) (by rfl) ?_ ?_ ?_; rotate_left 2; (intro w'; go_simp; with_reducible rfl); (first | (simp only [Act.put, List.setIfInBounds_toArray, List.set_cons_zero, List.set_cons_succ, i64_w, i32_w]; rfl) | rfl)) | (apply tag2; refine run_o (a' := ?_) rfl rfl (any_of HT_.out (by kernel_rfl)) (fun _ _ _ h => h) (by rfl) ?_ ?_; rotate_left; (first | (simp only [Act.put, List.setIfInBounds_toArray, List.set_cons_zero, List.set_cons_succ, i64_w, i32_w]; rfl) | rfl)))
              refine run_nil ?_
              refine done_ (done_of HT_.out (by kernel_rfl)) ?_
              have HSd := Aside0.mk (HS.out.later hbase (below_drew1 (Below.refl _ _)))
              have F1 := Aside0.mk (HSd.out.foot H1.out)
              clear hcc hcf hff hfz HT_ HW_ hHeld HVF
              generalize w.drew = w1 at HSd F1 ⊢
              have hcc : w1.cell? ⟨bc, 0, none⟩ = some (.int .i64 c) := (blk_cell HSd.out.cnt 0).trans rfl
              have hcf := blk_frozen HSd.out.cnt 0
              obtain ⟨vf1, hvf1⟩ := HSd.out.fst
              have hff : w1.cell? ⟨bf, 0, none⟩ = some vf1 := (blk_cell hvf1 0).trans rfl
              have hfz := blk_frozen hvf1 0
              clear hvf1
              go_wp2_with (first
                | (go_at_call 143; refine (spec_l1Own.calls (some ad1) c1 l1 q _ (Kd.F_now F1.out) hc1 HQ.out).mono ?_; rintro e w5 ⟨v5, rfl, ho, hb⟩; have HO5 := Aside0.mk ho; have HB5 := Aside0.mk hb; clear ho hb; obtain ⟨A5, c5, rfl⟩ := Kd.R_slice HO5.out; have HS5 := Aside0.mk (HSd.out.later hbase HB5.out); clear hcc hcf hff hfz; have hcc : w5.cell? ⟨bc, 0, none⟩ = some (.int .i64 c) := (blk_cell HS5.out.cnt 0).trans rfl; have hcf := blk_frozen HS5.out.cnt 0; obtain ⟨vf5, hvf5⟩ := HS5.out.fst; have hff : w5.cell? ⟨bf, 0, none⟩ = some vf5 := (blk_cell hvf5 0).trans rfl; have hfz := blk_frozen hvf5 0; clear hvf5))
              first | go_end0 | ((try simp only [Exit.inBlock, Exit.then]); refine bodyPost_ret (results_none rfl _ _ _) rfl ?_)
              exact ⟨rfl, (HS5.out.put HBB.out.2.1 hn1 _).inc HBB.out.1 hn1 _⟩
            · rw [if_neg cz0] at h
              obtain rfl := Option.some.inj h
              have czb : (c == 0) = false := beq_eq_false_iff_ne.mpr cz0
              have HVF := Aside0.mk hvf
              clear cz0 h hvf
              go_enter Tryd.func122, Tryd.ntmps122
              go_wp2
              refine start_ (n := 24) (S := fun _ => True) (ds := []) (bz 24 0) (by kernel_rfl) rfl rfl trivial (fun hHeld => ?_)
              refine with_tabW spec_taLook.tab3 spec_taLook.bits3 (fun HT_ HW_ => ?_)
              refine run_ [(0, 0, 1, some 26), (0, 1, 3, some 27), (2, 2, 7, some 28), (2, 3, 15, some 29), (2, 4, 31, some 30), (2, 5, 63, some 31), (2, 6, 127, some 32), (2, 7, 255, some 33), (2, 8, 511, some 34), (2, 9, 1023, some 35), (2, 10, 2047, some 36), (2, 11, 4095, some 37), (2, 12, 8191, some 38), (2, 13, 16383, some 39), (2, 14, 32767, some 40), (2, 15, 65535, some 41), (2, 16, 131071, some 42), (2, 17, 262143, some 43), (2, 18, 524287, some 44), (2, 19, 1048575, some 45), (2, 20, 2097151, some 46), (2, 21, 4194303, some 47), (2, 22, 8388607, some 48), (0, 23, 16777215, some 49)] ?_
              repeat (first | (apply tag0; refine run_p (v := ?_) (a' := ?_) rfl rfl (any_of HT_.out (by kernel_rfl)) (fun _ _ _ h => h) (by rfl) ?_ ?_ ?_; rotate_left 2; (intro w'; go_simp; with_reducible rfl); (first | (simp only [Act.put, List.setIfInBounds_toArray, List.set_cons_zero, List.set_cons_succ, i64_w, i32_w]; rfl) | rfl)) | (apply tag2; refine run_o (a' := ?_) rfl rfl (any_of HT_.out (by kernel_rfl)) (fun _ _ _ h => h) (by rfl) ?_ ?_; rotate_left; (first | (simp only [Act.put, List.setIfInBounds_toArray, List.set_cons_zero, List.set_cons_succ, i64_w, i32_w]; rfl) | rfl)))
              refine run_nil ?_
              refine done_ (done_of HT_.out (by kernel_rfl)) ?_
              have HSd := Aside0.mk (HS.out.later hbase (below_drew1 (Below.refl _ _)))
              clear hcc hcf hff hfz HT_ HW_ hHeld HVF
              generalize w.drew = w1 at HSd ⊢
              have hcc : w1.cell? ⟨bc, 0, none⟩ = some (.int .i64 c) := (blk_cell HSd.out.cnt 0).trans rfl
              have hcf := blk_frozen HSd.out.cnt 0
              go_wp2
              first | go_end0 | ((try simp only [Exit.inBlock, Exit.then]); refine bodyPost_ret (results_none rfl _ _ _) rfl ?_)
              exact ⟨rfl, HSd.out.inc HBB.out.1 hn1 _⟩
          · rw [if_neg ce] at h
            have ceb : ((l1.length : Int) == (l0.length : Int)) = false := beq_eq_false_iff_ne.mpr ce
            clear ce
            by_cases cl0 : 0 ≤ la
            · rw [if_pos cl0] at h
              by_cases cl1 : la < (l0.length : Int)
              · rw [if_pos cl1] at h
                obtain ⟨L, hL⟩ : ∃ L_, L_ = l0.getD la.toNat [] := ⟨_, rfl⟩
                rw [← hL] at h
                obtain ⟨ad0, cs0, e0, hcl0, hFK0, hcell0, hok0⟩ := Kd.F_get H0.out [] la cl0 cl1
                rw [← hL] at hFK0
                obtain ⟨Ar, cr, rfl, hlr, hFr⟩ := Kd.FK_slice_open hFK0
                subst e0
                have hxr : w.cell? (ad0.add la.toNat) = some (.slice Ar L.length cr) := by have := hcell0 0 _ rfl; rwa [show la.toNat * (Kd.slice 4 Kd.bool).sz + 0 = la.toNat from Nat.mul_one _] at this
                have HFR := Aside0.mk hFr
                have HL := Aside0.mk h
                replace cl0 := eq_true cl0
                replace cl1 := eq_true cl1
                clear hL hcl0 hFK0 hcell0 hok0 hlr hFr h
                go_enter Tryd.func122, Tryd.ntmps122
                go_wp2
                go_loopg [68] k (fun kq v68 W => ∃ (i c1 : Int), v68 = .int .i64 i ∧ Aside0 (spec_taLook.l0 kq l0 l1 L i c1 = some r) ∧ Aside0 (kq ≤ k) ∧ Aside0 (spec_taLook.St w base bc bf W c1))
                case atStart => exact ⟨_, _, rfl, HL, ⟨Nat.le_refl _⟩, ⟨by with_reducible repeat (first | exact HS.out | apply spec_taLook.St.drewN (hbase := hbase))⟩⟩
                case round =>
                  obtain ⟨i, c1_, rfl, HA, HK1, HS4⟩ := hrel
                  cases gk with
                  | zero => exact absurd HA.out (by simp [spec_taLook.l0])
                  | succ k1 =>
                    have H := HA.out
                    clear HA HL
                    simp only [spec_taLook.l0] at H
                    by_cases d1 : i < (L.length : Int)
                    · rw [if_pos d1] at H
                      by_cases d2 : 0 ≤ i
                      · rw [if_pos d2] at H
                        obtain ⟨ad5, e5, hx5⟩ := Kd.at_bool (Kd.F_now (HS4.out.foot HFR.out)) i d2 d1
                        subst e5
                        obtain ⟨bt, hbt⟩ : ∃ b_ : Bool, b_ = rdOf false L i := ⟨_, rfl⟩
                        rw [← hbt] at H hx5
                        have F0 := Aside0.mk (HS4.out.foot H0.out)
                        have F1 := Aside0.mk (HS4.out.foot H1.out)
                        have d1b : decide (i < (L.length : Int)) = true := decide_eq_true d1
                        replace d1 := eq_true d1
                        replace d2 := eq_true d2
                        clear hbt
                        cases bt with
                        | false =>
                          rw [if_neg (by simp)] at H
                          have HN := Aside0.mk H
                          clear H
                          go_wp2
                          go_roundg k1
                          case measure => have := HK1.out; omega
                          case rel => exact ⟨_, _, by first | rfl | (simp; done), HN, ⟨by have := HK1.out; omega⟩, ⟨by with_reducible repeat (first | exact HS4.out | apply spec_taLook.St.drewN (hbase := hbase))⟩⟩
                        | true =>
                          rw [if_pos rfl] at H
                          replace H := Option.bind_eq_some_iff.mp H
                          obtain ⟨j, hj, H⟩ := H
                          have HJ := Aside0.mk hj
                          clear hj
                          cases j with
                          | true =>
                            rw [if_pos rfl] at H
                            have HN := Aside0.mk H
                            clear H
                            go_wp2_with (go_at_call 144; refine (spec_l1Has.calls k1 (some ad1) c1 l1 i true _ (Kd.F_now (by first | exact F1.out | exact Kd.F_drewN F1.out _)) hc1 HJ.out).mono ?_; rintro e w' ⟨rfl, ⟨nd, rfl⟩⟩)
                            go_roundg k1
                            case measure => have := HK1.out; omega
                            case rel => exact ⟨_, _, by first | rfl | (simp; done), HN, ⟨by have := HK1.out; omega⟩, ⟨by with_reducible repeat (first | exact HS4.out | apply spec_taLook.St.drewN (hbase := hbase))⟩⟩
                          | false =>
                            rw [if_neg (by simp)] at H
                            replace H := Option.bind_eq_some_iff.mp H
                            obtain ⟨q, hq, H⟩ := H
                            by_cases hl : q.length < 17592186044416
                            · rw [if_pos hl] at H
                              replace H := Option.bind_eq_some_iff.mp H
                              obtain ⟨c2, hc2, H⟩ := H
                              obtain ⟨y2, hy2⟩ : ∃ y_ : List Int, y_ = q ++ [i] := ⟨_, rfl⟩
                              rw [← hy2] at hc2
                              have NY := Aside0.mk hy2
                              have HQ := Aside0.mk hq
                              have HN := Aside0.mk H
                              have L2 := Aside0.mk hl
                              have HREC := Aside0.mk (fun (A6 : Option Addr) (c6 : Nat) (w6 : World) (hb : Below wr.heap.size wr w6) (ho : Kd.R (Kd.int .i64) 3 w6 wr.heap.size (fun k_ => wr.heap.size ≤ k_) (.slice A6 y2.length c6) y2) =>
                                ih k1 (by have := HK1.out; omega) (some ad0) c0 l0 A6 c6 y2 bc bf c1_ c2 w6 base (Kd.F_below F0.out hb) hc0 (Kd.R_F (Kd.R_mono ho (fun k_ hk => (by have := HS4.out.lts; exact ⟨by omega, by omega⟩)))) (Kd.R_reads' ho).2.1 (HS4.out.later hbase hb).self HBB.out (Nat.le_trans hbase (HS4.out.later hbase hb).below.size) hc2)
                              clear hq hc2 H hl hy2
                              go_wp2_with (first
                                | (go_at_call 144; refine (spec_l1Has.calls k1 (some ad1) c1 l1 i false _ (Kd.F_now (by first | exact F1.out | exact Kd.F_drewN F1.out _)) hc1 HJ.out).mono ?_; rintro e w' ⟨rfl, ⟨nd, rfl⟩⟩)
                                | (go_at_call 143; refine (spec_l1Own.calls (some ad1) c1 l1 q _ (Kd.F_now (by first | exact F1.out | exact Kd.F_drewN F1.out _)) hc1 HQ.out).mono ?_; rintro e w5 ⟨v5, rfl, ho, hb⟩; have HO5 := Aside0.mk ho; have HB5 := Aside0.mk (below_then (pw_below_drewN (Below.refl wr.heap.size wr) _) (Nat.le_refl _) hb); clear ho hb)
                                | ((with_reducible refine gate_builtin (b := .append) (xs := #[.tmp 82, .tmp 84]) rfl ?_); at_builtin; refine Kd.R_append (Kd.int .i64) (w0 := wr) wr.heap.size rfl (.tmp 82) (.tmp 84) 75 3 (.int .i64 0) 8 rfl Tryd.underlying75 info3 rfl (by decide) (by omega) v5 q i [.int .i64 i] (fun k_ => (wr.heap.size ≤ k_)) (fun _ => False) rfl rfl ?aP (fun _ hk => hk.elim) ?aF ?aO ?aB ?aS ?aL ?_; (case aP => exact rfl); (case aB => exact HB5.out); (case aF => exact (fun k_ hk => Nat.le_trans HB5.out.size hk)); (case aO => exact (Kd.R_mono (Kd.R_bound HO5.out) (fun _ hk => hk.2.1))); (case aS => exact HB5.out.size); (case aL => have := L2.out; omega); intro v6 w6 ho hb hg hat; rw [← NY.out] at ho; have HO6 := Aside0.mk ho; have HB6 := Aside0.mk hb; clear ho hb hg hat; obtain ⟨A6, c6, rfl⟩ := Kd.R_slice HO6.out)
                                | (go_at_call 122; refine (HREC.out _ _ _ HB6.out HO6.out).mono ?_; rintro e w7 ⟨rfl, s7⟩; have HS7 := Aside0.mk ((HS4.out.later hbase HB6.out).trans s7); clear s7))
                              go_roundg k1
                              case measure => have := HK1.out; omega
                              case rel => exact ⟨_, _, by first | rfl | (simp; done), HN, ⟨by have := HK1.out; omega⟩, HS7⟩
                            · rw [if_neg hl] at H; cases H
                      · rw [if_neg d2] at H; cases H
                    · rw [if_neg d1] at H
                      have d1b : decide (i < (L.length : Int)) = false := decide_eq_false d1
                      clear d1
                      obtain rfl := Option.some.inj H
                      go_wp2
                      first | go_end0 | ((try simp only [Exit.inBlock, Exit.then]); refine bodyPost_ret (results_none rfl _ _ _) rfl ?_)
                      exact ⟨rfl, HS4.out⟩
              · rw [if_neg cl1] at h; cases h
            · rw [if_neg cl0] at h; cases h
        · rw [if_neg cj1] at h; cases h
      · rw [if_neg cj0] at h; cases h

end Go.Proofs.YtjpfbkkikcpmhaaDoor.PFnExactCountRows
