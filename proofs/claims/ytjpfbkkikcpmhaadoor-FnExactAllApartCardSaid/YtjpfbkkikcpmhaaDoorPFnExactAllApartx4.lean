-- Of this session's own program wip/gen/gen.py (it drives the kit's print): contracts of the functions that the law reaches.
import Derived.Test.YtjpfbkkikcpmhaaDoorPFnExactAllApartx0
namespace Go.Proofs.YtjpfbkkikcpmhaaDoor.PFnExactAllApart
open Go.RowKit Go.Proofs.YtjpfbkkikcpmhaaDoorW.PrintWords Go.Proofs.YtjpfbkkikcpmhaaDoorW.PrintLast Go.Proofs.YtjpfbkkikcpmhaaDoorW.PrintMore Go.Proofs.YtjpfbkkikcpmhaaDoor.Base
attribute [local go_sem] max2_int min2_int max_two min_two max_three min_three max_four min_four   -- for this text's walks alone
set_option linter.unusedVariables false
set_option linter.unusedSimpArgs false

/-! ### spec_paTable: function 54 -/
mutual
def spec_paTable.l0 : Nat → List (List Bool) → Int → Int → List (S105) → Option ((List (List Bool)))
 | 0, _, _, _, _ => none
 | k + 1, x3, x4, x153000, x153001 => if x4 < x153000 then (if 0 ≤ x153000 then (if (x153000 : Int).toNat ≤ 281474976710656 then (if x3.length < 5864062014805 then (spec_paTable.l0 k (x3 ++ [(List.replicate (x153000 : Int).toNat false)]) (wrap64 (x4 + 1)) x153000 x153001) else (none)) else (none)) else (none)) else (spec_paTable.l1 k x3 x153001 (x153001.length : Int) 0)
def spec_paTable.l1 : Nat → List (List Bool) → List (S105) → Int → Int → Option ((List (List Bool)))
 | 0, _, _, _, _ => none
 | k + 1, x3, x20, x21, x22 => if x22 < x21 then (if 0 ≤ x22 then (if x22 < (x20.length : Int) then (if 0 ≤ ((rd_T105 x20 x22).f0) then (if ((rd_T105 x20 x22).f0) < (x3.length : Int) then (if 0 ≤ ((rd_T105 x20 x22).f1) then (if ((rd_T105 x20 x22).f1) < ((rd_L6 x3 ((rd_T105 x20 x22).f0)).length : Int) then ((some (x3.set (((rd_T105 x20 x22).f0) : Int).toNat ((rd_L6 x3 ((rd_T105 x20 x22).f0)).set (((rd_T105 x20 x22).f1) : Int).toNat true) : List (List Bool))).bind fun y164 => (if ((rd_T105 x20 x22).f1) < (x3.length : Int) then (if ((rd_T105 x20 x22).f0) < ((rd_L6 y164 ((rd_T105 x20 x22).f1)).length : Int) then (spec_paTable.l1 k (y164.set (((rd_T105 x20 x22).f1) : Int).toNat ((rd_L6 y164 ((rd_T105 x20 x22).f1)).set (((rd_T105 x20 x22).f0) : Int).toNat true)) x20 x21 (wrap64 (x22 + 1))) else (none)) else (none))) else (none)) else (none)) else (none)) else (none)) else (none)) else (none)) else (some x3)
end
def spec_paTable.f (k : Nat) (a0_0 : Int) (l0_1 : List (S105)) : Option ((List (List Bool))) := spec_paTable.l0 k ([] : List (List Bool)) 0 a0_0 l0_1
theorem spec_paTable.mono_l : ∀ k, (∀ y0 y1 y2 y3, LeO (spec_paTable.l0 k y0 y1 y2 y3) (spec_paTable.l0 (k + 1) y0 y1 y2 y3)) ∧ (∀ y0 y1 y2 y3, LeO (spec_paTable.l1 k y0 y1 y2 y3) (spec_paTable.l1 (k + 1) y0 y1 y2 y3))
 | 0 => ⟨fun _ _ _ _ r h => by simp [spec_paTable.l0] at h, fun _ _ _ _ r h => by simp [spec_paTable.l1] at h⟩
 | k + 1 => by
  obtain ⟨ih0, ih1⟩ := spec_paTable.mono_l k
  refine ⟨?_, ?_⟩
  ·intro y0 y1 y2 y3
   unfold spec_paTable.l0
   repeat' first
   | (with_reducible exact ih0 _ _ _ _)
   | (with_reducible exact ih1 _ _ _ _)
   | (with_reducible exact LeO.refl _)
   | (with_reducible exact LeO.none _)
   | (with_reducible refine LeO.ite ?_ ?_)
   | (with_reducible refine LeO.bind ?_ (fun _ => ?_))
   | exact ih0 _ _ _ _
   | exact ih1 _ _ _ _
   | exact LeO.none _
   | refine LeO.ite ?_ ?_
   | refine LeO.bind ?_ (fun _ => ?_)
  ·intro y0 y1 y2 y3
   unfold spec_paTable.l1
   repeat' first
   | (with_reducible exact ih0 _ _ _ _)
   | (with_reducible exact ih1 _ _ _ _)
   | (with_reducible exact LeO.refl _)
   | (with_reducible exact LeO.none _)
   | (with_reducible refine LeO.ite ?_ ?_)
   | (with_reducible refine LeO.bind ?_ (fun _ => ?_))
   | exact ih0 _ _ _ _
   | exact ih1 _ _ _ _
   | exact LeO.none _
   | refine LeO.ite ?_ ?_
   | refine LeO.bind ?_ (fun _ => ?_)
theorem spec_paTable.mono : ∀ a0 a1 k, LeO (spec_paTable.f k a0 a1) (spec_paTable.f (k + 1) a0 a1) := by
 intro a0 a1 k
 obtain ⟨ih0, ih1⟩ := spec_paTable.mono_l k
 unfold spec_paTable.f
 repeat' first
   | (with_reducible exact ih0 _ _ _ _)
   | (with_reducible exact ih1 _ _ _ _)
   | (with_reducible exact LeO.refl _)
   | (with_reducible exact LeO.none _)
   | (with_reducible refine LeO.ite ?_ ?_)
   | (with_reducible refine LeO.bind ?_ (fun _ => ?_))
   | exact ih0 _ _ _ _
   | exact ih1 _ _ _ _
   | exact LeO.none _
   | refine LeO.ite ?_ ?_
   | refine LeO.bind ?_ (fun _ => ?_)
def spec_paTable.T9 : Bool × List (List Nat × List Nat) := (true, [([], []), ([], []), ([1], [1]), ([0, 2], [0, 2]), ([3], [3]), ([], []), ([5], [5]), ([4, 6, 0, 1, 2, 3, 4, 5, 6], [4, 6]), ([7, 0, 1, 2, 3, 4, 5, 6], [7])])
def spec_paTable.B9 : List Nat := [0, 0, 2, 7, 15, 0, 32, 127, 255]
theorem spec_paTable.tab9 : rtab .any (opsOf Tryd.f54 9) = spec_paTable.T9 := by kernel_rfl
theorem spec_paTable.bits9 : waitsOk spec_paTable.T9.2 spec_paTable.B9 = true := by kernel_rfl
def spec_paTable.T10 : Bool × List (List Nat × List Nat) := (true, [([], []), ([], []), ([1], [1]), ([0, 2], [0, 2]), ([3], [3]), ([], []), ([5], [5]), ([4, 6, 0, 1, 2, 3, 4, 5, 6], [4, 6]), ([7, 0, 1, 2, 3, 4, 5, 6], [7])])
def spec_paTable.B10 : List Nat := [0, 0, 2, 7, 15, 0, 32, 127, 255]
theorem spec_paTable.tab10 : rtab .any (opsOf Tryd.f54 10) = spec_paTable.T10 := by kernel_rfl
theorem spec_paTable.bits10 : waitsOk spec_paTable.T10.2 spec_paTable.B10 = true := by kernel_rfl
set_option maxHeartbeats 8000000 in
set_option maxRecDepth 100000 in
theorem spec_paTable.calls (k : Nat) (a0_0 : Int) (A0_1 : Option Addr) (c0_1 : Nat) (l0_1 : List (S105)) (r : List (List Bool)) (w : World) (hr0_1 : Kd.C k105 w A0_1 l0_1.length l0_1) (hc0_1 : l0_1.length ≤ c0_1) (h : spec_paTable.f k a0_0 l0_1 = some r) :
  Calls Tryd.prog 54 #[.agg #[.int .i64 a0_0, .slice A0_1 l0_1.length c0_1]] w fun e w' => ∃ v0_ : Value, e = .returned (v0_) ∧ Kd.S (Kd.slice 4 Kd.bool) 72 w' w.heap.size (fun _ => True) v0_ r ∧ Below w.heap.size w w' := by
 have hu33 := Tryd.underlying33
 have hu105 := Tryd.underlying105
 have HR0_1 := Aside0.mk hr0_1
 have HC0_1 := Aside0.mk hc0_1
 clear hr0_1 hc0_1
 have HB := Aside0.mk (Below.refl w.heap.size w)
 have H : (spec_paTable.l0 k ([] : List (List Bool)) 0 a0_0 l0_1) = some r := h
 clear h
 have H' := Aside0.mk H
 clear H
 go_enter Tryd.func54, Tryd.ntmps54
 go_wp2_with (first | ((with_reducible refine gate_dst (N := 1) rfl ?_); refine bxE 1 #[.int .i64 a0_0, .slice A0_1 l0_1.length c0_1] 33 rfl ?_; intro gb152 hg w2 hbox hb; have BK152 := Aside0.mk (hbox); have GW152 := gS HB hg; have GE152 := gS HB hg; replace HB := hS HB hb; clear hb hbox hg))
 go_loopg [3, 4] k (fun kq v3 v4 w' => ∃ (x3_1 : List (List Bool)) (x4_1 : Int), v4 = .int .i64 x4_1 ∧ Aside0 (spec_paTable.l0 kq x3_1 x4_1 a0_0 l0_1 = some r) ∧ Aside0 (kq ≤ k) ∧ Aside0 (Kd.S (Kd.slice 4 Kd.bool) 72 w' w.heap.size (fun _ => True) v3 x3_1) ∧ Aside0 (w'.heap[gb152]? = some (.cells #[.int .i64 a0_0, (.slice A0_1 l0_1.length c0_1)] 33 (0, 0))) ∧ Aside0 (Below w.heap.size w w'))
 case atStart => exact ⟨(([] : List (List Bool))), (0), (by first | rfl | (simp; done) | (simp [*]; done)), H', ⟨Nat.le_refl _⟩, ⟨by first | exact Kd.S_nil _ _ _ _ _ | exact Kd.N_nil _ _ _ _ _ | exact Kd.V_nil _ _ _ _ _ | exact Kd.Q_nil _ _ _ _ _ | exact Kd.R_nil _ _ _ _ _⟩, ⟨bK⟩, ⟨hB⟩⟩
 case round =>
  clear H'
  try clear p2
  obtain ⟨x3_1, x4_1, rfl, HA, HK1, HO_3, BK152, HB⟩ := hrel
  cases gk with
  | zero => exact absurd HA.out (by simp [spec_paTable.l0])
  | succ k1 =>
   have H := HA.out
   clear HA
   simp only [spec_paTable.l0] at H
   by_cases c3 : x4_1 < a0_0
   ·rw [if_pos c3] at H
    have c3b0 : decide (x4_1 < a0_0) = true := decide_eq_true c3
    clear c3
    by_cases c4 : 0 ≤ a0_0
    ·rw [if_pos c4] at H
     have c4b0 := eq_true c4
     have c4b1 : decide (0 ≤ a0_0) = true := decide_eq_true c4
     clear c4
     by_cases c5 : (a0_0 : Int).toNat ≤ 281474976710656
     ·rw [if_pos c5] at H
      have c5b0 := eq_true c5
      have c5b1 : decide ((a0_0 : Int).toNat ≤ 281474976710656) = true := decide_eq_true c5
      clear c5
      obtain ⟨y153, hy153⟩ : ∃ y_ : List Bool, y_ = (List.replicate (a0_0 : Int).toNat false) := ⟨_, rfl⟩
      replace H : (if x3_1.length < 5864062014805 then (spec_paTable.l0 k1 (x3_1 ++ [y153]) (wrap64 (x4_1 + 1)) a0_0 l0_1) else (none)) = some r := by first | (rw [hy153]; with_reducible exact H) | (have H2_ := (Option.bind_some _ _).symm.trans H; rw [hy153]; with_reducible exact H2_) | (have H2_ := (Option.bind_some _ _).symm.trans H; with_reducible exact H2_) | with_reducible exact H | (rw [hy153]; exact H) | exact H
      have Ny153 := Aside0.mk hy153
      clear hy153
      by_cases c6 : x3_1.length < 5864062014805
      ·rw [if_pos c6] at H
       have LMc6 := Aside0.mk c6
       clear c6
       obtain ⟨y156, hy156⟩ : ∃ y_ : List (List Bool), y_ = (x3_1 ++ [y153]) := ⟨_, rfl⟩
       replace H : (spec_paTable.l0 k1 y156 (wrap64 (x4_1 + 1)) a0_0 l0_1) = some r := by first | (rw [hy156]; with_reducible exact H) | (have H2_ := (Option.bind_some _ _).symm.trans H; rw [hy156]; with_reducible exact H2_) | (have H2_ := (Option.bind_some _ _).symm.trans H; with_reducible exact H2_) | with_reducible exact H | (rw [hy156]; exact H) | exact H
       have Ny156 := Aside0.mk hy156
       clear hy156
       have H' := Aside0.mk H
       clear H
       have hcz7_0 := cz BK152 0
       have hcz7_1 := cz BK152 1
       have hfz7_0 := fz BK152 0
       have hfz7_1 := fz BK152 1
       go_wp2_with (first | ((with_reducible refine gate_dst (N := 16) rfl ?_); refine Kd.R_make Kd.bool _ 4 rfl (N := 16) rfl 72 _ _ rfl a0_0 rfl rfl Tryd.underlying72 (.bool false) 1 info4 rfl (by decide) (by omega) false (ok := fun _ => True) (okp := fun _ => True) rfl (fun _ hk => hk) trivial (of_decide_eq_true (by first | (with_reducible assumption) | assumption)) (Nat.le_trans (Nat.mul_le_mul_right _ (of_decide_eq_true (by first | (with_reducible assumption) | assumption) : a0_0.toNat ≤ 281474976710656)) (by omega)) (Below.refl _ _) (Nat.le_refl _) ?_; intro v154 w8 ho9 hb hg_ hnew_; clear hg_ hnew_; (first | rw [← Ny153.out] at ho9 | (simp only [Int.reduceToNat] at ho9; rw [← Ny153.out] at ho9)); have HO155 := Aside0.mk (Kd.R_lower ho9 (below_size hB)); replace HO_3 := Aside0.mk (Kd.S_elder' (sU HO_3) (Kd.R_base ho9) hb); replace BK152 := bS BK152 hb; replace HB := hS HB hb; clear hb ho9; obtain ⟨Ao11, co11, eo11⟩ := Kd.R_slice HO155.out; subst eo11) | ((with_reducible refine gate_builtin (b := .append) (xs := #[.tmp 13, .tmp 17]) rfl ?_); at_builtin; refine Kd.S_append (Kd.slice 4 Kd.bool) (w0 := w) w.heap.size rfl (.tmp 13) (.tmp 17) 73 72 (.slice none 0 0) 24 rfl Tryd.underlying73 info72 rfl (by decide) (by omega) u3 x3_1 y153 [.slice Ao11 y153.length co11] (fun _ => True) (fun k_ => some k_ = (.slice Ao11 y153.length co11 : Value).ownBlock) rfl rfl ?aP (fun k_ hk_ => ((Kd.R_mono (ok' := fun k_ => ((fun _ => True)) k_ ∧ some k_ ≠ (u3 : Value).ownBlock) (Kd.R_apart' (HO155.out) (Kd.S_typed HO_3.out) (by decide)) (fun k_ hk => ⟨trivial, hk.2⟩))).1 k_ hk_.symm) ?aF ?aO ?aB ?aS ?aL ?_; (case aP => exact Kd.M_row (Kd.R_mono (Kd.R_tight rfl (Kd.R_mono (ok' := fun k_ => ((fun _ => True)) k_ ∧ some k_ ≠ (u3 : Value).ownBlock) (Kd.R_apart' (HO155.out) (Kd.S_typed HO_3.out) (by decide)) (fun k_ hk => ⟨trivial, hk.2⟩))) (fun _ h_ => h_))); (case aB => exact hB); (case aF => exact (fun _ _ => trivial)); (case aO => exact (by (with_reducible repeat (first | apply Kd.S_alloc | apply Kd.S_drewN | apply Kd.S_drew)); exact Kd.S_mono HO_3.out (fun k_ hk => ⟨trivial, fun e_ => hk.2 e_⟩))); (case aS => exact (below_size hB)); (case aL => have := LMc6.out; omega); intro v157 w10 ho hb hg hat; rw [← Ny156.out] at ho; have HO158 := Aside0.mk (ho); replace BK152 := Aside0.mk (blk_grown (g := gb152) (o := .cells #[.int .i64 a0_0, .slice A0_1 l0_1.length c0_1] 33 (0, 0)) bK hg (Kd.S_ne HO_3.out BK152.out (by decide))); replace HB := Aside0.mk (hb); clear HO_3; clear HO155; clear ho hb hg hat))
       go_roundg k1
       case measure => have := HK1.out; omega
       case rel => exact ⟨(y156), (wrap64 (x4_1 + 1)), (by first | rfl | (simp; done) | (simp [*]; done)), H', ⟨by have := HK1.out; omega⟩, ⟨sU HO158⟩, ⟨bK⟩, ⟨hB⟩⟩
      ·rw [if_neg c6] at H
       exact absurd H (by simp)
     ·rw [if_neg c5] at H
      exact absurd H (by simp)
    ·rw [if_neg c4] at H
     exact absurd H (by simp)
   ·rw [if_neg c3] at H
    have c3b0 : decide (x4_1 < a0_0) = false := decide_eq_false c3
    clear c3
    have H' := Aside0.mk H
    clear H
    have hcz12_0 := cz BK152 0
    have hcz12_1 := cz BK152 1
    have hfz12_0 := fz BK152 0
    have hfz12_1 := fz BK152 1
    go_wp2
    go_loopg [22] k1 (fun kq v22 w' => ∃ (x3_2 : List (List Bool)) (x22_2 : Int), v22 = .int .i64 x22_2 ∧ Aside0 (spec_paTable.l1 kq x3_2 l0_1 (l0_1.length : Int) x22_2 = some r) ∧ Aside0 (kq ≤ k1) ∧ Aside0 (Kd.S (Kd.slice 4 Kd.bool) 72 w' w.heap.size (fun _ => True) u3 x3_2) ∧ Aside0 (w'.heap[gb152]? = some (.cells #[.int .i64 a0_0, (.slice A0_1 l0_1.length c0_1)] 33 (0, 0))) ∧ Aside0 (Below w.heap.size w w'))
    case atStart => exact ⟨(x3_1), (0), (by first | rfl | (simp; done) | (simp [*]; done)), H', ⟨Nat.le_refl _⟩, ⟨sU HO_3⟩, ⟨bK⟩, ⟨hB⟩⟩
    case round =>
     clear H'
     try clear p2
     try clear c3
     try clear c3b0
     try clear c4
     try clear c4b0
     try clear c4b1
     try clear c5
     try clear c5b0
     try clear c5b1
     try clear c6
     try clear p6
     try clear hcz12_0
     try clear hcz12_1
     try clear hcz7_0
     try clear hcz7_1
     try clear hfz12_0
     try clear hfz12_1
     try clear hfz7_0
     try clear hfz7_1
     try clear p2
     obtain ⟨x3_2, x22_2, rfl, HA, HK2, HO_3, BK152, HB⟩ := hrel
     cases gk with
     | zero => exact absurd HA.out (by simp [spec_paTable.l1])
     | succ k2 =>
      have H := HA.out
      clear HA
      simp only [spec_paTable.l1] at H
      by_cases c13 : x22_2 < (l0_1.length : Int)
      ·rw [if_pos c13] at H
       have c13b0 : decide (x22_2 < (l0_1.length : Int)) = true := decide_eq_true c13
       clear c13
       by_cases c14 : 0 ≤ x22_2
       ·rw [if_pos c14] at H
        have c14b0 : decide (0 ≤ x22_2) = true := decide_eq_true c14
        clear c14
        by_cases c15 : x22_2 < (l0_1.length : Int)
        ·rw [if_pos c15] at H
         have c15b0 : decide (x22_2 < (l0_1.length : Int)) = true := decide_eq_true c15
         clear c15
         by_cases c16 : 0 ≤ ((rd_T105 l0_1 x22_2).f0)
         ·rw [if_pos c16] at H
          have c16b0 : decide (0 ≤ ((rd_T105 l0_1 x22_2).f0)) = true := decide_eq_true c16
          clear c16
          by_cases c17 : ((rd_T105 l0_1 x22_2).f0) < (x3_2.length : Int)
          ·rw [if_pos c17] at H
           have c17b0 : decide (((rd_T105 l0_1 x22_2).f0) < (x3_2.length : Int)) = true := decide_eq_true c17
           clear c17
           by_cases c18 : 0 ≤ ((rd_T105 l0_1 x22_2).f1)
           ·rw [if_pos c18] at H
            have c18b0 : decide (0 ≤ ((rd_T105 l0_1 x22_2).f1)) = true := decide_eq_true c18
            clear c18
            by_cases c19 : ((rd_T105 l0_1 x22_2).f1) < ((rd_L6 x3_2 ((rd_T105 l0_1 x22_2).f0)).length : Int)
            ·rw [if_pos c19] at H
             have c19b0 : decide (((rd_T105 l0_1 x22_2).f1) < ((rd_L6 x3_2 ((rd_T105 l0_1 x22_2).f0)).length : Int)) = true := decide_eq_true c19
             clear c19
             obtain ⟨y162, hy162⟩ : ∃ y_ : List Bool, y_ = ((rd_L6 x3_2 ((rd_T105 l0_1 x22_2).f0)).set (((rd_T105 l0_1 x22_2).f1) : Int).toNat true) := ⟨_, rfl⟩
             replace H : ((some (x3_2.set (((rd_T105 l0_1 x22_2).f0) : Int).toNat y162 : List (List Bool))).bind fun y164 => (if ((rd_T105 l0_1 x22_2).f1) < (x3_2.length : Int) then (if ((rd_T105 l0_1 x22_2).f0) < ((rd_L6 y164 ((rd_T105 l0_1 x22_2).f1)).length : Int) then (spec_paTable.l1 k2 (y164.set (((rd_T105 l0_1 x22_2).f1) : Int).toNat ((rd_L6 y164 ((rd_T105 l0_1 x22_2).f1)).set (((rd_T105 l0_1 x22_2).f0) : Int).toNat true)) l0_1 (l0_1.length : Int) (wrap64 (x22_2 + 1))) else (none)) else (none))) = some r := by first | (rw [hy162]; with_reducible exact H) | (have H2_ := (Option.bind_some _ _).symm.trans H; rw [hy162]; with_reducible exact H2_) | (have H2_ := (Option.bind_some _ _).symm.trans H; with_reducible exact H2_) | with_reducible exact H | (rw [hy162]; exact H) | exact H
             have Ny162 := Aside0.mk hy162
             clear hy162
             obtain ⟨y164, hy164⟩ : ∃ y_ : List (List Bool), y_ = (x3_2.set (((rd_T105 l0_1 x22_2).f0) : Int).toNat y162) := ⟨_, rfl⟩
             replace H : (if ((rd_T105 l0_1 x22_2).f1) < (x3_2.length : Int) then (if ((rd_T105 l0_1 x22_2).f0) < ((rd_L6 y164 ((rd_T105 l0_1 x22_2).f1)).length : Int) then (spec_paTable.l1 k2 (y164.set (((rd_T105 l0_1 x22_2).f1) : Int).toNat ((rd_L6 y164 ((rd_T105 l0_1 x22_2).f1)).set (((rd_T105 l0_1 x22_2).f0) : Int).toNat true)) l0_1 (l0_1.length : Int) (wrap64 (x22_2 + 1))) else (none)) else (none)) = some r := by first | (rw [hy164]; with_reducible exact H) | (have H2_ := (Option.bind_some _ _).symm.trans H; rw [hy164]; with_reducible exact H2_) | (have H2_ := (Option.bind_some _ _).symm.trans H; with_reducible exact H2_) | with_reducible exact H | (rw [hy164]; exact H) | exact H
             have Ny164 := Aside0.mk hy164
             clear hy164
             by_cases c21 : ((rd_T105 l0_1 x22_2).f1) < (x3_2.length : Int)
             ·rw [if_pos c21] at H
              have c21b0 : decide (((rd_T105 l0_1 x22_2).f1) < (x3_2.length : Int)) = true := decide_eq_true c21
              clear c21
              by_cases c22 : ((rd_T105 l0_1 x22_2).f0) < ((rd_L6 y164 ((rd_T105 l0_1 x22_2).f1)).length : Int)
              ·rw [if_pos c22] at H
               have c22b0 : decide (((rd_T105 l0_1 x22_2).f0) < ((rd_L6 y164 ((rd_T105 l0_1 x22_2).f1)).length : Int)) = true := decide_eq_true c22
               clear c22
               obtain ⟨y166, hy166⟩ : ∃ y_ : List Bool, y_ = ((rd_L6 y164 ((rd_T105 l0_1 x22_2).f1)).set (((rd_T105 l0_1 x22_2).f0) : Int).toNat true) := ⟨_, rfl⟩
               replace H : (spec_paTable.l1 k2 (y164.set (((rd_T105 l0_1 x22_2).f1) : Int).toNat y166) l0_1 (l0_1.length : Int) (wrap64 (x22_2 + 1))) = some r := by first | (rw [hy166]; with_reducible exact H) | (have H2_ := (Option.bind_some _ _).symm.trans H; rw [hy166]; with_reducible exact H2_) | (have H2_ := (Option.bind_some _ _).symm.trans H; with_reducible exact H2_) | with_reducible exact H | (rw [hy166]; exact H) | exact H
               have Ny166 := Aside0.mk hy166
               clear hy166
               obtain ⟨y168, hy168⟩ : ∃ y_ : List (List Bool), y_ = (y164.set (((rd_T105 l0_1 x22_2).f1) : Int).toNat y166) := ⟨_, rfl⟩
               replace H : (spec_paTable.l1 k2 y168 l0_1 (l0_1.length : Int) (wrap64 (x22_2 + 1))) = some r := by first | (rw [hy168]; with_reducible exact H) | (have H2_ := (Option.bind_some _ _).symm.trans H; rw [hy168]; with_reducible exact H2_) | (have H2_ := (Option.bind_some _ _).symm.trans H; with_reducible exact H2_) | with_reducible exact H | (rw [hy168]; exact H) | exact H
               have Ny168 := Aside0.mk hy168
               clear hy168
               have H' := Aside0.mk H
               clear H
               have p159 : 0 ≤ (x22_2 : Int) := of_decide_eq_true (by first | (with_reducible assumption) | assumption)
               have q159 : x22_2 < (l0_1.length : Int) := of_decide_eq_true (by first | (with_reducible assumption) | assumption)
               obtain ⟨ad159, e159, hx159_0, hx159_1⟩ := at_T105 HR0_1.out x22_2 p159 q159
               cases e159
               replace hx159_0 := (HB.out.cell (World.block_lt_of_cell? w _ hx159_0)).trans hx159_0
               replace hx159_1 := (HB.out.cell (World.block_lt_of_cell? w _ hx159_1)).trans hx159_1
               replace p159 := eq_true p159
               replace q159 := eq_true q159
               try go_wp2_with (first | ((with_reducible refine gate_dst (N := 6) rfl ?_); refine bxE 6 #[.int .i64 0, .int .i64 0] 105 rfl ?_; intro gb160 hg w24 hbox hb; have BK160 := Aside0.mk (hbox); have GW160 := gS HB hg; have GE160 := gS HB hg; have NB152_160 := nL BK152 hg; have NB160_152 := nG BK152 hg; replace HO_3 := Aside0.mk (Kd.S_below (sU HO_3) hb); replace BK152 := bS BK152 hb; replace HB := hS HB hb; clear hb hbox hg; have hnb25 := NB160_152.out; have hnc25 := NB152_160.out; have hcz26_0 := cz BK160 0; have hcz26_1 := cz BK160 1; have hfz26_0 := fz BK160 0; have hfz26_1 := fz BK160 1))
               have n0_ : Aside0 (Kd.S (Kd.slice 4 Kd.bool) 72 ((w24.setCell ⟨gb160, 0, none⟩ (.int .i64 ((rd_T105 l0_1 x22_2).f0))).setCell ⟨gb160, 1, none⟩ (.int .i64 ((rd_T105 l0_1 x22_2).f1))) w.heap.size (fun _ => True) u3 x3_2) := ⟨by (with_reducible repeat (first | apply Kd.S_alloc | apply Kd.S_drewN | apply Kd.S_drew)); exact Kd.S_mono (Kd.S_far (p := ⟨gb160, 1, none⟩) (Kd.S_far (p := ⟨gb160, 0, none⟩) (Kd.S_types HO_3.out BK160.out (by decide)) (fun _ hk => hk.2) (.int .i64 ((rd_T105 l0_1 x22_2).f0))) (fun _ hk => hk.2) (.int .i64 ((rd_T105 l0_1 x22_2).f1))) (fun _ hk => trivial)⟩
               have n1_ : Aside0 (((w24.setCell ⟨gb160, 0, none⟩ (.int .i64 ((rd_T105 l0_1 x22_2).f0))).setCell ⟨gb160, 1, none⟩ (.int .i64 ((rd_T105 l0_1 x22_2).f1))).heap[gb152]? = some (.cells #[.int .i64 a0_0, .slice (some ad159) l0_1.length c0_1] 33 (0, 0))) := ⟨by (with_reducible repeat (first | refine blk_drewN ?_ _ | refine blk_drew ?_ | refine blk_alloc ?_ _)); refine blk_far ?_ NB152_160.out _; (with_reducible repeat (first | refine blk_drewN ?_ _ | refine blk_drew ?_ | refine blk_alloc ?_ _)); refine blk_far ?_ NB152_160.out _; (with_reducible repeat (first | refine blk_drewN ?_ _ | refine blk_drew ?_ | refine blk_alloc ?_ _)); exact BK152.out⟩
               have n2_ : Aside0 (((w24.setCell ⟨gb160, 0, none⟩ (.int .i64 ((rd_T105 l0_1 x22_2).f0))).setCell ⟨gb160, 1, none⟩ (.int .i64 ((rd_T105 l0_1 x22_2).f1))).heap[gb160]? = some (.cells #[.int .i64 ((rd_T105 l0_1 x22_2).f0), .int .i64 ((rd_T105 l0_1 x22_2).f1)] 105 (0, 0))) := ⟨by (with_reducible repeat (first | refine blk_drewN ?_ _ | refine blk_drew ?_ | refine blk_alloc ?_ _)); refine blk_put (cs := #[.int .i64 ((rd_T105 l0_1 x22_2).f0), .int .i64 0]) ?_ 1 _ rfl; (with_reducible repeat (first | refine blk_drewN ?_ _ | refine blk_drew ?_ | refine blk_alloc ?_ _)); refine blk_put (cs := #[.int .i64 0, .int .i64 0]) ?_ 0 _ rfl; (with_reducible repeat (first | refine blk_drewN ?_ _ | refine blk_drew ?_ | refine blk_alloc ?_ _)); exact BK160.out⟩
               have n3_ : Aside0 (Below w.heap.size w ((w24.setCell ⟨gb160, 0, none⟩ (.int .i64 ((rd_T105 l0_1 x22_2).f0))).setCell ⟨gb160, 1, none⟩ (.int .i64 ((rd_T105 l0_1 x22_2).f1)))) := ⟨hB⟩
               (try clear HO_3)
               (try clear BK152)
               (try clear BK160)
               (try clear HB)
               generalize ((w24.setCell ⟨gb160, 0, none⟩ (.int .i64 ((rd_T105 l0_1 x22_2).f0))).setCell ⟨gb160, 1, none⟩ (.int .i64 ((rd_T105 l0_1 x22_2).f1))) = w27 at n0_ n1_ n2_ n3_ ⊢
               have HO_3 := n0_
               have BK152 := n1_
               have BK160 := n2_
               have HB := n3_
               clear n0_ n1_ n2_ n3_
               replace HO_3 := Aside0.mk (Kd.S_drew HO_3.out)
               replace BK152 := Aside0.mk (blk_drew BK152.out)
               replace BK160 := Aside0.mk (blk_drew BK160.out)
               replace HB := Aside0.mk (below_drew1 HB.out)
               obtain ⟨Ao29, co29, eo29⟩ := Kd.S_slice HO_3.out
               (first | subst eo29 | (injection eo29 with f1_ f2_ f3_; have f4_ := f1_.symm; have f5_ := f3_.symm; clear f1_ f2_ f3_; subst f4_; subst f5_))
               have p161 : 0 ≤ (((rd_T105 l0_1 x22_2).f0) : Int) := of_decide_eq_true (by first | (with_reducible assumption) | assumption)
               have q161 : ((rd_T105 l0_1 x22_2).f0) < (x3_2.length : Int) := of_decide_eq_true (by first | (with_reducible assumption) | assumption)
               obtain ⟨ad161, A161_0, c161_0, e161, hx161_0, hl161_0, hi161_0⟩ := at_L6 (Kd.S_reads' HO_3.out).2.2 ((rd_T105 l0_1 x22_2).f0) p161 q161
               cases e161
               obtain ⟨ce161, hce161, hMe161, hcc161⟩ := Kd.S_get HO_3.out [] ((rd_T105 l0_1 x22_2).f0) p161 (by first | exact q161 | exact of_decide_eq_true (by first | (with_reducible assumption) | assumption) | (have e_ := (Kd.S_reads' HO_3.out).1; omega))
               obtain ⟨ve161_0, rfl, ge161_0⟩ := hMe161
               have hv161_0 := hcc161 0 _ rfl
               rw [Nat.add_zero, show ((Kd.slice 4 Kd.bool)).sz = 1 from rfl, Nat.mul_one] at hv161_0
               replace hv161_0 := Option.some.inj (hv161_0.symm.trans hx161_0)
               rw [hv161_0] at ge161_0
               have HL161_0 := Aside0.mk (show Kd.R Kd.bool 4 _ _ _ _ (rd_L6 x3_2 ((rd_T105 l0_1 x22_2).f0)) from ge161_0)
               clear hv161_0 ge161_0
               have HX161_0 := Aside0.mk hx161_0
               clear hcc161 hce161
               have HR161_0 := Aside0.mk hi161_0
               have HC161_0 := Aside0.mk hl161_0
               clear hi161_0 hl161_0
               replace p161 := eq_true p161
               replace q161 := eq_true q161
               have p20 : 0 ≤ (((rd_T105 l0_1 x22_2).f1) : Int) := of_decide_eq_true (by first | (with_reducible assumption) | assumption)
               have q20 : (((rd_T105 l0_1 x22_2).f1) : Int) < (((rd_L6 x3_2 ((rd_T105 l0_1 x22_2).f0)).length : Int) : Int) := of_decide_eq_true (by first | (with_reducible assumption) | assumption)
               obtain ⟨go20, co20, eo20, gb20, gl20, cl20, HG20⟩ := Kd.R_form HL161_0.out (by omega)
               (first | cases eo20 | (injection eo20 with ea_ en_ ec_; (first | subst ea_ | (injection ea_ with ea_; subst ea_)); subst ec_; clear en_))
               have GB20 := Aside0.mk gb20
               have GG20 := Aside0.mk HG20
               clear gb20 gl20 HG20
               obtain ⟨hx20_0, hf20_0⟩ := Kd.R_celln false HL161_0.out (((rd_T105 l0_1 x22_2).f1) : Int) p20 q20
               replace p20 := eq_true p20
               replace q20 := eq_true q20
               have hq30 : (((rd_T105 l0_1 x22_2).f0) : Int) < (x3_2.length : Int) := (by have h_ : (((rd_T105 l0_1 x22_2).f0) : Int) < ((x3_2.length : Int) : Int) := of_decide_eq_true (by first | (with_reducible assumption) | assumption); first | exact h_ | (have e_ := (Kd.S_reads' HO_3.out).1; omega) | simpa only [List.length_set, List.length_set] using h_)
               obtain ⟨oki30, ce30, hcl30, hM30, hcc30, hok30, hbk30⟩ := Kd.S_borrow HO_3.out [] (((rd_T105 l0_1 x22_2).f0) : Int) (of_decide_eq_true (by first | (with_reducible assumption) | assumption)) (by first | exact hq30 | exact of_decide_eq_true (by first | (with_reducible assumption) | assumption))
               obtain ⟨ve30_0, rfl, ge30_0⟩ := hM30
               have hv30 := hcc30 0 _ rfl
               rw [Nat.add_zero, show ((Kd.slice 4 Kd.bool)).sz = 1 from rfl, Nat.mul_one] at hv30
               replace hv30 := Option.some.inj (hv30.symm.trans HX161_0.out)
               subst hv30
               clear hcc30 hcl30
               replace ge30_0 := (show Kd.R Kd.bool 4 _ _ _ _ (rd_L6 x3_2 ((rd_T105 l0_1 x22_2).f0)) from ge30_0)
               have HP30 := Kd.R_putg ge30_0 (((rd_T105 l0_1 x22_2).f1) : Int) true
               rw [← Ny162.out] at HP30
               have HS30 := hbk30 HP30.2 (fun k_ e_ => by injection e_ with e_; subst e_; exact ge30_0.1 _ rfl) (x' := y162) (Kd.M_row HP30.1)
               rw [← Ny164.out] at HS30
               have HQ30 := Aside0.mk HS30
               clear HP30 HS30 hbk30 hok30
               refine start_ (n := 9) (S := fun w' => w'.cell? ⟨gb160, 0, none⟩ = some (.int .i64 ((rd_T105 l0_1 x22_2).f0)) ∧ w'.cell? ⟨gb160, 1, none⟩ = some (.int .i64 ((rd_T105 l0_1 x22_2).f1)) ∧ w'.cell? (ad161.add (((rd_T105 l0_1 x22_2).f0)).toNat) = some (.slice (some ⟨go20, 0, none⟩) (rd_L6 x3_2 ((rd_T105 l0_1 x22_2).f0)).length c161_0)) (ds := [8]) (bz 9 0) (by kernel_rfl) rfl rfl ⟨(blk_cell BK160.out 0).trans rfl, (blk_cell BK160.out 1).trans rfl, hx161_0⟩ (fun hHeld => ?_); refine with_tabW spec_paTable.tab9 spec_paTable.bits9 (fun HT_ HW_ => ?_)
               generalize w27.drew = w28 at HO_3 BK152 BK160 HB GG20 HL161_0 HQ30 HR161_0 HX161_0 hf20_0 hx161_0 hx20_0 hHeld ⊢
               refine run_ [(0, 0, 1, some 26), (0, 1, 3, some 27), (0, 5, 35, some 31), (1, 2, 39, some 28), (0, 3, 47, some 29), (1, 4, 63, some 30), (1, 6, 127, some 32), (0, 7, 255, some 33)] ?_
               repeat (first | (apply tag0; refine run_p (v := ?_) (a' := ?_) rfl rfl (any_of HT_.out (by kernel_rfl)) (fun _ _ _ h => h) (by rfl) ?_ ?_ ?_; rotate_left 2; (intro w'; go_simp; with_reducible rfl); (first | (simp only [Act.put, List.setIfInBounds_toArray, List.set_cons_zero, List.set_cons_succ, i64_w, i32_w]; rfl) | rfl)) | (apply tag1; refine run_t (v := ?_) (a' := ?_) rfl rfl (take_ofW HT_.out HW_.out (by kernel_rfl)) (fun _ _ _ h => h) (by rfl) ?_ hHeld ?_ ?_; rotate_left 2; (rintro w' ⟨s0, s1, s2⟩; go_simp; with_reducible rfl); (first | (simp only [Act.put, List.setIfInBounds_toArray, List.set_cons_zero, List.set_cons_succ, i64_w, i32_w]; rfl) | rfl)))
               refine run_nil ?_
               refine last_ (i := 8) (N := none) (bz 9 511) rfl rfl (one_of HT_.out (by kernel_rfl)) (by decide) (fun K hK => ?_)
               refine skip_ (w1 := ?_) (by rfl) rfl ?_ ?_
               rotate_left
               ·go_simp
                rfl
               refine hK.out _ _ ?_
               clear hK K
               refine done_ (done_of HT_.out (by kernel_rfl)) ?_
               try go_wp2
               have n0_ : Aside0 (Kd.S (Kd.slice 4 Kd.bool) 72 (w28.setCell ⟨go20, (((rd_T105 l0_1 x22_2).f1) : Int).toNat, none⟩ (.bool true)) w.heap.size (fun _ => True) (.slice (some ad161) x3_2.length co29) y164) := ⟨by (with_reducible repeat (first | apply Kd.S_alloc | apply Kd.S_drewN | apply Kd.S_drew)); exact HQ30.out⟩
               have n1_ : Aside0 ((w28.setCell ⟨go20, (((rd_T105 l0_1 x22_2).f1) : Int).toNat, none⟩ (.bool true)).heap[gb152]? = some (.cells #[.int .i64 a0_0, .slice (some ad159) l0_1.length c0_1] 33 (0, 0))) := ⟨by (with_reducible repeat (first | refine blk_drewN ?_ _ | refine blk_drew ?_ | refine blk_alloc ?_ _)); refine blk_far ?_ (by have h_ := Kd.R_ne HL161_0.out BK152.out (by decide); intro e_; exact h_ (by rw [e_]; rfl)) _; (with_reducible repeat (first | refine blk_drewN ?_ _ | refine blk_drew ?_ | refine blk_alloc ?_ _)); exact BK152.out⟩
               have n2_ : Aside0 ((w28.setCell ⟨go20, (((rd_T105 l0_1 x22_2).f1) : Int).toNat, none⟩ (.bool true)).heap[gb160]? = some (.cells #[.int .i64 ((rd_T105 l0_1 x22_2).f0), .int .i64 ((rd_T105 l0_1 x22_2).f1)] 105 (0, 0))) := ⟨by (with_reducible repeat (first | refine blk_drewN ?_ _ | refine blk_drew ?_ | refine blk_alloc ?_ _)); refine blk_far ?_ (by have h_ := Kd.R_ne HL161_0.out BK160.out (by decide); intro e_; exact h_ (by rw [e_]; rfl)) _; (with_reducible repeat (first | refine blk_drewN ?_ _ | refine blk_drew ?_ | refine blk_alloc ?_ _)); exact BK160.out⟩
               have n3_ : Aside0 (Below w.heap.size w (w28.setCell ⟨go20, (((rd_T105 l0_1 x22_2).f1) : Int).toNat, none⟩ (.bool true))) := ⟨by repeat (first | (with_reducible first | exact HB.out | apply below_alloc | apply pw_below_drewN | apply below_drew1 | refine below_set ?_ GB20.out | refine below_set ?_ GE152.out | refine below_set ?_ GE160.out) | exact HB.out)⟩
               (try clear HO_3)
               (try clear BK152)
               (try clear BK160)
               (try clear HB)
               generalize (w28.setCell ⟨go20, (((rd_T105 l0_1 x22_2).f1) : Int).toNat, none⟩ (.bool true)) = w32 at n0_ n1_ n2_ n3_ ⊢
               have HO_3 := n0_
               have BK152 := n1_
               have BK160 := n2_
               have HB := n3_
               clear n0_ n1_ n2_ n3_
               replace HO_3 := Aside0.mk (Kd.S_drew HO_3.out)
               replace BK152 := Aside0.mk (blk_drew BK152.out)
               replace BK160 := Aside0.mk (blk_drew BK160.out)
               replace HB := Aside0.mk (below_drew1 HB.out)
               have p165 : 0 ≤ (((rd_T105 l0_1 x22_2).f1) : Int) := of_decide_eq_true (by first | (with_reducible assumption) | assumption)
               have q165 : ((rd_T105 l0_1 x22_2).f1) < (y164.length : Int) := (by have h_ : (((rd_T105 l0_1 x22_2).f1) : Int) < ((x3_2.length : Int) : Int) := of_decide_eq_true (by first | (with_reducible assumption) | assumption); first | (have e_ := (Kd.S_reads' HO_3.out).1; omega) | simpa only [Ny164.out, List.length_set] using h_)
               have ql165 : ((((rd_T105 l0_1 x22_2).f1) : Int) < ((x3_2.length : Int) : Int)) = True := eq_true (of_decide_eq_true (by first | (with_reducible assumption) | assumption))
               obtain ⟨ad165, A165_0, c165_0, e165, hx165_0, hl165_0, hi165_0⟩ := at_L6 (Kd.S_reads' HO_3.out).2.2 ((rd_T105 l0_1 x22_2).f1) p165 q165
               obtain rfl : ad161 = ad165 := (by injection e165)
               obtain ⟨ce165, hce165, hMe165, hcc165⟩ := Kd.S_get HO_3.out [] ((rd_T105 l0_1 x22_2).f1) p165 (by first | exact q165 | exact of_decide_eq_true (by first | (with_reducible assumption) | assumption) | (have e_ := (Kd.S_reads' HO_3.out).1; omega))
               obtain ⟨ve165_0, rfl, ge165_0⟩ := hMe165
               have hv165_0 := hcc165 0 _ rfl
               rw [Nat.add_zero, show ((Kd.slice 4 Kd.bool)).sz = 1 from rfl, Nat.mul_one] at hv165_0
               replace hv165_0 := Option.some.inj (hv165_0.symm.trans hx165_0)
               rw [hv165_0] at ge165_0
               have HL165_0 := Aside0.mk (show Kd.R Kd.bool 4 _ _ _ _ (rd_L6 y164 ((rd_T105 l0_1 x22_2).f1)) from ge165_0)
               clear hv165_0 ge165_0
               have HX165_0 := Aside0.mk hx165_0
               clear hcc165 hce165
               have HR165_0 := Aside0.mk hi165_0
               have HC165_0 := Aside0.mk hl165_0
               clear hi165_0 hl165_0
               replace p165 := eq_true p165
               replace q165 := eq_true q165
               have p23 : 0 ≤ (((rd_T105 l0_1 x22_2).f0) : Int) := of_decide_eq_true (by first | (with_reducible assumption) | assumption)
               have q23 : (((rd_T105 l0_1 x22_2).f0) : Int) < (((rd_L6 y164 ((rd_T105 l0_1 x22_2).f1)).length : Int) : Int) := of_decide_eq_true (by first | (with_reducible assumption) | assumption)
               obtain ⟨go23, co23, eo23, gb23, gl23, cl23, HG23⟩ := Kd.R_form HL165_0.out (by omega)
               (first | cases eo23 | (injection eo23 with ea_ en_ ec_; (first | subst ea_ | (injection ea_ with ea_; subst ea_)); subst ec_; clear en_))
               have GB23 := Aside0.mk gb23
               have GG23 := Aside0.mk HG23
               clear gb23 gl23 HG23
               obtain ⟨hx23_0, hf23_0⟩ := Kd.R_celln false HL165_0.out (((rd_T105 l0_1 x22_2).f0) : Int) p23 q23
               replace p23 := eq_true p23
               replace q23 := eq_true q23
               have hq34 : (((rd_T105 l0_1 x22_2).f1) : Int) < (y164.length : Int) := (by have h_ : (((rd_T105 l0_1 x22_2).f1) : Int) < ((x3_2.length : Int) : Int) := of_decide_eq_true (by first | (with_reducible assumption) | assumption); first | exact h_ | (have e_ := (Kd.S_reads' HO_3.out).1; omega) | simpa only [Ny164.out, List.length_set] using h_)
               obtain ⟨oki34, ce34, hcl34, hM34, hcc34, hok34, hbk34⟩ := Kd.S_borrow HO_3.out [] (((rd_T105 l0_1 x22_2).f1) : Int) (of_decide_eq_true (by first | (with_reducible assumption) | assumption)) (by first | exact hq34 | exact of_decide_eq_true (by first | (with_reducible assumption) | assumption))
               obtain ⟨ve34_0, rfl, ge34_0⟩ := hM34
               have hv34 := hcc34 0 _ rfl
               rw [Nat.add_zero, show ((Kd.slice 4 Kd.bool)).sz = 1 from rfl, Nat.mul_one] at hv34
               replace hv34 := Option.some.inj (hv34.symm.trans HX165_0.out)
               subst hv34
               clear hcc34 hcl34
               replace ge34_0 := (show Kd.R Kd.bool 4 _ _ _ _ (rd_L6 y164 ((rd_T105 l0_1 x22_2).f1)) from ge34_0)
               have HP34 := Kd.R_putg ge34_0 (((rd_T105 l0_1 x22_2).f0) : Int) true
               rw [← Ny166.out] at HP34
               have HS34 := hbk34 HP34.2 (fun k_ e_ => by injection e_ with e_; subst e_; exact ge34_0.1 _ rfl) (x' := y166) (Kd.M_row HP34.1)
               rw [← Ny168.out] at HS34
               have HQ34 := Aside0.mk HS34
               clear HP34 HS34 hbk34 hok34
               refine start_ (n := 9) (S := fun w' => w'.cell? ⟨gb160, 0, none⟩ = some (.int .i64 ((rd_T105 l0_1 x22_2).f0)) ∧ w'.cell? ⟨gb160, 1, none⟩ = some (.int .i64 ((rd_T105 l0_1 x22_2).f1)) ∧ w'.cell? (ad161.add (((rd_T105 l0_1 x22_2).f1)).toNat) = some (.slice (some ⟨go23, 0, none⟩) (rd_L6 y164 ((rd_T105 l0_1 x22_2).f1)).length c165_0)) (ds := [8]) (bz 9 0) (by kernel_rfl) rfl rfl ⟨(blk_cell BK160.out 0).trans rfl, (blk_cell BK160.out 1).trans rfl, hx165_0⟩ (fun hHeld => ?_); refine with_tabW spec_paTable.tab10 spec_paTable.bits10 (fun HT_ HW_ => ?_)
               generalize w32.drew = w33 at HO_3 BK152 BK160 HB GG23 HL165_0 HQ30 HQ34 HR165_0 HX165_0 hf23_0 hx165_0 hx23_0 hHeld ⊢
               refine run_ [(0, 0, 1, some 34), (0, 1, 3, some 35), (0, 5, 35, some 39), (1, 2, 39, some 36), (0, 3, 47, some 37), (1, 4, 63, some 38), (1, 6, 127, some 40), (0, 7, 255, some 41)] ?_
               repeat (first | (apply tag0; refine run_p (v := ?_) (a' := ?_) rfl rfl (any_of HT_.out (by kernel_rfl)) (fun _ _ _ h => h) (by rfl) ?_ ?_ ?_; rotate_left 2; (intro w'; go_simp; with_reducible rfl); (first | (simp only [Act.put, List.setIfInBounds_toArray, List.set_cons_zero, List.set_cons_succ, i64_w, i32_w]; rfl) | rfl)) | (apply tag1; refine run_t (v := ?_) (a' := ?_) rfl rfl (take_ofW HT_.out HW_.out (by kernel_rfl)) (fun _ _ _ h => h) (by rfl) ?_ hHeld ?_ ?_; rotate_left 2; (rintro w' ⟨s0, s1, s2⟩; go_simp; with_reducible rfl); (first | (simp only [Act.put, List.setIfInBounds_toArray, List.set_cons_zero, List.set_cons_succ, i64_w, i32_w]; rfl) | rfl)))
               refine run_nil ?_
               refine last_ (i := 8) (N := none) (bz 9 511) rfl rfl (one_of HT_.out (by kernel_rfl)) (by decide) (fun K hK => ?_)
               refine skip_ (w1 := ?_) (by rfl) rfl ?_ ?_
               rotate_left
               ·go_simp
                rfl
               refine hK.out _ _ ?_
               clear hK K
               refine done_ (done_of HT_.out (by kernel_rfl)) ?_
               try go_wp2
               go_roundg k2
               case measure => have := HK1.out; have := HK2.out; omega
               case rel => exact ⟨(y168), (wrap64 (x22_2 + 1)), (by first | rfl | (simp; done) | (simp [*]; done)), H', ⟨by have := HK1.out; have := HK2.out; omega⟩, ⟨by (with_reducible repeat (first | apply Kd.S_alloc | apply Kd.S_drewN | apply Kd.S_drew)); exact HQ34.out⟩, ⟨by (with_reducible repeat (first | refine blk_drewN ?_ _ | refine blk_drew ?_ | refine blk_alloc ?_ _)); refine blk_far ?_ (by have h_ := Kd.R_ne HL165_0.out BK152.out (by decide); intro e_; exact h_ (by rw [e_]; rfl)) _; (with_reducible repeat (first | refine blk_drewN ?_ _ | refine blk_drew ?_ | refine blk_alloc ?_ _)); exact BK152.out⟩, ⟨by repeat (first | (with_reducible first | exact HB.out | apply below_alloc | apply pw_below_drewN | apply below_drew1 | refine below_set ?_ GB23.out | refine below_set ?_ GE152.out | refine below_set ?_ GE160.out) | exact HB.out)⟩⟩
              ·rw [if_neg c22] at H
               exact absurd H (by simp)
             ·rw [if_neg c21] at H
              exact absurd H (by simp)
            ·rw [if_neg c19] at H
             exact absurd H (by simp)
           ·rw [if_neg c18] at H
            exact absurd H (by simp)
          ·rw [if_neg c17] at H
           exact absurd H (by simp)
         ·rw [if_neg c16] at H
          exact absurd H (by simp)
        ·rw [if_neg c15] at H
         exact absurd H (by simp)
       ·rw [if_neg c14] at H
        exact absurd H (by simp)
      ·rw [if_neg c13] at H
       have c13b0 : decide (x22_2 < (l0_1.length : Int)) = false := decide_eq_false c13
       clear c13
       obtain rfl := Option.some.inj H
       go_wp2
       go_ret
       exact ⟨_, by first | rfl | (simp [errW_none, errW_some] <;> rfl) | (simp [*, errW_none, errW_some] <;> rfl), sU HO_3, hB⟩

/-! ### spec_l1Own: function 143 -/
def spec_l1Own.f (l0 : List Int) : Option (List Int) := (some (([] : List Int) : List Int)).bind fun y169 => (if y169.length + l0.length < 17592186044416 then (some (y169 ++ l0)) else (none))
set_option maxHeartbeats 8000000 in
set_option maxRecDepth 100000 in
theorem spec_l1Own.calls (A0 : Option Addr) (c0 : Nat) (l0 : List Int) (r : List Int) (w : World) (hr0 : Kd.C (Kd.int .i64) w A0 l0.length l0) (hc0 : l0.length ≤ c0) (h : spec_l1Own.f l0 = some r) :
  Calls Tryd.prog 143 #[.slice A0 l0.length c0] w fun e w' => ∃ v0_ : Value, e = .returned (v0_) ∧ Kd.R (Kd.int .i64) 3 w' w.heap.size (fun _ => True) v0_ r ∧ Below w.heap.size w w' := by
 have HR0 := Aside0.mk hr0
 have HC0 := Aside0.mk hc0
 clear hr0 hc0
 have HB := Aside0.mk (Below.refl w.heap.size w)
 have H : ((some (([] : List Int) : List Int)).bind fun y169 => (if y169.length + l0.length < 17592186044416 then (some (y169 ++ l0)) else (none))) = some r := h
 clear h
 obtain ⟨y169, hy169⟩ : ∃ y_ : List Int, y_ = (([] : List Int)) := ⟨_, rfl⟩
 replace H : (if y169.length + l0.length < 17592186044416 then (some (y169 ++ l0)) else (none)) = some r := by first | (rw [hy169]; with_reducible exact H) | (have H2_ := (Option.bind_some _ _).symm.trans H; rw [hy169]; with_reducible exact H2_) | (have H2_ := (Option.bind_some _ _).symm.trans H; with_reducible exact H2_) | with_reducible exact H | (rw [hy169]; exact H) | exact H
 have Ny169 := Aside0.mk hy169
 clear hy169
 by_cases c2 : y169.length + l0.length < 17592186044416
 ·rw [if_pos c2] at H
  have LMc2 := Aside0.mk c2
  clear c2
  obtain ⟨y172, hy172⟩ : ∃ y_ : List Int, y_ = (y169 ++ l0) := ⟨_, rfl⟩
  replace H : (some y172) = some r := by first | (rw [hy172]; with_reducible exact H) | (have H2_ := (Option.bind_some _ _).symm.trans H; rw [hy172]; with_reducible exact H2_) | (have H2_ := (Option.bind_some _ _).symm.trans H; with_reducible exact H2_) | with_reducible exact H | (rw [hy172]; exact H) | exact H
  have Ny172 := Aside0.mk hy172
  clear hy172
  obtain rfl := Option.some.inj H
  go_enter Tryd.func143, Tryd.ntmps143
  go_wp2_with (first | ((with_reducible refine gate_dst (N := 3) rfl ?_); refine Kd.R_lit (Kd.int .i64) _ 3 ?hg (N := 3) ?hd (xs := ([] : List Int)) (inner := []) (ok := fun _ => True) (okp := fun _ => True) ?hr ?hp (fun _ hk => hk) trivial (Below.refl _ _) (Nat.le_refl _) (by simp) ?_; (case hd => rfl); (case hg => rfl); (case hr => first | (go_simp; done) | (go_simp; rfl)); (case hp => exact (Reps.none _ _)); intro v170 w3 ho4 hb hg_ hnew_; clear hg_ hnew_; (first | rw [← Ny169.out] at ho4 | (simp only [Int.reduceToNat] at ho4; rw [← Ny169.out] at ho4)); have HO171 := Aside0.mk (Kd.R_lower ho4 (below_size hB)); replace HB := hS HB hb; clear hb ho4) | ((with_reducible refine gate_builtin (b := .append) (xs := #[.tmp 3, .tmp 4]) rfl ?_); at_builtin; refine Kd.R_append_rows (Kd.int .i64) (w0 := w) w.heap.size rfl (.tmp 3) (.tmp 4) 75 3 (.int .i64 0) 8 rfl Tryd.underlying75 info3 rfl (by decide) (by omega) v170 y169 l0 _ _ _ (fun _ => True) (fun _ => False) rfl rfl ?aO ?aR (fun _ _ h => h) (fun _ h => h.elim) ?aF ?aB ?aS ?aL ?_; (case aR => repeat (first | exact (Kd.C_below HR0.out HB.out) | (with_reducible refine Kd.C_alloc ?_ _) | (with_reducible refine Kd.C_drewN ?_ _) | (with_reducible refine Kd.C_drew ?_))); (case aB => exact hB); (case aF => exact (fun _ _ => trivial)); (case aO => exact (rU HO171)); (case aS => exact (below_size hB)); (case aL => have := LMc2.out; omega); intro v173 w5 ho hb hg hat; rw [← Ny172.out] at ho; have HO174 := Aside0.mk (ho); replace HB := Aside0.mk (hb); clear HO171; clear ho hb hg hat))
  go_ret
  exact ⟨_, by first | rfl | (simp [errW_none, errW_some] <;> rfl) | (simp [*, errW_none, errW_some] <;> rfl), rU HO174, hB⟩
 ·rw [if_neg c2] at H
  exact absurd H (by simp)

/-! ### spec_grJoins: function 145 -/
def spec_grJoins.l0 : Nat → List (List Bool) → Int → List Int → Int → Int → Option (Bool)
 | 0, _, _, _, _, _ => none
 | k + 1, x0, x2, x9, x10, x11 => if x11 < x10 then (if 0 ≤ x11 then (if x11 < (x9.length : Int) then (if 0 ≤ x2 then (if x2 < (x0.length : Int) then (if 0 ≤ (rd x9 x11) then (if (rd x9 x11) < ((rd_L6 x0 x2).length : Int) then (if (rdOf false (rd_L6 x0 x2) (rd x9 x11) = true) then (spec_grJoins.l0 k x0 x2 x9 x10 (wrap64 (x11 + 1))) else (some false)) else (none)) else (none)) else (none)) else (none)) else (none)) else (none)) else (some true)
def spec_grJoins.f (k : Nat) (l0 : List (List Bool)) (l1 : List Int) (a2 : Int) : Option (Bool) := spec_grJoins.l0 k l0 a2 l1 (l1.length : Int) 0
theorem spec_grJoins.mono_l : ∀ k, (∀ y0 y1 y2 y3 y4, LeO (spec_grJoins.l0 k y0 y1 y2 y3 y4) (spec_grJoins.l0 (k + 1) y0 y1 y2 y3 y4))
 | 0 => fun _ _ _ _ _ r h => by simp [spec_grJoins.l0] at h
 | k + 1 => by
  have ih0 := spec_grJoins.mono_l k
  ·intro y0 y1 y2 y3 y4
   unfold spec_grJoins.l0
   repeat' first
   | (with_reducible exact ih0 _ _ _ _ _)
   | (with_reducible exact LeO.refl _)
   | (with_reducible exact LeO.none _)
   | (with_reducible refine LeO.ite ?_ ?_)
   | (with_reducible refine LeO.bind ?_ (fun _ => ?_))
   | exact ih0 _ _ _ _ _
   | exact LeO.none _
   | refine LeO.ite ?_ ?_
   | refine LeO.bind ?_ (fun _ => ?_)
theorem spec_grJoins.mono : ∀ a0 a1 a2 k, LeO (spec_grJoins.f k a0 a1 a2) (spec_grJoins.f (k + 1) a0 a1 a2) := by
 intro a0 a1 a2 k
 have ih0 := spec_grJoins.mono_l k
 unfold spec_grJoins.f
 repeat' first
   | (with_reducible exact ih0 _ _ _ _ _)
   | (with_reducible exact LeO.refl _)
   | (with_reducible exact LeO.none _)
   | (with_reducible refine LeO.ite ?_ ?_)
   | (with_reducible refine LeO.bind ?_ (fun _ => ?_))
   | exact ih0 _ _ _ _ _
   | exact LeO.none _
   | refine LeO.ite ?_ ?_
   | refine LeO.bind ?_ (fun _ => ?_)
set_option maxHeartbeats 8000000 in
set_option maxRecDepth 100000 in
theorem spec_grJoins.calls (k : Nat) (A0 : Option Addr) (c0 : Nat) (l0 : List (List Bool)) (A1 : Option Addr) (c1 : Nat) (l1 : List Int) (a2 : Int) (r : Bool) (w : World) (hr0 : Kd.C (Kd.slice 4 Kd.bool) w A0 l0.length l0) (hc0 : l0.length ≤ c0) (hr1 : Kd.C (Kd.int .i64) w A1 l1.length l1) (hc1 : l1.length ≤ c1) (h : spec_grJoins.f k l0 l1 a2 = some r) :
  Calls Tryd.prog 145 #[.slice A0 l0.length c0, .slice A1 l1.length c1, .int .i64 a2] w fun e w' => e = .returned (.bool r) ∧ Drawn0 w w' := by
 have HR0 := Aside0.mk hr0
 have HC0 := Aside0.mk hc0
 clear hr0 hc0
 have HR1 := Aside0.mk hr1
 have HC1 := Aside0.mk hc1
 clear hr1 hc1
 have H : (spec_grJoins.l0 k l0 a2 l1 (l1.length : Int) 0) = some r := h
 clear h
 have H' := Aside0.mk H
 clear H
 go_enter Tryd.func145, Tryd.ntmps145
 go_wp2
 go_loopg [11] k (fun kq v11 w' => ∃ (x11_1 : Int), v11 = .int .i64 x11_1 ∧ Aside0 (spec_grJoins.l0 kq l0 a2 l1 (l1.length : Int) x11_1 = some r) ∧ Aside0 (kq ≤ k) ∧ Drawn0 w w')
 case atStart => exact ⟨(0), (by first | rfl | (simp; done) | (simp [*]; done)), H', ⟨Nat.le_refl _⟩, by repeat (first | exact Drawn0.refl _ | apply Drawn0.step)⟩
 case round =>
  clear H'
  try clear c1
  try clear p2
  obtain ⟨x11_1, rfl, HA, HK1, ⟨m1, rfl⟩⟩ := hrel
  cases gk with
  | zero => exact absurd HA.out (by simp [spec_grJoins.l0])
  | succ k1 =>
   have H := HA.out
   clear HA
   simp only [spec_grJoins.l0] at H
   by_cases c4 : x11_1 < (l1.length : Int)
   ·rw [if_pos c4] at H
    have c4b0 : decide (x11_1 < (l1.length : Int)) = true := decide_eq_true c4
    clear c4
    by_cases c5 : 0 ≤ x11_1
    ·rw [if_pos c5] at H
     have c5b0 : decide (0 ≤ x11_1) = true := decide_eq_true c5
     clear c5
     by_cases c6 : x11_1 < (l1.length : Int)
     ·rw [if_pos c6] at H
      have c6b0 : decide (x11_1 < (l1.length : Int)) = true := decide_eq_true c6
      clear c6
      by_cases c7 : 0 ≤ a2
      ·rw [if_pos c7] at H
       have c7b0 : decide (0 ≤ a2) = true := decide_eq_true c7
       clear c7
       by_cases c8 : a2 < (l0.length : Int)
       ·rw [if_pos c8] at H
        have c8b0 : decide (a2 < (l0.length : Int)) = true := decide_eq_true c8
        clear c8
        by_cases c9 : 0 ≤ (rd l1 x11_1)
        ·rw [if_pos c9] at H
         have c9b0 : decide (0 ≤ (rd l1 x11_1)) = true := decide_eq_true c9
         clear c9
         by_cases c10 : (rd l1 x11_1) < ((rd_L6 l0 a2).length : Int)
         ·rw [if_pos c10] at H
          have c10b0 : decide ((rd l1 x11_1) < ((rd_L6 l0 a2).length : Int)) = true := decide_eq_true c10
          clear c10
          obtain ⟨bq11, hbq11⟩ : ∃ b_ : Bool, b_ = (rdOf false (rd_L6 l0 a2) (rd l1 x11_1)) := ⟨_, rfl⟩
          replace H : (if (bq11 = true) then (spec_grJoins.l0 k1 l0 a2 l1 (l1.length : Int) (wrap64 (x11_1 + 1))) else (some false)) = some r := by rw [← hbq11] at H; exact H
          have Nbq11 := Aside0.mk hbq11
          clear hbq11
          by_cases c12 : (bq11 = true)
          ·subst c12
           rw [if_pos rfl] at H
           have H' := Aside0.mk H
           clear H
           have p175 : 0 ≤ (x11_1 : Int) := of_decide_eq_true (by first | (with_reducible assumption) | assumption)
           have q175 : x11_1 < (l1.length : Int) := of_decide_eq_true (by first | (with_reducible assumption) | assumption)
           obtain ⟨ad175, e175, hx175_0⟩ := Kd.at_int HR1.out x11_1 p175 q175
           cases e175
           replace p175 := eq_true p175
           replace q175 := eq_true q175
           have p176 : 0 ≤ (a2 : Int) := of_decide_eq_true (by first | (with_reducible assumption) | assumption)
           have q176 : a2 < (l0.length : Int) := of_decide_eq_true (by first | (with_reducible assumption) | assumption)
           obtain ⟨ad176, A176_0, c176_0, e176, hx176_0, hl176_0, hi176_0⟩ := at_L6 HR0.out a2 p176 q176
           cases e176
           have HR176_0 := Aside0.mk hi176_0
           have HC176_0 := Aside0.mk hl176_0
           clear hi176_0 hl176_0
           replace p176 := eq_true p176
           replace q176 := eq_true q176
           have p177 : 0 ≤ ((rd l1 x11_1) : Int) := of_decide_eq_true (by first | (with_reducible assumption) | assumption)
           have q177 : (rd l1 x11_1) < ((rd_L6 l0 a2).length : Int) := of_decide_eq_true (by first | (with_reducible assumption) | assumption)
           obtain ⟨ad177, e177, hx177_0⟩ := Kd.at_bool HR176_0.out (rd l1 x11_1) p177 q177
           (try rw [← Nbq11.out] at hx177_0)
           cases e177
           replace p177 := eq_true p177
           replace q177 := eq_true q177
           go_wp2
           go_roundg k1
           case measure => have := HK1.out; omega
           case rel => exact ⟨(wrap64 (x11_1 + 1)), (by first | rfl | (simp; done) | (simp [*]; done)), H', ⟨by have := HK1.out; omega⟩, by repeat (first | exact Drawn0.refl _ | apply Drawn0.step)⟩
          ·replace c12 := Bool.eq_false_iff.mpr c12
           subst c12
           have H1 : (some false) = some r := by rw [if_neg (show ¬ (false = true) by decide)] at H; exact H
           clear H
           have H := H1
           clear H1
           obtain rfl := Option.some.inj H
           have p175 : 0 ≤ (x11_1 : Int) := of_decide_eq_true (by first | (with_reducible assumption) | assumption)
           have q175 : x11_1 < (l1.length : Int) := of_decide_eq_true (by first | (with_reducible assumption) | assumption)
           obtain ⟨ad175, e175, hx175_0⟩ := Kd.at_int HR1.out x11_1 p175 q175
           cases e175
           replace p175 := eq_true p175
           replace q175 := eq_true q175
           have p176 : 0 ≤ (a2 : Int) := of_decide_eq_true (by first | (with_reducible assumption) | assumption)
           have q176 : a2 < (l0.length : Int) := of_decide_eq_true (by first | (with_reducible assumption) | assumption)
           obtain ⟨ad176, A176_0, c176_0, e176, hx176_0, hl176_0, hi176_0⟩ := at_L6 HR0.out a2 p176 q176
           cases e176
           have HR176_0 := Aside0.mk hi176_0
           have HC176_0 := Aside0.mk hl176_0
           clear hi176_0 hl176_0
           replace p176 := eq_true p176
           replace q176 := eq_true q176
           have p177 : 0 ≤ ((rd l1 x11_1) : Int) := of_decide_eq_true (by first | (with_reducible assumption) | assumption)
           have q177 : (rd l1 x11_1) < ((rd_L6 l0 a2).length : Int) := of_decide_eq_true (by first | (with_reducible assumption) | assumption)
           obtain ⟨ad177, e177, hx177_0⟩ := Kd.at_bool HR176_0.out (rd l1 x11_1) p177 q177
           (try rw [← Nbq11.out] at hx177_0)
           cases e177
           replace p177 := eq_true p177
           replace q177 := eq_true q177
           go_wp2
           go_ret
           exact ⟨by first | rfl | (simp; done) | (simp [*]; done), by repeat (first | exact Drawn0.refl _ | apply Drawn0.step)⟩
         ·rw [if_neg c10] at H
          exact absurd H (by simp)
        ·rw [if_neg c9] at H
         exact absurd H (by simp)
       ·rw [if_neg c8] at H
        exact absurd H (by simp)
      ·rw [if_neg c7] at H
       exact absurd H (by simp)
     ·rw [if_neg c6] at H
      exact absurd H (by simp)
    ·rw [if_neg c5] at H
     exact absurd H (by simp)
   ·rw [if_neg c4] at H
    have c4b0 : decide (x11_1 < (l1.length : Int)) = false := decide_eq_false c4
    clear c4
    obtain rfl := Option.some.inj H
    go_wp2
    go_ret
    exact ⟨by first | rfl | (simp; done) | (simp [*]; done), by repeat (first | exact Drawn0.refl _ | apply Drawn0.step)⟩

/-! ### spec_grLook: function 131 (a text of this session's own) -/

def spec_grLook.T0 : Bool × List (List Nat × List Nat) := (true, [([], []), ([], []), ([1], [1]), ([2], [2]), ([], []), ([4], [4]), ([5], [5]), ([3, 6, 5], [3, 6]), ([0, 0, 1, 2, 3, 4, 5, 6, 7], [0]), ([8, 7, 7, 0, 1, 2, 3, 4, 5, 6, 7], [7, 8])])
def spec_grLook.B0 : List Nat := [0, 0, 2, 6, 0, 16, 48, 126, 255, 511]
theorem spec_grLook.tab0 : rtab .any (opsOf Tryd.f131 0) = spec_grLook.T0 := by kernel_rfl
theorem spec_grLook.bits0 : waitsOk spec_grLook.T0.2 spec_grLook.B0 = true := by kernel_rfl
mutual
def spec_grLook.l0 : Nat → List (List Bool) → List Int → Int → List (List Int) → Option (List (List Int))
 | 0, _, _, _, _ => none
 | k + 1, t, p, a, xs => if a < (t.length : Int) then ((spec_grJoins.f k t p a).bind fun j => if j = true then ((spec_l1Own.f p).bind fun q => if q.length < 17592186044416 then ((spec_grLook.f k t (q ++ [a]) (wrap64 (a + 1)) xs).bind fun ys => spec_grLook.l0 k t p (wrap64 (a + 1)) ys) else none) else spec_grLook.l0 k t p (wrap64 (a + 1)) xs) else some xs
def spec_grLook.f : Nat → List (List Bool) → List Int → Int → List (List Int) → Option (List (List Int))
 | 0, _, _, _, _ => none
 | k + 1, t, p, a, xs => (spec_l1Own.f p).bind fun q => if xs.length < 5864062014805 then spec_grLook.l0 k t p a (xs ++ [q]) else none
end
theorem spec_grLook.mono_l : ∀ k, (∀ y0 y1 y2 y3, LeO (spec_grLook.l0 k y0 y1 y2 y3) (spec_grLook.l0 (k + 1) y0 y1 y2 y3)) ∧ (∀ y0 y1 y2 y3, LeO (spec_grLook.f k y0 y1 y2 y3) (spec_grLook.f (k + 1) y0 y1 y2 y3))
 | 0 => ⟨fun _ _ _ _ r h => by simp [spec_grLook.l0] at h, fun _ _ _ _ r h => by simp [spec_grLook.f] at h⟩
 | k + 1 => by
  obtain ⟨ih0, ih1⟩ := spec_grLook.mono_l k
  refine ⟨?_, ?_⟩
  · intro y0 y1 y2 y3
    unfold spec_grLook.l0
    repeat' first
      | (with_reducible exact ih0 _ _ _ _)
      | (with_reducible exact ih1 _ _ _ _)
      | (with_reducible exact spec_grJoins.mono _ _ _ _)
      | (with_reducible exact LeO.refl _)
      | (with_reducible exact LeO.none _)
      | (with_reducible refine LeO.ite ?_ ?_)
      | (with_reducible refine LeO.bind ?_ (fun _ => ?_))
  · intro y0 y1 y2 y3
    unfold spec_grLook.f
    repeat' first
      | (with_reducible exact ih0 _ _ _ _)
      | (with_reducible exact LeO.refl _)
      | (with_reducible exact LeO.none _)
      | (with_reducible refine LeO.ite ?_ ?_)
      | (with_reducible refine LeO.bind ?_ (fun _ => ?_))
/-- What a call leaves: the list in its place, and all else that lay there. -/
structure spec_grLook.St (w : World) (base b : Nat) (v : Value) (w' : World) (v' : Value) (ys : List (List Int)) : Prop where
  box : w'.heap[b]? = some (.cells #[v'] 58 (0, 0))
  row : Kd.N (Kd.slice 3 (Kd.int .i64)) 75 w' base (fun k => k ≠ b ∧ base ≤ k) v' ys
  below : Below base w w'
  keep : ∀ k, (k ≠ b ∧ some k ≠ v.ownBlock) → k < w.heap.size → w'.heap[k]? = w.heap[k]?
  at_ : v'.ownBlock = v.ownBlock ∨ ∃ g, v'.ownBlock = some g ∧ w.heap.size ≤ g
section
variable {w w' w'' : World} {base b : Nat} {v v' v'' : Value} {ys zs : List (List Int)}
theorem spec_grLook.St.foot {α : Type} {d : Kd α} {A : Option Addr} {n : Nat} {xs : List α} (s : spec_grLook.St w base b v w' v' ys) (h : Kd.F d w (fun k => k ≠ b ∧ some k ≠ v.ownBlock) A n xs) : Kd.F d w' (fun k => k ≠ b ∧ some k ≠ v'.ownBlock) A n xs := by
  refine Kd.F_mono (Kd.F_step (Kd.F_bound h) (fun k hk hlt => s.keep k hk.1 hlt)) ?_
  rintro k ⟨⟨h1, h2⟩, h3⟩
  refine ⟨h1, ?_⟩
  rcases s.at_ with e | ⟨g, e, hg⟩
  · rw [e]; exact h2
  · rw [e]
    intro hh
    injection hh with hh
    omega
theorem spec_grLook.St.later (s : spec_grLook.St w base b v w' v' ys) (hbase : base ≤ w'.heap.size) (hb : Below w'.heap.size w' w'') : spec_grLook.St w base b v w'' v' ys := by
  have hlt : b < w'.heap.size := (Array.getElem?_eq_some_iff.1 s.box).1
  exact ⟨(hb.block b hlt).trans s.box, Kd.N_below s.row hb, below_then s.below hbase hb, fun k hk hl => (hb.block k (Nat.lt_of_lt_of_le hl s.below.size)).trans (s.keep k hk hl), s.at_⟩
theorem spec_grLook.St.trans (s : spec_grLook.St w base b v w' v' ys) (u : spec_grLook.St w' base b v' w'' v'' zs) : spec_grLook.St w base b v w'' v'' zs := by
  refine ⟨u.box, u.row, s.below.trans u.below, fun k hk hl => ?_, ?_⟩
  · rw [u.keep k ⟨hk.1, ?_⟩ (Nat.lt_of_lt_of_le hl s.below.size), s.keep k hk hl]
    rcases s.at_ with e | ⟨g, e, hg⟩
    · rw [e]; exact hk.2
    · rw [e]
      intro hh
      injection hh with hh
      omega
  · rcases u.at_ with e | ⟨g, e, hg⟩
    · rw [e]; exact s.at_
    · exact .inr ⟨g, e, Nat.le_trans s.below.size hg⟩
end
section
variable {P : Program} {ops : Array Oper} {Q : Exit → Act → World → Prop}
theorem spec_grLook.lit_ {oi : Oper} {a : Act} {w w1 : World} {K : Act → World → Prop} {N : Option Tmp} {v : Value} (hw : Region.wanted oi (yielded ops a.tmps) = true) (hN : oi.dst = N) (hrun : (execOp a.eval oi).run P w = .ok (.value v) w1)
    (h : K (a.put N v) w1) : if Region.wanted oi (yielded ops a.tmps) = true then Oper.wp P oi a w K Q else K (a.put N undef) w := by
  rw [if_pos hw]
  unfold Oper.wp
  rw [hrun]
  show K (a.put oi.dst v) w1
  rw [hN]
  exact h
end
set_option maxHeartbeats 8000000 in
set_option maxRecDepth 100000 in
theorem spec_grLook.calls : ∀ (k : Nat) (A0 : Option Addr) (c0 : Nat) (l0 : List (List Bool)) (A1 : Option Addr) (c1 : Nat) (l1 : List Int) (a2 : Int) (b : Nat) (v : Value) (xs r : List (List Int)) (w : World) (base : Nat)
    (_h0 : Kd.F (Kd.slice 4 Kd.bool) w (fun k => k ≠ b ∧ some k ≠ v.ownBlock) A0 l0.length l0) (_hc0 : l0.length ≤ c0) (_h1 : Kd.F (Kd.int .i64) w (fun k => k ≠ b ∧ some k ≠ v.ownBlock) A1 l1.length l1) (_hc1 : l1.length ≤ c1)
    (_hS : spec_grLook.St w base b v w v xs) (_hbb : base ≤ b) (_hbase : base ≤ w.heap.size) (_h : spec_grLook.f k l0 l1 a2 xs = some r),
    Calls Tryd.prog 131 #[.slice A0 l0.length c0, .slice A1 l1.length c1, .int .i64 a2, .pointer (some ⟨b, 0, none⟩)] w fun e w' => e = .returned (.tuple #[]) ∧ ∃ v', spec_grLook.St w base b v w' v' r := by
  intro k
  induction k using Nat.strongRecOn with
  | ind k ih =>
    intro A0 c0 l0 A1 c1 l1 a2 b v xs r w base h0 hc0 h1 hc1 hS hbb hbase h
    cases k with
    | zero => simp [spec_grLook.f] at h
    | succ k =>
      simp only [spec_grLook.f] at h
      replace h := Option.bind_eq_some_iff.mp h
      obtain ⟨q, hq, h⟩ := h
      by_cases hx : xs.length < 5864062014805
      · rw [if_pos hx] at h
        obtain ⟨Av, cv, rfl⟩ := Kd.N_slice hS.row
        have HS := Aside0.mk hS
        have H0 := Aside0.mk h0
        have H1 := Aside0.mk h1
        have HQ := Aside0.mk hq
        have HL := Aside0.mk h
        have LX := Aside0.mk hx
        clear hS h0 h1 hq h hx
        go_enter Tryd.func131, Tryd.ntmps131
        try go_wp2
        refine start_ (n := 10) (S := fun w' => w'.cell? ⟨b, 0, none⟩ = some (.slice Av xs.length cv)) (ds := [9]) (bz 10 0) (by kernel_rfl) rfl rfl ((blk_cell HS.out.box 0).trans rfl) (fun hHeld => ?_)
        refine with_tabW spec_grLook.tab0 spec_grLook.bits0 (fun HT_ HW_ => ?_)
        have n0_ := Aside0.mk (HS.out.later hbase (below_drew (Below.refl w.heap.size w)))
        have n1_ := Aside0.mk (Kd.F_drew H1.out)
        have hbase1 : base ≤ w.drew.heap.size := hbase
        have hw1 : w.drew.heap = w.heap := rfl
        generalize w.drew = w1 at n0_ n1_ hbase1 hw1 hHeld ⊢
        refine run_ [(0, 0, 1, some 9), (0, 1, 3, some 10), (0, 2, 7, some 11), (1, 3, 15, some 12), (0, 4, 31, some 13)] ?_
        repeat (first | (apply tag0; refine run_p (v := ?_) (a' := ?_) rfl rfl (any_of HT_.out (by kernel_rfl)) (fun _ _ _ h => h) (by rfl) ?_ ?_ ?_; rotate_left 2; (intro w'; go_simp; with_reducible rfl); (first | (simp only [Act.put, List.setIfInBounds_toArray, List.set_cons_zero, List.set_cons_succ, i64_w, i32_w]; rfl) | rfl)) | (apply tag1; refine run_t (v := ?_) (a' := ?_) rfl rfl (take_ofW HT_.out HW_.out (by kernel_rfl)) (fun _ _ _ h => h) (by rfl) ?_ hHeld ?_ ?_; rotate_left 2; (intro w' s0; go_simp; with_reducible rfl); (first | (simp only [Act.put, List.setIfInBounds_toArray, List.set_cons_zero, List.set_cons_succ, i64_w, i32_w]; rfl) | rfl)))
        refine run_nil ?_
        refine one_ (i := 5) (N := some 14) (bz 10 63) rfl rfl (one_of HT_.out (by kernel_rfl)) (by decide) (fun K hK => ?_)
        refine goes_ Tryd.func143 (by kernel_rfl) rfl #[.slice A1 l1.length c1] (by rfl) rfl rfl mapT ?_
        refine (spec_l1Own.calls A1 c1 l1 q _ (Kd.F_now n1_.out) hc1 HQ.out).mono ?_
        rintro e w2 ⟨v1, rfl, ho, hb⟩
        refine ⟨_, rfl, ?_⟩
        have S2 := Aside0.mk (n0_.out.later hbase1 hb)
        have HO2 := Aside0.mk ho
        have hbase2 : base ≤ w2.heap.size := Nat.le_trans hbase1 hb.size
        have hsz2 : w.heap.size ≤ w2.heap.size := by rw [← hw1]; exact hb.size
        have hsz12 : w1.heap.size ≤ w2.heap.size := hb.size
        have hr2 : ∀ k, v1.ownBlock = some k → w1.heap.size ≤ k := Kd.R_base ho
        clear n0_ n1_ ho hb
        obtain ⟨Ao, co, rfl⟩ := Kd.R_slice HO2.out
        refine hK.out _ _ ((blk_cell S2.out.box 0).trans rfl) (fun hHeld => ?_)
        clear hK K
        refine norm_ (a' := ?_) ?_ ?_
        rotate_left
        · show Act.put _ (some 14) _ = _
          simp only [Act.put, List.setIfInBounds_toArray, List.set_cons_zero, List.set_cons_succ, i64_w, i32_w]
          rfl
        refine one_ (i := 6) (N := some 15) (bz 10 127) rfl rfl (one_of HT_.out (by kernel_rfl)) (by decide) (fun K hK => ?_)
        refine spec_grLook.lit_ (v := .slice (some ⟨w2.heap.size, 0, none⟩) 1 1) (w1 := w2.alloc (.cells [(.slice Ao q.length co : Value)].toArray 75)) (by rfl) rfl (by first | (go_simp; done) | (go_simp; rfl)) ?_
        refine hK.out _ _ ((blk_cell (blk_alloc S2.out.box _) 0).trans rfl) (fun hHeld => ?_)
        clear hK K
        refine norm_ (a' := ?_) ?_ ?_
        rotate_left
        · show Act.put _ (some 15) _ = _
          simp only [Act.put, List.setIfInBounds_toArray, List.set_cons_zero, List.set_cons_succ, i64_w, i32_w]
          rfl
        refine one_ (i := 7) (N := some 16) (bz 10 255) rfl rfl (one_of HT_.out (by kernel_rfl)) (by decide) (fun K hK => ?_)
        have hblt : b < w1.heap.size := by rw [hw1]; exact (Array.getElem?_eq_some_iff.1 HS.out.box).1
        refine Kd.N_append_step (Kd.slice 3 (Kd.int .i64)) (w0 := w) base (by rfl) (.tmp 12) (.tmp 15) 58 75 (.slice none 0 0) 24 rfl Tryd.underlying58 info75 rfl (by decide) (by omega) (.slice Av xs.length cv) xs q [.slice Ao q.length co] (fun k => k ≠ b ∧ base ≤ k) (fun k => (k ≠ b ∧ base ≤ k) ∧ some k ≠ (.slice Av xs.length cv : Value).ownBlock) rfl rfl ?aP (fun _ hk => hk) ?aF ?aO ?aB ?aS ?aL ?_
        case aP =>
          refine Kd.FK_slice_mk (Kd.R_reads' HO2.out).2.1 (Kd.R_F (Kd.R_mono (Kd.R_bound HO2.out) ?_))
          rintro k ⟨_, hk, _⟩
          refine ⟨⟨by omega, by omega⟩, fun he => ?_⟩
          have := Kd.N_lt HS.out.row k he.symm
          rw [← hw1] at this
          omega
        case aF => exact fun k hk => ⟨by omega, by omega⟩
        case aO => exact S2.out.row
        case aB => exact S2.out.below
        case aS => exact hbase2
        case aL => have := LX.out; omega
        intro v3 w3 ho hb hg hat
        have BX3 : w3.heap[b]? = some (.cells #[.slice Av xs.length cv] 58 (0, 0)) := (hg.block b (by omega) (Kd.N_away HS.out.row (fun _ hk => hk.1))).trans S2.out.box
        obtain ⟨A3, c3, e3⟩ := Kd.N_slice ho
        obtain ⟨n3, hn3⟩ : ∃ n, n = (xs ++ [q]).length := ⟨_, rfl⟩
        rw [← hn3] at e3
        subst e3
        clear hn3
        have S4 := Aside0.mk (show spec_grLook.St w base b (.slice Av xs.length cv) (w3.setCell ⟨b, 0, none⟩ (.slice A3 n3 c3)) (.slice A3 n3 c3) (xs ++ [q]) from
          ⟨blk_set BX3 0 _, Kd.N_far ho (fun _ hk => hk.1) _, hb.setCell hbb _, fun k hk hl => (Below.heap_setCell w3 ⟨b, 0, none⟩ _ k hk.1).trans ((hg.block k (Nat.lt_of_lt_of_le hl hsz2) hk.2).trans (S2.out.keep k hk hl)), by
            rcases hat with e | ⟨g, e, hg⟩
            · exact .inl e
            · exact .inr ⟨g, e, Nat.le_trans hsz2 hg⟩⟩)
        have BK3 := Aside0.mk BX3
        clear ho hb hg hat
        refine hK.out _ _ ((blk_cell BX3 0).trans rfl) (fun hHeld => ?_)
        clear hK K
        refine norm_ (a' := ?_) ?_ ?_
        rotate_left
        · show Act.put _ (some 16) _ = _
          simp only [Act.put, List.setIfInBounds_toArray, List.set_cons_zero, List.set_cons_succ, i64_w, i32_w]
          rfl
        refine run_ [(0, 8, 511, some 17)] ?_
        repeat ((apply tag0; refine run_p (v := ?_) (a' := ?_) rfl rfl (any_of HT_.out (by kernel_rfl)) (fun _ _ _ h => h) (by rfl) ?_ ?_ ?_; rotate_left 2; (intro w'; go_simp; with_reducible rfl); (first | (simp only [Act.put, List.setIfInBounds_toArray, List.set_cons_zero, List.set_cons_succ, i64_w, i32_w]; rfl) | rfl)))
        refine run_nil ?_
        refine last_ (i := 9) (N := none) (bz 10 1023) rfl rfl (one_of HT_.out (by kernel_rfl)) (by decide) (fun K hK => ?_)
        have hs9 : w3.cell? ⟨b, 0, none⟩ = some (.slice Av xs.length cv) := (blk_cell BK3.out 0).trans rfl
        have hf9 := blk_frozen BK3.out 0
        refine skip_ (w1 := ?_) (by rfl) rfl ?_ ?_
        rotate_left
        · go_simp
          rfl
        refine hK.out _ _ ?_
        clear hK K
        refine done_ (done_of HT_.out (by kernel_rfl)) ?_
        clear hs9 hf9 BX3 BK3 HT_ HW_ hHeld
        generalize w3.setCell ⟨b, 0, none⟩ (.slice A3 n3 c3) = w4 at S4 ⊢
        go_wp2
        go_loopg [8] k (fun kq v8 w' => ∃ (x : Int) (ys : List (List Int)) (v' : Value), v8 = .int .i64 x ∧ Aside0 (spec_grLook.l0 kq l0 l1 x ys = some r) ∧ Aside0 (kq ≤ k) ∧ Aside0 (spec_grLook.St w base b (.slice Av xs.length cv) w' v' ys))
        case atStart => exact ⟨a2, xs ++ [q], _, rfl, HL, ⟨Nat.le_refl _⟩, S4⟩
        case round =>
          obtain ⟨x, ys, v', rfl, HA, HK1, HS4⟩ := hrel
          cases gk with
          | zero => exact absurd HA.out (by simp [spec_grLook.l0])
          | succ k1 =>
            have H := HA.out
            clear HA S4
            simp only [spec_grLook.l0] at H
            have hbr : base ≤ wr.heap.size := Nat.le_trans hbase HS4.out.below.size
            have hbl : b < wr.heap.size := (Array.getElem?_eq_some_iff.1 HS4.out.box).1
            by_cases c1_ : x < (l0.length : Int)
            · rw [if_pos c1_] at H
              have c1b : decide (x < (l0.length : Int)) = true := decide_eq_true c1_
              clear c1_
              replace H := Option.bind_eq_some_iff.mp H
              obtain ⟨j, hj, H⟩ := H
              have F0 := Aside0.mk (HS4.out.foot H0.out)
              have F1 := Aside0.mk (HS4.out.foot H1.out)
              have HJ := Aside0.mk hj
              clear hj
              cases j with
              | true =>
                rw [if_pos rfl] at H
                replace H := Option.bind_eq_some_iff.mp H
                obtain ⟨q2, hq2, H⟩ := H
                by_cases c2_ : q2.length < 17592186044416
                · rw [if_pos c2_] at H
                  replace H := Option.bind_eq_some_iff.mp H
                  obtain ⟨ys2, hy, H⟩ := H
                  obtain ⟨y2, hy2⟩ : ∃ y_ : List Int, y_ = q2 ++ [x] := ⟨_, rfl⟩
                  rw [← hy2] at hy
                  have NY := Aside0.mk hy2
                  have HQ2 := Aside0.mk hq2
                  have HN := Aside0.mk H
                  have L2 := Aside0.mk c2_
                  have HREC := Aside0.mk (fun (A6 : Option Addr) (c6 : Nat) (w6 : World) (hb : Below wr.heap.size wr w6) (ho : Kd.R (Kd.int .i64) 3 w6 wr.heap.size (fun k_ => wr.heap.size ≤ k_) (.slice A6 y2.length c6) y2) =>
                    ih k1 (by have := HK1.out; omega) A0 c0 l0 A6 c6 y2 (wrap64 (x + 1)) b v' ys ys2 w6 base (Kd.F_below F0.out hb) hc0 (Kd.R_F (Kd.R_mono ho (fun k_ hk => ⟨by omega, fun he => by have := Kd.N_lt HS4.out.row k_ he.symm; omega⟩))) (Kd.R_reads' ho).2.1 ⟨(HS4.out.later hbr hb).box, (HS4.out.later hbr hb).row, Below.refl _ _, fun _ _ _ => rfl, .inl rfl⟩ hbb (Nat.le_trans hbr hb.size) hy)
                  clear hq2 hy H c2_ hy2
                  go_wp2_with (first
                    | (go_at_call 145; refine (spec_grJoins.calls k1 A0 c0 l0 A1 c1 l1 x true _ (Kd.F_now F0.out) hc0 (Kd.F_now F1.out) hc1 HJ.out).mono ?_; rintro e w' ⟨rfl, ⟨nd, rfl⟩⟩)
                    | (go_at_call 143; refine (spec_l1Own.calls A1 c1 l1 q2 _ (Kd.F_now (Kd.F_drewN F1.out _)) hc1 HQ2.out).mono ?_; rintro e w5 ⟨v5, rfl, ho, hb⟩; have HO5 := Aside0.mk ho; have HB5 := Aside0.mk (below_then (pw_below_drewN (Below.refl wr.heap.size wr) _) (Nat.le_refl _) hb); clear ho hb)
                    | ((with_reducible refine gate_builtin (b := .append) (xs := #[.tmp 31, .tmp 33]) rfl ?_); at_builtin; refine Kd.R_append (Kd.int .i64) (w0 := wr) wr.heap.size rfl (.tmp 31) (.tmp 33) 75 3 (.int .i64 0) 8 rfl Tryd.underlying75 info3 rfl (by decide) (by omega) v5 q2 x [.int .i64 x] (fun k_ => (wr.heap.size ≤ k_)) (fun _ => False) rfl rfl ?aP (fun _ hk => hk.elim) ?aF ?aO ?aB ?aS ?aL ?_; (case aP => exact rfl); (case aB => exact HB5.out); (case aF => exact (fun k_ hk => Nat.le_trans HB5.out.size hk)); (case aO => exact (Kd.R_mono (Kd.R_bound HO5.out) (fun _ hk => hk.2.1))); (case aS => exact HB5.out.size); (case aL => have := L2.out; omega); intro v6 w6 ho hb hg hat; rw [← NY.out] at ho; have HO6 := Aside0.mk ho; have HB6 := Aside0.mk hb; clear ho hb hg hat; obtain ⟨A6, c6, rfl⟩ := Kd.R_slice HO6.out)
                    | (go_at_call 131; refine (HREC.out _ _ _ HB6.out HO6.out).mono ?_; rintro e w7 ⟨rfl, v7, s7⟩; have HS7 := Aside0.mk ((HS4.out.later hbr HB6.out).trans s7); clear s7))
                  go_roundg k1
                  case measure => have := HK1.out; omega
                  case rel => exact ⟨wrap64 (x + 1), ys2, v7, by first | rfl | (simp; done), HN, ⟨by have := HK1.out; omega⟩, HS7⟩
                · rw [if_neg c2_] at H; cases H
              | false =>
                rw [if_neg (by simp)] at H
                have HN := Aside0.mk H
                clear H
                go_wp2_with (go_at_call 145; refine (spec_grJoins.calls k1 A0 c0 l0 A1 c1 l1 x false _ (Kd.F_now F0.out) hc0 (Kd.F_now F1.out) hc1 HJ.out).mono ?_; rintro e w' ⟨rfl, ⟨nd, rfl⟩⟩)
                go_roundg k1
                case measure => have := HK1.out; omega
                case rel => exact ⟨wrap64 (x + 1), ys, v', by first | rfl | (simp; done), HN, ⟨by have := HK1.out; omega⟩, ⟨HS4.out.later hbr (pw_below_drewN (Below.refl _ _) _)⟩⟩
            · rw [if_neg c1_] at H
              have c1b : decide (x < (l0.length : Int)) = false := decide_eq_false c1_
              clear c1_
              obtain rfl := Option.some.inj H
              go_wp2
              first | go_end0 | ((try simp only [Exit.inBlock, Exit.then]); refine bodyPost_ret (results_none rfl _ _ _) rfl ?_)
              exact ⟨rfl, v', HS4.out⟩
      · rw [if_neg hx] at h; cases h

end Go.Proofs.YtjpfbkkikcpmhaaDoor.PFnExactAllApart
