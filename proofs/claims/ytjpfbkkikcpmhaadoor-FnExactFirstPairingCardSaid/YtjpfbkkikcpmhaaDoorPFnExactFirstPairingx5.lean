-- Of this session's own program wip/gen/gen.py (it drives the kit's print): contracts of the functions that the law reaches.
import Derived.Maps.OwnOps
import Derived.Maps.OwnSet
import Derived.Test.YtjpfbkkikcpmhaaDoorPFnExactFirstPairingx0
namespace Go.Proofs.YtjpfbkkikcpmhaaDoor.PFnExactFirstPairing
open Go.RowKit Go.Proofs.YtjpfbkkikcpmhaaDoorW.PrintWords Go.Proofs.YtjpfbkkikcpmhaaDoorW.PrintLast Go.Proofs.YtjpfbkkikcpmhaaDoorW.PrintMore Go.Proofs.YtjpfbkkikcpmhaaDoor.Base
attribute [local go_sem] max2_int min2_int max_two min_two max_three min_three max_four min_four   -- for this text's walks alone
set_option linter.unusedVariables false
set_option linter.unusedSimpArgs false

/-! ### impl_Party_table: function 61 -/
def impl_Party_table.l0 : Nat → List Int → List (S105) → Int → Int → Option (List Int)
 | 0, _, _, _, _ => none
 | k + 1, x3, x10, x11, x12 => if x12 < x11 then (if 0 ≤ x12 then (if x12 < (x10.length : Int) then (if 0 ≤ ((rd_T105 x10 x12).f0) then (if ((rd_T105 x10 x12).f0) < (x3.length : Int) then (if 0 ≤ ((rd_T105 x10 x12).f1) then ((some (x3.set (((rd_T105 x10 x12).f0) : Int).toNat (Go.bits .or .u16 (rd x3 ((rd_T105 x10 x12).f0)) (shl .u16 1 ((rd_T105 x10 x12).f1))) : List Int)).bind fun y191 => (if ((rd_T105 x10 x12).f1) < (x3.length : Int) then (impl_Party_table.l0 k (y191.set (((rd_T105 x10 x12).f1) : Int).toNat (Go.bits .or .u16 (rd y191 ((rd_T105 x10 x12).f1)) (shl .u16 1 ((rd_T105 x10 x12).f0)))) x10 x11 (wrap64 (x12 + 1))) else (none))) else (none)) else (none)) else (none)) else (none)) else (none)) else (some x3)
def impl_Party_table.f (k : Nat) (a0_0 : Int) (l0_1 : List (S105)) : Option (List Int) := if 0 ≤ a0_0 then (if (a0_0 : Int).toNat ≤ 140737488355328 then (impl_Party_table.l0 k (List.replicate (a0_0 : Int).toNat 0) l0_1 (l0_1.length : Int) 0) else (none)) else (none)
theorem impl_Party_table.mono_l : ∀ k, (∀ y0 y1 y2 y3, LeO (impl_Party_table.l0 k y0 y1 y2 y3) (impl_Party_table.l0 (k + 1) y0 y1 y2 y3))
 | 0 => fun _ _ _ _ r h => by simp [impl_Party_table.l0] at h
 | k + 1 => by
  have ih0 := impl_Party_table.mono_l k
  ·intro y0 y1 y2 y3
   unfold impl_Party_table.l0
   repeat' first
   | (with_reducible exact ih0 _ _ _ _)
   | (with_reducible exact LeO.refl _)
   | (with_reducible exact LeO.none _)
   | (with_reducible refine LeO.ite ?_ ?_)
   | (with_reducible refine LeO.bind ?_ (fun _ => ?_))
   | exact ih0 _ _ _ _
   | exact LeO.none _
   | refine LeO.ite ?_ ?_
   | refine LeO.bind ?_ (fun _ => ?_)
theorem impl_Party_table.mono : ∀ a0 a1 k, LeO (impl_Party_table.f k a0 a1) (impl_Party_table.f (k + 1) a0 a1) := by
 intro a0 a1 k
 have ih0 := impl_Party_table.mono_l k
 unfold impl_Party_table.f
 repeat' first
   | (with_reducible exact ih0 _ _ _ _)
   | (with_reducible exact LeO.refl _)
   | (with_reducible exact LeO.none _)
   | (with_reducible refine LeO.ite ?_ ?_)
   | (with_reducible refine LeO.bind ?_ (fun _ => ?_))
   | exact ih0 _ _ _ _
   | exact LeO.none _
   | refine LeO.ite ?_ ?_
   | refine LeO.bind ?_ (fun _ => ?_)
def impl_Party_table.T5 : Bool × List (List Nat × List Nat) := (true, [([], []), ([], []), ([1], [1]), ([0, 2], [0, 2]), ([3], [3]), ([], []), ([5], [5]), ([6], [6]), ([4, 7], [4, 7]), ([0, 2, 0, 1, 2, 3, 4, 5, 6, 7, 8], [0, 2]), ([9, 8, 0, 1, 2, 3, 4, 5, 6, 7, 8], [8, 9])])
def impl_Party_table.B5 : List Nat := [0, 0, 2, 7, 15, 0, 32, 96, 255, 511, 1023]
theorem impl_Party_table.tab5 : rtab .any (opsOf Tryd.f61 5) = impl_Party_table.T5 := by kernel_rfl
theorem impl_Party_table.bits5 : waitsOk impl_Party_table.T5.2 impl_Party_table.B5 = true := by kernel_rfl
def impl_Party_table.T6 : Bool × List (List Nat × List Nat) := (true, [([], []), ([], []), ([1], [1]), ([0, 2], [0, 2]), ([3], [3]), ([], []), ([5], [5]), ([6], [6]), ([4, 7], [4, 7]), ([0, 2, 0, 1, 2, 3, 4, 5, 6, 7, 8], [0, 2]), ([9, 8, 0, 1, 2, 3, 4, 5, 6, 7, 8], [8, 9])])
def impl_Party_table.B6 : List Nat := [0, 0, 2, 7, 15, 0, 32, 96, 255, 511, 1023]
theorem impl_Party_table.tab6 : rtab .any (opsOf Tryd.f61 6) = impl_Party_table.T6 := by kernel_rfl
theorem impl_Party_table.bits6 : waitsOk impl_Party_table.T6.2 impl_Party_table.B6 = true := by kernel_rfl
set_option maxHeartbeats 8000000 in
set_option maxRecDepth 100000 in
theorem impl_Party_table.calls (k : Nat) (a0_0 : Int) (A0_1 : Option Addr) (c0_1 : Nat) (l0_1 : List (S105)) (r : List Int) (w : World) (hr0_1 : Kd.C k105 w A0_1 l0_1.length l0_1) (hc0_1 : l0_1.length ≤ c0_1) (h : impl_Party_table.f k a0_0 l0_1 = some r) :
  Calls Tryd.prog 61 #[.agg #[.int .i64 a0_0, .slice A0_1 l0_1.length c0_1]] w fun e w' => ∃ v0_ : Value, e = .returned (v0_) ∧ Kd.R (Kd.int .u16) 97 w' w.heap.size (fun _ => True) v0_ r ∧ Below w.heap.size w w' := by
 have hu33 := Tryd.underlying33
 have hu105 := Tryd.underlying105
 have HR0_1 := Aside0.mk hr0_1
 have HC0_1 := Aside0.mk hc0_1
 clear hr0_1 hc0_1
 have HB := Aside0.mk (Below.refl w.heap.size w)
 have H : (if 0 ≤ a0_0 then (if (a0_0 : Int).toNat ≤ 140737488355328 then (impl_Party_table.l0 k (List.replicate (a0_0 : Int).toNat 0) l0_1 (l0_1.length : Int) 0) else (none)) else (none)) = some r := h
 clear h
 by_cases c2 : 0 ≤ a0_0
 ·rw [if_pos c2] at H
  have c2b0 := eq_true c2
  have c2b1 : decide (0 ≤ a0_0) = true := decide_eq_true c2
  clear c2
  by_cases c3 : (a0_0 : Int).toNat ≤ 140737488355328
  ·rw [if_pos c3] at H
   have c3b0 := eq_true c3
   have c3b1 : decide ((a0_0 : Int).toNat ≤ 140737488355328) = true := decide_eq_true c3
   clear c3
   obtain ⟨y185, hy185⟩ : ∃ y_ : List Int, y_ = (List.replicate (a0_0 : Int).toNat 0) := ⟨_, rfl⟩
   replace H : (impl_Party_table.l0 k y185 l0_1 (l0_1.length : Int) 0) = some r := by first | (rw [hy185]; with_reducible exact H) | (have H2_ := (Option.bind_some _ _).symm.trans H; rw [hy185]; with_reducible exact H2_) | (have H2_ := (Option.bind_some _ _).symm.trans H; with_reducible exact H2_) | with_reducible exact H | (rw [hy185]; exact H) | exact H
   have Ny185 := Aside0.mk hy185
   clear hy185
   have H' := Aside0.mk H
   clear H
   go_enter Tryd.func61, Tryd.ntmps61
   go_wp2_with (first | ((with_reducible refine gate_dst (N := 1) rfl ?_); refine bxE 1 #[.int .i64 a0_0, .slice A0_1 l0_1.length c0_1] 33 rfl ?_; intro gb184 hg w4 hbox hb; have BK184 := Aside0.mk (hbox); have GW184 := gS HB hg; have GE184 := gS HB hg; replace HB := hS HB hb; clear hb hbox hg; have hcz5_0 := cz BK184 0; have hcz5_1 := cz BK184 1; have hfz5_0 := fz BK184 0; have hfz5_1 := fz BK184 1) | ((with_reducible refine gate_dst (N := 8) rfl ?_); refine Kd.R_make (Kd.int .u16) _ 97 rfl (N := 8) rfl 81 _ _ rfl a0_0 rfl rfl Tryd.underlying81 (.int .u16 0) 2 info97 rfl (by decide) (by omega) 0 (ok := fun _ => True) (okp := fun _ => True) rfl (fun _ hk => hk) trivial (of_decide_eq_true (by first | (with_reducible assumption) | assumption)) (Nat.le_trans (Nat.mul_le_mul_right _ (of_decide_eq_true (by first | (with_reducible assumption) | assumption) : a0_0.toNat ≤ 140737488355328)) (by omega)) (Below.refl _ _) (Nat.le_refl _) ?_; intro v186 w6 ho7 hb hg_ hnew_; clear hg_ hnew_; (first | rw [← Ny185.out] at ho7 | (simp only [Int.reduceToNat] at ho7; rw [← Ny185.out] at ho7)); have HO187 := Aside0.mk (Kd.R_lower ho7 (below_size hB)); replace BK184 := bS BK184 hb; replace HB := hS HB hb; clear hb ho7; have hcz8_0 := cz BK184 0; have hcz8_1 := cz BK184 1; have hfz8_0 := fz BK184 0; have hfz8_1 := fz BK184 1))
   go_loopg [12] k (fun kq v12 w' => ∃ (x3_1 : List Int) (x12_1 : Int), v12 = .int .i64 x12_1 ∧ Aside0 (impl_Party_table.l0 kq x3_1 l0_1 (l0_1.length : Int) x12_1 = some r) ∧ Aside0 (kq ≤ k) ∧ Aside0 (Kd.R (Kd.int .u16) 97 w' w.heap.size (fun _ => True) v186 x3_1) ∧ Aside0 (w'.heap[gb184]? = some (.cells #[.int .i64 a0_0, (.slice A0_1 l0_1.length c0_1)] 33 (0, 0))) ∧ Aside0 (Below w.heap.size w w'))
   case atStart => exact ⟨(y185), (0), (by first | rfl | (simp; done) | (simp [*]; done)), H', ⟨Nat.le_refl _⟩, ⟨rU HO187⟩, ⟨bK⟩, ⟨hB⟩⟩
   case round =>
    clear H'
    try clear c2
    try clear c2b0
    try clear c2b1
    try clear p2
    try clear c3
    try clear c3b0
    try clear c3b1
    try clear c6
    try clear hcz5_0
    try clear hcz5_1
    try clear hcz8_0
    try clear hcz8_1
    try clear hfz5_0
    try clear hfz5_1
    try clear hfz8_0
    try clear hfz8_1
    obtain ⟨x3_1, x12_1, rfl, HA, HK1, HO_3, BK184, HB⟩ := hrel
    cases gk with
    | zero => exact absurd HA.out (by simp [impl_Party_table.l0])
    | succ k1 =>
     have H := HA.out
     clear HA
     simp only [impl_Party_table.l0] at H
     by_cases c9 : x12_1 < (l0_1.length : Int)
     ·rw [if_pos c9] at H
      have c9b0 : decide (x12_1 < (l0_1.length : Int)) = true := decide_eq_true c9
      clear c9
      by_cases c10 : 0 ≤ x12_1
      ·rw [if_pos c10] at H
       have c10b0 : decide (0 ≤ x12_1) = true := decide_eq_true c10
       clear c10
       by_cases c11 : x12_1 < (l0_1.length : Int)
       ·rw [if_pos c11] at H
        have c11b0 : decide (x12_1 < (l0_1.length : Int)) = true := decide_eq_true c11
        clear c11
        by_cases c12 : 0 ≤ ((rd_T105 l0_1 x12_1).f0)
        ·rw [if_pos c12] at H
         have c12b0 : decide (0 ≤ ((rd_T105 l0_1 x12_1).f0)) = true := decide_eq_true c12
         clear c12
         by_cases c13 : ((rd_T105 l0_1 x12_1).f0) < (x3_1.length : Int)
         ·rw [if_pos c13] at H
          have c13b0 : decide (((rd_T105 l0_1 x12_1).f0) < (x3_1.length : Int)) = true := decide_eq_true c13
          clear c13
          by_cases c14 : 0 ≤ ((rd_T105 l0_1 x12_1).f1)
          ·rw [if_pos c14] at H
           have c14b0 := eq_true c14
           have c14b1 : decide (0 ≤ ((rd_T105 l0_1 x12_1).f1)) = true := decide_eq_true c14
           clear c14
           obtain ⟨ji15, hji15⟩ : ∃ j_ : Int, (shl .u16 1 ((rd_T105 l0_1 x12_1).f1)) = j_ := ⟨_, rfl⟩
           replace H : ((some (x3_1.set (((rd_T105 l0_1 x12_1).f0) : Int).toNat (Go.bits .or .u16 (rd x3_1 ((rd_T105 l0_1 x12_1).f0)) (ji15)) : List Int)).bind fun y191 => (if ((rd_T105 l0_1 x12_1).f1) < (x3_1.length : Int) then (impl_Party_table.l0 k1 (y191.set (((rd_T105 l0_1 x12_1).f1) : Int).toNat (Go.bits .or .u16 (rd y191 ((rd_T105 l0_1 x12_1).f1)) (shl .u16 1 ((rd_T105 l0_1 x12_1).f0)))) l0_1 (l0_1.length : Int) (wrap64 (x12_1 + 1))) else (none))) = some r := by first | (rw [hji15] at H; exact H) | (simp only [hji15] at H ⊢; exact H)
           have hji15_ : (IntKind.u16.wrap (1 * 2 ^ min ((rd_T105 l0_1 x12_1).f1).toNat 16)) = ji15 := hji15
           have hji15z : ((rd_T105 l0_1 x12_1).f1) ≤ 16 → (IntKind.u16.wrap (1 * 2 ^ ((rd_T105 l0_1 x12_1).f1).toNat)) = ji15 := shl_small hji15
           have hji15u : (IntKind.u16.wrap (2 ^ min ((rd_T105 l0_1 x12_1).f1).toNat 16)) = ji15 := by have h_ := hji15_; rw [Int.one_mul] at h_; exact h_
           have hji15v : ((rd_T105 l0_1 x12_1).f1) ≤ 16 → (IntKind.u16.wrap (2 ^ ((rd_T105 l0_1 x12_1).f1).toNat)) = ji15 := fun hle_ => by have h_ := hji15z hle_; rw [Int.one_mul] at h_; exact h_
           obtain ⟨y191, hy191⟩ : ∃ y_ : List Int, y_ = (x3_1.set (((rd_T105 l0_1 x12_1).f0) : Int).toNat (Go.bits .or .u16 (rd x3_1 ((rd_T105 l0_1 x12_1).f0)) (ji15))) := ⟨_, rfl⟩
           replace H : (if ((rd_T105 l0_1 x12_1).f1) < (x3_1.length : Int) then (impl_Party_table.l0 k1 (y191.set (((rd_T105 l0_1 x12_1).f1) : Int).toNat (Go.bits .or .u16 (rd y191 ((rd_T105 l0_1 x12_1).f1)) (shl .u16 1 ((rd_T105 l0_1 x12_1).f0)))) l0_1 (l0_1.length : Int) (wrap64 (x12_1 + 1))) else (none)) = some r := by first | (rw [hy191]; with_reducible exact H) | (have H2_ := (Option.bind_some _ _).symm.trans H; rw [hy191]; with_reducible exact H2_) | (have H2_ := (Option.bind_some _ _).symm.trans H; with_reducible exact H2_) | with_reducible exact H | (rw [hy191]; exact H) | exact H
           have Ny191 := Aside0.mk hy191
           clear hy191
           by_cases c17 : ((rd_T105 l0_1 x12_1).f1) < (x3_1.length : Int)
           ·rw [if_pos c17] at H
            have c17b0 : decide (((rd_T105 l0_1 x12_1).f1) < (x3_1.length : Int)) = true := decide_eq_true c17
            clear c17
            have c18b0 := eq_true (of_decide_eq_true (by first | (with_reducible assumption) | assumption) : 0 ≤ ((rd_T105 l0_1 x12_1).f0))
            obtain ⟨ji19, hji19⟩ : ∃ j_ : Int, (shl .u16 1 ((rd_T105 l0_1 x12_1).f0)) = j_ := ⟨_, rfl⟩
            replace H : (impl_Party_table.l0 k1 (y191.set (((rd_T105 l0_1 x12_1).f1) : Int).toNat (Go.bits .or .u16 (rd y191 ((rd_T105 l0_1 x12_1).f1)) (ji19))) l0_1 (l0_1.length : Int) (wrap64 (x12_1 + 1))) = some r := by first | (rw [hji19] at H; exact H) | (simp only [hji19] at H ⊢; exact H)
            have hji19_ : (IntKind.u16.wrap (1 * 2 ^ min ((rd_T105 l0_1 x12_1).f0).toNat 16)) = ji19 := hji19
            have hji19z : ((rd_T105 l0_1 x12_1).f0) ≤ 16 → (IntKind.u16.wrap (1 * 2 ^ ((rd_T105 l0_1 x12_1).f0).toNat)) = ji19 := shl_small hji19
            have hji19u : (IntKind.u16.wrap (2 ^ min ((rd_T105 l0_1 x12_1).f0).toNat 16)) = ji19 := by have h_ := hji19_; rw [Int.one_mul] at h_; exact h_
            have hji19v : ((rd_T105 l0_1 x12_1).f0) ≤ 16 → (IntKind.u16.wrap (2 ^ ((rd_T105 l0_1 x12_1).f0).toNat)) = ji19 := fun hle_ => by have h_ := hji19z hle_; rw [Int.one_mul] at h_; exact h_
            obtain ⟨y193, hy193⟩ : ∃ y_ : List Int, y_ = (y191.set (((rd_T105 l0_1 x12_1).f1) : Int).toNat (Go.bits .or .u16 (rd y191 ((rd_T105 l0_1 x12_1).f1)) (ji19))) := ⟨_, rfl⟩
            replace H : (impl_Party_table.l0 k1 y193 l0_1 (l0_1.length : Int) (wrap64 (x12_1 + 1))) = some r := by first | (rw [hy193]; with_reducible exact H) | (have H2_ := (Option.bind_some _ _).symm.trans H; rw [hy193]; with_reducible exact H2_) | (have H2_ := (Option.bind_some _ _).symm.trans H; with_reducible exact H2_) | with_reducible exact H | (rw [hy193]; exact H) | exact H
            have Ny193 := Aside0.mk hy193
            clear hy193
            have H' := Aside0.mk H
            clear H
            have p188 : 0 ≤ (x12_1 : Int) := of_decide_eq_true (by first | (with_reducible assumption) | assumption)
            have q188 : x12_1 < (l0_1.length : Int) := of_decide_eq_true (by first | (with_reducible assumption) | assumption)
            obtain ⟨ad188, e188, hx188_0, hx188_1⟩ := at_T105 HR0_1.out x12_1 p188 q188
            cases e188
            replace hx188_0 := (HB.out.cell (World.block_lt_of_cell? w _ hx188_0)).trans hx188_0
            replace hx188_1 := (HB.out.cell (World.block_lt_of_cell? w _ hx188_1)).trans hx188_1
            replace p188 := eq_true p188
            replace q188 := eq_true q188
            try go_wp2_with (first | ((with_reducible refine gate_dst (N := 5) rfl ?_); refine bxE 5 #[.int .i64 0, .int .i64 0] 105 rfl ?_; intro gb189 hg w21 hbox hb; have BK189 := Aside0.mk (hbox); have GW189 := gS HB hg; have GE189 := gS HB hg; have NB184_189 := nL BK184 hg; have NB189_184 := nG BK184 hg; replace HO_3 := Aside0.mk (Kd.R_below (rU HO_3) hb); replace BK184 := bS BK184 hb; replace HB := hS HB hb; clear hb hbox hg; have hnb22 := NB189_184.out; have hnc22 := NB184_189.out; have hcz23_0 := cz BK189 0; have hcz23_1 := cz BK189 1; have hfz23_0 := fz BK189 0; have hfz23_1 := fz BK189 1))
            have n0_ : Aside0 (Kd.R (Kd.int .u16) 97 ((w21.setCell ⟨gb189, 0, none⟩ (.int .i64 ((rd_T105 l0_1 x12_1).f0))).setCell ⟨gb189, 1, none⟩ (.int .i64 ((rd_T105 l0_1 x12_1).f1))) w.heap.size (fun _ => True) v186 x3_1) := ⟨by (with_reducible repeat (first | apply Kd.R_alloc | apply Kd.R_drewN | apply Kd.R_drew)); exact Kd.R_mono (Kd.R_far (p := ⟨gb189, 1, none⟩) (Kd.R_far (p := ⟨gb189, 0, none⟩) (Kd.R_types HO_3.out BK189.out (by decide)) (fun _ hk => hk.2) (.int .i64 ((rd_T105 l0_1 x12_1).f0))) (fun _ hk => hk.2) (.int .i64 ((rd_T105 l0_1 x12_1).f1))) (fun _ hk => trivial)⟩
            have n1_ : Aside0 (((w21.setCell ⟨gb189, 0, none⟩ (.int .i64 ((rd_T105 l0_1 x12_1).f0))).setCell ⟨gb189, 1, none⟩ (.int .i64 ((rd_T105 l0_1 x12_1).f1))).heap[gb184]? = some (.cells #[.int .i64 a0_0, .slice (some ad188) l0_1.length c0_1] 33 (0, 0))) := ⟨by (with_reducible repeat (first | refine blk_drewN ?_ _ | refine blk_drew ?_ | refine blk_alloc ?_ _)); refine blk_far ?_ NB184_189.out _; (with_reducible repeat (first | refine blk_drewN ?_ _ | refine blk_drew ?_ | refine blk_alloc ?_ _)); refine blk_far ?_ NB184_189.out _; (with_reducible repeat (first | refine blk_drewN ?_ _ | refine blk_drew ?_ | refine blk_alloc ?_ _)); exact BK184.out⟩
            have n2_ : Aside0 (((w21.setCell ⟨gb189, 0, none⟩ (.int .i64 ((rd_T105 l0_1 x12_1).f0))).setCell ⟨gb189, 1, none⟩ (.int .i64 ((rd_T105 l0_1 x12_1).f1))).heap[gb189]? = some (.cells #[.int .i64 ((rd_T105 l0_1 x12_1).f0), .int .i64 ((rd_T105 l0_1 x12_1).f1)] 105 (0, 0))) := ⟨by (with_reducible repeat (first | refine blk_drewN ?_ _ | refine blk_drew ?_ | refine blk_alloc ?_ _)); refine blk_put (cs := #[.int .i64 ((rd_T105 l0_1 x12_1).f0), .int .i64 0]) ?_ 1 _ rfl; (with_reducible repeat (first | refine blk_drewN ?_ _ | refine blk_drew ?_ | refine blk_alloc ?_ _)); refine blk_put (cs := #[.int .i64 0, .int .i64 0]) ?_ 0 _ rfl; (with_reducible repeat (first | refine blk_drewN ?_ _ | refine blk_drew ?_ | refine blk_alloc ?_ _)); exact BK189.out⟩
            have n3_ : Aside0 (Below w.heap.size w ((w21.setCell ⟨gb189, 0, none⟩ (.int .i64 ((rd_T105 l0_1 x12_1).f0))).setCell ⟨gb189, 1, none⟩ (.int .i64 ((rd_T105 l0_1 x12_1).f1)))) := ⟨hB⟩
            (try clear HO_3)
            (try clear BK184)
            (try clear BK189)
            (try clear HB)
            generalize ((w21.setCell ⟨gb189, 0, none⟩ (.int .i64 ((rd_T105 l0_1 x12_1).f0))).setCell ⟨gb189, 1, none⟩ (.int .i64 ((rd_T105 l0_1 x12_1).f1))) = w24 at n0_ n1_ n2_ n3_ ⊢
            have HO_3 := n0_
            have BK184 := n1_
            have BK189 := n2_
            have HB := n3_
            clear n0_ n1_ n2_ n3_
            replace HO_3 := Aside0.mk (Kd.R_drew HO_3.out)
            replace BK184 := Aside0.mk (blk_drew BK184.out)
            replace BK189 := Aside0.mk (blk_drew BK189.out)
            replace HB := Aside0.mk (below_drew1 HB.out)
            obtain ⟨Ao26, co26, eo26⟩ := Kd.R_slice HO_3.out
            (first | subst eo26 | (injection eo26 with f1_ f2_ f3_; have f4_ := f1_.symm; have f5_ := f3_.symm; clear f1_ f2_ f3_; subst f4_; subst f5_))
            have p190 : 0 ≤ (((rd_T105 l0_1 x12_1).f0) : Int) := of_decide_eq_true (by first | (with_reducible assumption) | assumption)
            have q190 : ((rd_T105 l0_1 x12_1).f0) < (x3_1.length : Int) := of_decide_eq_true (by first | (with_reducible assumption) | assumption)
            obtain ⟨ad190, e190, hx190_0⟩ := Kd.at_int (Kd.R_reads' HO_3.out).2.2 ((rd_T105 l0_1 x12_1).f0) p190 q190
            cases e190
            replace p190 := eq_true p190
            replace q190 := eq_true q190
            have p16 : 0 ≤ (((rd_T105 l0_1 x12_1).f0) : Int) := of_decide_eq_true (by first | (with_reducible assumption) | assumption)
            have q16 : (((rd_T105 l0_1 x12_1).f0) : Int) < ((x3_1.length : Int) : Int) := of_decide_eq_true (by first | (with_reducible assumption) | assumption)
            obtain ⟨go16, co16, eo16, gb16, gl16, cl16, HG16⟩ := Kd.R_form HO_3.out (by omega)
            (first | cases eo16 | (injection eo16 with ea_ en_ ec_; (first | subst ea_ | (injection ea_ with ea_; subst ea_)); subst ec_; clear en_))
            have GB16 := Aside0.mk gb16
            have GG16 := Aside0.mk HG16
            clear gb16 gl16 HG16
            (first | simp only [add_plain] at hx190_0 | skip)
            obtain ⟨hx16_0, hf16_0⟩ := Kd.R_celln 0 HO_3.out (((rd_T105 l0_1 x12_1).f0) : Int) p16 q16
            replace p16 := eq_true p16
            replace q16 := eq_true q16
            have HP27 := Kd.R_putn HO_3.out (((rd_T105 l0_1 x12_1).f0) : Int) (Go.bits .or .u16 (rd x3_1 ((rd_T105 l0_1 x12_1).f0)) (ji15))
            rw [← Ny191.out] at HP27
            have HQ27 := Aside0.mk HP27
            clear HP27
            refine start_ (n := 11) (S := fun w' => w'.cell? ⟨gb189, 0, none⟩ = some (.int .i64 ((rd_T105 l0_1 x12_1).f0)) ∧ w'.cell? ⟨gb189, 1, none⟩ = some (.int .i64 ((rd_T105 l0_1 x12_1).f1)) ∧ w'.cell? ⟨go16, (((rd_T105 l0_1 x12_1).f0)).toNat, none⟩ = some (.int .u16 (rd x3_1 ((rd_T105 l0_1 x12_1).f0)))) (ds := [10]) (bz 11 0) (by kernel_rfl) rfl rfl ⟨(blk_cell BK189.out 0).trans rfl, (blk_cell BK189.out 1).trans rfl, hx190_0⟩ (fun hHeld => ?_); refine with_tabW impl_Party_table.tab5 impl_Party_table.bits5 (fun HT_ HW_ => ?_)
            generalize w24.drew = w25 at HO_3 BK184 BK189 HB GG16 HQ27 hf16_0 hx16_0 hx190_0 hHeld ⊢
            refine run_ [(0, 0, 1, some 16), (0, 1, 3, some 17), (0, 5, 35, some 21), (1, 2, 39, some 18), (0, 3, 47, some 19), (1, 4, 63, some 20), (1, 6, 127, some 22), (0, 7, 255, some 23), (0, 8, 511, some 24), (0, 9, 1023, some 25)] ?_
            repeat (first | (apply tag0; refine run_p (v := ?_) (a' := ?_) rfl rfl (any_of HT_.out (by kernel_rfl)) (fun _ _ _ h => h) (by rfl) ?_ ?_ ?_; rotate_left 2; (intro w'; go_simp; with_reducible rfl); (first | (simp only [Act.put, List.setIfInBounds_toArray, List.set_cons_zero, List.set_cons_succ, i64_w, i32_w]; rfl) | rfl)) | (apply tag1; refine run_t (v := ?_) (a' := ?_) rfl rfl (take_ofW HT_.out HW_.out (by kernel_rfl)) (fun _ _ _ h => h) (by rfl) ?_ hHeld ?_ ?_; rotate_left 2; (rintro w' ⟨s0, s1, s2⟩; go_simp; with_reducible rfl); (first | (simp only [Act.put, List.setIfInBounds_toArray, List.set_cons_zero, List.set_cons_succ, i64_w, i32_w]; rfl) | rfl)))
            refine run_nil ?_
            refine last_ (i := 10) (N := none) (bz 11 2047) rfl rfl (one_of HT_.out (by kernel_rfl)) (by decide) (fun K hK => ?_)
            refine skip_ (w1 := ?_) (by rfl) rfl ?_ ?_
            rotate_left
            ·go_simp
             rfl
            refine hK.out _ _ ?_
            clear hK K
            refine done_ (done_of HT_.out (by kernel_rfl)) ?_
            try go_wp2
            have n0_ : Aside0 (Kd.R (Kd.int .u16) 97 (w25.setCell ⟨go16, (((rd_T105 l0_1 x12_1).f0) : Int).toNat, none⟩ (.int .u16 (Go.bits .or .u16 (rd x3_1 ((rd_T105 l0_1 x12_1).f0)) (ji15)))) w.heap.size (fun _ => True) (.slice (some ⟨go16, 0, none⟩) x3_1.length co26) y191) := ⟨by (with_reducible repeat (first | apply Kd.R_alloc | apply Kd.R_drewN | apply Kd.R_drew)); exact HQ27.out⟩
            have n1_ : Aside0 ((w25.setCell ⟨go16, (((rd_T105 l0_1 x12_1).f0) : Int).toNat, none⟩ (.int .u16 (Go.bits .or .u16 (rd x3_1 ((rd_T105 l0_1 x12_1).f0)) (ji15)))).heap[gb184]? = some (.cells #[.int .i64 a0_0, .slice (some ad188) l0_1.length c0_1] 33 (0, 0))) := ⟨by (with_reducible repeat (first | refine blk_drewN ?_ _ | refine blk_drew ?_ | refine blk_alloc ?_ _)); refine blk_far ?_ (by have h_ := Kd.R_ne HO_3.out BK184.out (by decide); intro e_; exact h_ (by rw [e_]; rfl)) _; (with_reducible repeat (first | refine blk_drewN ?_ _ | refine blk_drew ?_ | refine blk_alloc ?_ _)); exact BK184.out⟩
            have n2_ : Aside0 ((w25.setCell ⟨go16, (((rd_T105 l0_1 x12_1).f0) : Int).toNat, none⟩ (.int .u16 (Go.bits .or .u16 (rd x3_1 ((rd_T105 l0_1 x12_1).f0)) (ji15)))).heap[gb189]? = some (.cells #[.int .i64 ((rd_T105 l0_1 x12_1).f0), .int .i64 ((rd_T105 l0_1 x12_1).f1)] 105 (0, 0))) := ⟨by (with_reducible repeat (first | refine blk_drewN ?_ _ | refine blk_drew ?_ | refine blk_alloc ?_ _)); refine blk_far ?_ (by have h_ := Kd.R_ne HO_3.out BK189.out (by decide); intro e_; exact h_ (by rw [e_]; rfl)) _; (with_reducible repeat (first | refine blk_drewN ?_ _ | refine blk_drew ?_ | refine blk_alloc ?_ _)); exact BK189.out⟩
            have n3_ : Aside0 (Below w.heap.size w (w25.setCell ⟨go16, (((rd_T105 l0_1 x12_1).f0) : Int).toNat, none⟩ (.int .u16 (Go.bits .or .u16 (rd x3_1 ((rd_T105 l0_1 x12_1).f0)) (ji15))))) := ⟨by repeat (first | (with_reducible first | exact HB.out | apply below_alloc | apply pw_below_drewN | apply below_drew1 | refine below_set ?_ GB16.out | refine below_set ?_ GE184.out | refine below_set ?_ GE189.out) | exact HB.out)⟩
            (try clear HO_3)
            (try clear BK184)
            (try clear BK189)
            (try clear HB)
            generalize (w25.setCell ⟨go16, (((rd_T105 l0_1 x12_1).f0) : Int).toNat, none⟩ (.int .u16 (Go.bits .or .u16 (rd x3_1 ((rd_T105 l0_1 x12_1).f0)) (ji15)))) = w28 at n0_ n1_ n2_ n3_ ⊢
            have HO_3 := n0_
            have BK184 := n1_
            have BK189 := n2_
            have HB := n3_
            clear n0_ n1_ n2_ n3_
            replace HO_3 := Aside0.mk (Kd.R_drew HO_3.out)
            replace BK184 := Aside0.mk (blk_drew BK184.out)
            replace BK189 := Aside0.mk (blk_drew BK189.out)
            replace HB := Aside0.mk (below_drew1 HB.out)
            have p192 : 0 ≤ (((rd_T105 l0_1 x12_1).f1) : Int) := of_decide_eq_true (by first | (with_reducible assumption) | assumption)
            have q192 : ((rd_T105 l0_1 x12_1).f1) < (y191.length : Int) := (by have h_ : (((rd_T105 l0_1 x12_1).f1) : Int) < ((x3_1.length : Int) : Int) := of_decide_eq_true (by first | (with_reducible assumption) | assumption); first | (have e_ := (Kd.R_reads' HO_3.out).1; omega) | simpa only [Ny191.out, List.length_set] using h_)
            have ql192 : ((((rd_T105 l0_1 x12_1).f1) : Int) < ((x3_1.length : Int) : Int)) = True := eq_true (of_decide_eq_true (by first | (with_reducible assumption) | assumption))
            obtain ⟨ad192, e192, hx192_0⟩ := Kd.at_int (Kd.R_reads' HO_3.out).2.2 ((rd_T105 l0_1 x12_1).f1) p192 q192
            obtain rfl : (⟨go16, 0, none⟩ : Addr) = ad192 := (by injection e192)
            (first | simp only [add_plain] at hx192_0 | simp only [add_at] at hx192_0 | simp only [Addr.add, Nat.zero_add] at hx192_0 | skip)
            replace p192 := eq_true p192
            replace q192 := eq_true q192
            have p20 : 0 ≤ (((rd_T105 l0_1 x12_1).f1) : Int) := of_decide_eq_true (by first | (with_reducible assumption) | assumption)
            have q20 : (((rd_T105 l0_1 x12_1).f1) : Int) < ((x3_1.length : Int) : Int) := of_decide_eq_true (by first | (with_reducible assumption) | assumption)
            obtain ⟨hx20_0, hf20_0⟩ := Kd.R_celln 0 HO_3.out (((rd_T105 l0_1 x12_1).f1) : Int) p20 q20
            replace p20 := eq_true p20
            replace q20 := eq_true q20
            have HP30 := Kd.R_putn HO_3.out (((rd_T105 l0_1 x12_1).f1) : Int) (Go.bits .or .u16 (rd y191 ((rd_T105 l0_1 x12_1).f1)) (ji19))
            rw [← Ny193.out] at HP30
            have HQ30 := Aside0.mk HP30
            clear HP30
            refine start_ (n := 11) (S := fun w' => w'.cell? ⟨gb189, 0, none⟩ = some (.int .i64 ((rd_T105 l0_1 x12_1).f0)) ∧ w'.cell? ⟨gb189, 1, none⟩ = some (.int .i64 ((rd_T105 l0_1 x12_1).f1)) ∧ w'.cell? ⟨go16, (((rd_T105 l0_1 x12_1).f1)).toNat, none⟩ = some (.int .u16 (rd y191 ((rd_T105 l0_1 x12_1).f1)))) (ds := [10]) (bz 11 0) (by kernel_rfl) rfl rfl ⟨(blk_cell BK189.out 0).trans rfl, (blk_cell BK189.out 1).trans rfl, hx192_0⟩ (fun hHeld => ?_); refine with_tabW impl_Party_table.tab6 impl_Party_table.bits6 (fun HT_ HW_ => ?_)
            generalize w28.drew = w29 at HO_3 BK184 BK189 HB HQ27 HQ30 hf20_0 hx192_0 hx20_0 hHeld ⊢
            refine run_ [(0, 0, 1, some 26), (0, 1, 3, some 27), (0, 5, 35, some 31), (1, 2, 39, some 28), (0, 3, 47, some 29), (1, 4, 63, some 30), (1, 6, 127, some 32), (0, 7, 255, some 33), (0, 8, 511, some 34), (0, 9, 1023, some 35)] ?_
            repeat (first | (apply tag0; refine run_p (v := ?_) (a' := ?_) rfl rfl (any_of HT_.out (by kernel_rfl)) (fun _ _ _ h => h) (by rfl) ?_ ?_ ?_; rotate_left 2; (intro w'; go_simp; with_reducible rfl); (first | (simp only [Act.put, List.setIfInBounds_toArray, List.set_cons_zero, List.set_cons_succ, i64_w, i32_w]; rfl) | rfl)) | (apply tag1; refine run_t (v := ?_) (a' := ?_) rfl rfl (take_ofW HT_.out HW_.out (by kernel_rfl)) (fun _ _ _ h => h) (by rfl) ?_ hHeld ?_ ?_; rotate_left 2; (rintro w' ⟨s0, s1, s2⟩; go_simp; with_reducible rfl); (first | (simp only [Act.put, List.setIfInBounds_toArray, List.set_cons_zero, List.set_cons_succ, i64_w, i32_w]; rfl) | rfl)))
            refine run_nil ?_
            refine last_ (i := 10) (N := none) (bz 11 2047) rfl rfl (one_of HT_.out (by kernel_rfl)) (by decide) (fun K hK => ?_)
            refine skip_ (w1 := ?_) (by rfl) rfl ?_ ?_
            rotate_left
            ·go_simp
             rfl
            refine hK.out _ _ ?_
            clear hK K
            refine done_ (done_of HT_.out (by kernel_rfl)) ?_
            try go_wp2
            go_roundg k1
            case measure => have := HK1.out; omega
            case rel => exact ⟨(y193), (wrap64 (x12_1 + 1)), (by first | rfl | (simp; done) | (simp [*]; done)), H', ⟨by have := HK1.out; omega⟩, ⟨by (with_reducible repeat (first | apply Kd.R_alloc | apply Kd.R_drewN | apply Kd.R_drew)); exact HQ30.out⟩, ⟨by (with_reducible repeat (first | refine blk_drewN ?_ _ | refine blk_drew ?_ | refine blk_alloc ?_ _)); refine blk_far ?_ (by have h_ := Kd.R_ne HO_3.out BK184.out (by decide); intro e_; exact h_ (by rw [e_]; rfl)) _; (with_reducible repeat (first | refine blk_drewN ?_ _ | refine blk_drew ?_ | refine blk_alloc ?_ _)); exact BK184.out⟩, ⟨by repeat (first | (with_reducible first | exact HB.out | apply below_alloc | apply pw_below_drewN | apply below_drew1 | refine below_set ?_ GB16.out | refine below_set ?_ GE184.out | refine below_set ?_ GE189.out) | exact HB.out)⟩⟩
           ·rw [if_neg c17] at H
            exact absurd H (by simp)
          ·rw [if_neg c14] at H
           exact absurd H (by simp)
         ·rw [if_neg c13] at H
          exact absurd H (by simp)
        ·rw [if_neg c12] at H
         exact absurd H (by simp)
       ·rw [if_neg c11] at H
        exact absurd H (by simp)
      ·rw [if_neg c10] at H
       exact absurd H (by simp)
     ·rw [if_neg c9] at H
      have c9b0 : decide (x12_1 < (l0_1.length : Int)) = false := decide_eq_false c9
      clear c9
      obtain rfl := Option.some.inj H
      go_wp2
      go_ret
      exact ⟨_, by first | rfl | (simp [errW_none, errW_some] <;> rfl) | (simp [*, errW_none, errW_some] <;> rfl), rU HO_3, hB⟩
  ·rw [if_neg c3] at H
   exact absurd H (by simp)
 ·rw [if_neg c2] at H
  exact absurd H (by simp)

/-! ### impl_table_all: function 79 -/
def impl_table_all.f (l0 : List Int) : Option (Int) := some (IntKind.u16.wrap ((shl .u16 1 (l0.length : Int)) - 1))
set_option maxHeartbeats 8000000 in
set_option maxRecDepth 100000 in
theorem impl_table_all.calls (A0 : Option Addr) (c0 : Nat) (l0 : List Int) (r : Int) (w : World) (hr0 : Kd.C (Kd.int .u16) w A0 l0.length l0) (hc0 : l0.length ≤ c0) (h : impl_table_all.f l0 = some r) :
  Calls Tryd.prog 79 #[.slice A0 l0.length c0] w fun e w' => e = .returned (.int .u16 r) ∧ Drawn0 w w' := by
 have HR0 := Aside0.mk hr0
 have HC0 := Aside0.mk hc0
 clear hr0 hc0
 have H : (some (IntKind.u16.wrap ((shl .u16 1 (l0.length : Int)) - 1))) = some r := h
 clear h
 obtain ⟨ji2, hji2⟩ : ∃ j_ : Int, (shl .u16 1 (l0.length : Int)) = j_ := ⟨_, rfl⟩
 replace H : (some (IntKind.u16.wrap ((ji2) - 1))) = some r := by first | (rw [hji2] at H; exact H) | (simp only [hji2] at H ⊢; exact H)
 have hji2_ : (IntKind.u16.wrap (1 * 2 ^ min (l0.length : Int).toNat 16)) = ji2 := hji2
 have hji2z : (l0.length : Int) ≤ 16 → (IntKind.u16.wrap (1 * 2 ^ (l0.length : Int).toNat)) = ji2 := shl_small hji2
 have hji2p : (IntKind.u16.wrap (1 * 2 ^ min l0.length 16)) = ji2 := hji2_
 have hji2q : (l0.length : Int) ≤ 16 → (IntKind.u16.wrap (1 * 2 ^ l0.length)) = ji2 := hji2z
 have hji2r : (IntKind.u16.wrap (2 ^ min l0.length 16)) = ji2 := by have h_ := hji2p; rw [Int.one_mul] at h_; exact h_
 have hji2s : (l0.length : Int) ≤ 16 → (IntKind.u16.wrap (2 ^ l0.length)) = ji2 := fun hle_ => by have h_ := hji2q hle_; rw [Int.one_mul] at h_; exact h_
 have hji2u : (IntKind.u16.wrap (2 ^ min (l0.length : Int).toNat 16)) = ji2 := by have h_ := hji2_; rw [Int.one_mul] at h_; exact h_
 have hji2v : (l0.length : Int) ≤ 16 → (IntKind.u16.wrap (2 ^ (l0.length : Int).toNat)) = ji2 := fun hle_ => by have h_ := hji2z hle_; rw [Int.one_mul] at h_; exact h_
 obtain rfl := Option.some.inj H
 go_enter Tryd.func79, Tryd.ntmps79
 go_wp2
 go_ret
 exact ⟨by first | rfl | (simp; done) | (simp only [← hji2] <;> (first | rfl | simp)) | (simp [*]; done), by repeat (first | exact Drawn0.refl _ | apply Drawn0.step)⟩

/-! ### bits_TrailingZeros16: function 121 (a text of this session's own) -/
def bits_TrailingZeros16.f (a0 : Int) : Option Int := if 0 ≤ a0 ∧ a0 < 65536 then some (ctz16 a0) else none
theorem bits_TrailingZeros16.calls (a0 : Int) (r : Int) (w : World) (h : bits_TrailingZeros16.f a0 = some r) (hG : GTab 0 w := by first | exact Aside0.out ‹Aside0 (GTab _ _)› | exact GTab.up (Aside0.out ‹Aside0 (GTab _ _)›) (by repeat (first | (with_reducible first | exact Below.refl _ _ | exact Aside0.out ‹Aside0 (Below _ _ _)› | apply below_alloc | apply pw_below_drewN | apply below_drew1 | refine below_set ?_ (Aside0.out (by assumption))) | exact Aside0.out ‹Aside0 (Below _ _ _)›))) :
    Calls Tryd.prog 121 #[.int .u16 a0] w fun e w' => e = .returned (.int .i64 r) ∧ Drawn0 w w' := by
  unfold bits_TrailingZeros16.f at h
  by_cases hx : 0 ≤ a0 ∧ a0 < 65536
  · rw [if_pos hx] at h
    obtain rfl := Option.some.inj h
    clear h
    obtain ⟨x, rfl⟩ := Int.eq_ofNat_of_zero_le hx.1
    by_cases h0 : x = 0
    · subst h0
      clear hG hx
      go_enter Tryd.func121, Tryd.ntmps121
      go_wp2
      go_ret
      exact ⟨rfl, ⟨0, rfl⟩⟩
    · obtain ⟨idx, key, hi, htab, hk⟩ := tz16_key x (by omega) h0
      have hk1 : ((Go.Lib.ctz 16 x : Nat) : Int) ≤ 15 := by omega
      have hk2 : (0 : Int) ≤ ((Go.Lib.ctz 16 x : Nat) : Int) := by omega
      clear hk
      have hcell := hG idx hi
      rw [htab] at hcell
      have hx0 : ((x : Int) == 0) = false := by simp; omega
      have h1 : (0 : Int) ≤ (idx : Int) := by omega
      have h2 : (idx : Int) < 32 := by omega
      have HC : Aside0 (ctz16 (x : Int) = ((Go.Lib.ctz 16 x : Nat) : Int)) := ⟨by simp [ctz16]⟩
      clear hG htab h0 hx
      go_enter Tryd.func121, Tryd.ntmps121
      go_wp2
      go_ret
      exact ⟨by rw [HC.out]; rfl, ⟨0, rfl⟩⟩
  · rw [if_neg hx] at h; cases h

/-! ### impl_listed: function 78 -/
def impl_listed.l0 : Nat → Int → List Int → Option (List Int)
 | 0, _, _ => none
 | k + 1, x0, x3 => if x0 > 0 then ((bits_TrailingZeros16.f x0).bind fun t197 => (if x3.length < 17592186044416 then (impl_listed.l0 k (Go.bits .and .u16 x0 (IntKind.u16.wrap (x0 - 1))) (x3 ++ [t197])) else (none))) else (some x3)
def impl_listed.f (k : Nat) (a0 : Int) : Option (List Int) := impl_listed.l0 k a0 (([] : List Int))
theorem impl_listed.mono_l : ∀ k, (∀ y0 y1, LeO (impl_listed.l0 k y0 y1) (impl_listed.l0 (k + 1) y0 y1))
 | 0 => fun _ _ r h => by simp [impl_listed.l0] at h
 | k + 1 => by
  have ih0 := impl_listed.mono_l k
  ·intro y0 y1
   unfold impl_listed.l0
   repeat' first
   | (with_reducible exact ih0 _ _)
   | (with_reducible exact LeO.refl _)
   | (with_reducible exact LeO.none _)
   | (with_reducible refine LeO.ite ?_ ?_)
   | (with_reducible refine LeO.bind ?_ (fun _ => ?_))
   | exact ih0 _ _
   | exact LeO.none _
   | refine LeO.ite ?_ ?_
   | refine LeO.bind ?_ (fun _ => ?_)
theorem impl_listed.mono : ∀ a0 k, LeO (impl_listed.f k a0) (impl_listed.f (k + 1) a0) := by
 intro a0 k
 have ih0 := impl_listed.mono_l k
 unfold impl_listed.f
 repeat' first
   | (with_reducible exact ih0 _ _)
   | (with_reducible exact LeO.refl _)
   | (with_reducible exact LeO.none _)
   | (with_reducible refine LeO.ite ?_ ?_)
   | (with_reducible refine LeO.bind ?_ (fun _ => ?_))
   | exact ih0 _ _
   | exact LeO.none _
   | refine LeO.ite ?_ ?_
   | refine LeO.bind ?_ (fun _ => ?_)
set_option maxHeartbeats 8000000 in
set_option maxRecDepth 100000 in
theorem impl_listed.calls (k : Nat) (a0 : Int) (r : List Int) (w : World) (h : impl_listed.f k a0 = some r) (hG : GTab 0 w := by first | exact Aside0.out ‹Aside0 (GTab _ _)› | exact GTab.up (Aside0.out ‹Aside0 (GTab _ _)›) (by repeat (first | (with_reducible first | exact Below.refl _ _ | exact Aside0.out ‹Aside0 (Below _ _ _)› | apply below_alloc | apply pw_below_drewN | apply below_drew1 | refine below_set ?_ (Aside0.out (by assumption))) | exact Aside0.out ‹Aside0 (Below _ _ _)›))) :
  Calls Tryd.prog 78 #[.int .u16 a0] w fun e w' => ∃ v0_ : Value, e = .returned (v0_) ∧ Kd.R (Kd.int .i64) 3 w' w.heap.size (fun _ => True) v0_ r ∧ Below w.heap.size w w' := by
 have HG := Aside0.mk (p := GTab _ _) hG
 clear hG
 have HB := Aside0.mk (Below.refl w.heap.size w)
 have H : (impl_listed.l0 k a0 (([] : List Int))) = some r := h
 clear h
 obtain ⟨y194, hy194⟩ : ∃ y_ : List Int, y_ = (([] : List Int)) := ⟨_, rfl⟩
 replace H : (impl_listed.l0 k a0 y194) = some r := by first | (rw [hy194]; with_reducible exact H) | (have H2_ := (Option.bind_some _ _).symm.trans H; rw [hy194]; with_reducible exact H2_) | (have H2_ := (Option.bind_some _ _).symm.trans H; with_reducible exact H2_) | with_reducible exact H | (rw [hy194]; exact H) | exact H
 have Ny194 := Aside0.mk hy194
 clear hy194
 have H' := Aside0.mk H
 clear H
 go_enter Tryd.func78, Tryd.ntmps78
 go_wp2_with (first | ((with_reducible refine gate_dst (N := 4) rfl ?_); refine Kd.R_lit (Kd.int .i64) _ 3 ?hg (N := 4) ?hd (xs := ([] : List Int)) (inner := []) (ok := fun _ => True) (okp := fun _ => True) ?hr ?hp (fun _ hk => hk) trivial (Below.refl _ _) (Nat.le_refl _) (by simp) ?_; (case hd => rfl); (case hg => rfl); (case hr => first | (go_simp; done) | (go_simp; rfl)); (case hp => exact (Reps.none _ _)); intro v195 w2 ho3 hb hg_ hnew_; clear hg_ hnew_; (first | rw [← Ny194.out] at ho3 | (simp only [Int.reduceToNat] at ho3; rw [← Ny194.out] at ho3)); have HO196 := Aside0.mk (Kd.R_lower ho3 (below_size hB)); replace HB := hS HB hb; clear hb ho3))
 go_loopg [0, 3] k (fun kq v0 v3 w' => ∃ (x0_1 : Int) (x3_1 : List Int), v0 = .int .u16 x0_1 ∧ Aside0 (impl_listed.l0 kq x0_1 x3_1 = some r) ∧ Aside0 (kq ≤ k) ∧ Aside0 (Kd.R (Kd.int .i64) 3 w' w.heap.size (fun _ => True) v3 x3_1) ∧ Aside0 (Below w.heap.size w w'))
 case atStart => exact ⟨(a0), (y194), (by first | rfl | (simp; done) | (simp [*]; done)), H', ⟨Nat.le_refl _⟩, ⟨rU HO196⟩, ⟨hB⟩⟩
 case round =>
  clear H'
  try clear p2
  obtain ⟨x0_1, x3_1, rfl, HA, HK1, HO_3, HB⟩ := hrel
  cases gk with
  | zero => exact absurd HA.out (by simp [impl_listed.l0])
  | succ k1 =>
   have H := HA.out
   clear HA
   simp only [impl_listed.l0] at H
   by_cases c4 : x0_1 > 0
   ·rw [if_pos c4] at H
    have c4b0 : decide (0 < x0_1) = true := decide_eq_true c4
    clear c4
    replace H := Option.bind_eq_some_iff.mp H
    obtain ⟨t197, A50, H⟩ := H
    try dsimp only at H
    have A5 := Aside0.mk A50
    clear A50
    by_cases c6 : x3_1.length < 17592186044416
    ·rw [if_pos c6] at H
     have LMc6 := Aside0.mk c6
     clear c6
     obtain ⟨y198, hy198⟩ : ∃ y_ : List Int, y_ = (x3_1 ++ [t197]) := ⟨_, rfl⟩
     replace H : (impl_listed.l0 k1 (Go.bits .and .u16 x0_1 (IntKind.u16.wrap (x0_1 - 1))) y198) = some r := by first | (rw [hy198]; with_reducible exact H) | (have H2_ := (Option.bind_some _ _).symm.trans H; rw [hy198]; with_reducible exact H2_) | (have H2_ := (Option.bind_some _ _).symm.trans H; with_reducible exact H2_) | with_reducible exact H | (rw [hy198]; exact H) | exact H
     have Ny198 := Aside0.mk hy198
     clear hy198
     have H' := Aside0.mk H
     clear H
     go_wp2_with (first | ((with_reducible refine gate_callee (f := 121) rfl ?_); refine goC (N := some 13) Tryd.func121 #[.int .u16 x0_1] rfl ?_; (with_reducible refine (bits_TrailingZeros16.calls x0_1 t197 _ A5.out).mono ?_); rintro e w' ⟨rfl, ⟨nd, rfl⟩⟩; refine ⟨_, rfl, ?_⟩) | ((with_reducible refine gate_builtin (b := .append) (xs := #[.tmp 11, .tmp 14]) rfl ?_); at_builtin; refine Kd.R_append (Kd.int .i64) (w0 := w) w.heap.size rfl (.tmp 11) (.tmp 14) 75 3 (.int .i64 0) 8 rfl Tryd.underlying75 info3 rfl (by decide) (by omega) u3 x3_1 t197 [.int .i64 t197] (fun _ => True) (fun _ => False) rfl rfl ?aP (fun _ hk => hk.elim) ?aF ?aO ?aB ?aS ?aL ?_; (case aP => exact rfl); (case aB => exact hB); (case aF => exact (fun _ _ => trivial)); (case aO => exact (rU HO_3)); (case aS => exact (below_size hB)); (case aL => have := LMc6.out; omega); intro v199 w7 ho hb hg hat; rw [← Ny198.out] at ho; have HO200 := Aside0.mk (ho); replace HB := Aside0.mk (hb); clear HO_3; clear ho hb hg hat))
     go_roundg k1
     case measure => have := HK1.out; omega
     case rel => exact ⟨(Go.bits .and .u16 x0_1 (IntKind.u16.wrap (x0_1 - 1))), (y198), (by first | rfl | (simp; done) | (simp [*]; done)), H', ⟨by have := HK1.out; omega⟩, ⟨rU HO200⟩, ⟨hB⟩⟩
    ·rw [if_neg c6] at H
     exact absurd H (by simp)
   ·rw [if_neg c4] at H
    have c4b0 : decide (0 < x0_1) = false := decide_eq_false c4
    clear c4
    obtain rfl := Option.some.inj H
    go_wp2
    go_ret
    exact ⟨_, by first | rfl | (simp [errW_none, errW_some] <;> rfl) | (simp [*, errW_none, errW_some] <;> rfl), rU HO_3, hB⟩

/-! ### impl_matcher_most: function 123 (a text of this session's own) -/
-- WANTS Derived.Maps.OwnSet
-- WANTS Derived.Maps.OwnOps

def impl_matcher_most.T12 : Bool × List (List Nat × List Nat) := (true, [([], []), ([], []), ([], []), ([], []), ([3], [3]), ([2, 4], [2, 4]), ([1, 5], [1, 5]), ([6], [6]), ([0, 7], [0, 7]), ([8, 6, 0, 1, 2, 3, 4, 5, 6, 7, 8], [0, 8])])
def impl_matcher_most.B12 : List Nat := [0, 0, 0, 0, 8, 28, 62, 126, 255, 511]
theorem impl_matcher_most.tab12 : rtab .any (opsOf Tryd.f123 12) = impl_matcher_most.T12 := by kernel_rfl
theorem impl_matcher_most.bits12 : waitsOk impl_matcher_most.T12.2 impl_matcher_most.B12 = true := by kernel_rfl
mutual
/-- The round over those whom the least person can be paired with. -/
def impl_matcher_most.l0 : Nat → List Int → Int → List Int → Int → Int → Option Int
 | 0, _, _, _, _, _ => none
 | k + 1, t, lf, z, i, b => if i < (z.length : Int) then (if 0 ≤ i then (if 0 ≤ rd z i then ((impl_matcher_most.f k t (Go.bits .andNot .u16 lf (shl .u16 1 (rd z i)))).bind fun c => impl_matcher_most.l0 k t lf z (wrap64 (i + 1)) (max b (wrap64 (1 + c)))) else none) else none) else (if wrap64 b = b then some b else none)
/-- The greatest number of pairs of people of a set. -/
def impl_matcher_most.f : Nat → List Int → Int → Option Int
 | 0, _, _ => none
 | k + 1, t, s => if 0 ≤ s ∧ s < 65536 then (if s = 0 then some 0 else ((impl_listed.f k s).bind fun q => if 0 < (q.length : Int) then (if 0 ≤ rd q 0 then (if rd q 0 < (t.length : Int) then ((impl_matcher_most.f k t (Go.bits .andNot .u16 s (shl .u16 1 (rd q 0)))).bind fun b => ((impl_listed.f k (Go.bits .and .u16 (rd t (rd q 0)) (Go.bits .andNot .u16 s (shl .u16 1 (rd q 0))))).bind fun z => impl_matcher_most.l0 k t (Go.bits .andNot .u16 s (shl .u16 1 (rd q 0))) z 0 b)) else none) else none) else none)) else none
end
theorem impl_matcher_most.mono_l : ∀ k, (∀ y0 y1 y2 y3 y4, LeO (impl_matcher_most.l0 k y0 y1 y2 y3 y4) (impl_matcher_most.l0 (k + 1) y0 y1 y2 y3 y4)) ∧ (∀ y0 y1, LeO (impl_matcher_most.f k y0 y1) (impl_matcher_most.f (k + 1) y0 y1))
 | 0 => ⟨fun _ _ _ _ _ r h => by simp [impl_matcher_most.l0] at h, fun _ _ r h => by simp [impl_matcher_most.f] at h⟩
 | k + 1 => by
  obtain ⟨ih0, ih1⟩ := impl_matcher_most.mono_l k
  refine ⟨?_, ?_⟩
  · intro y0 y1 y2 y3 y4
    unfold impl_matcher_most.l0
    repeat' first
      | (with_reducible exact ih0 _ _ _ _ _)
      | (with_reducible exact ih1 _ _)
      | (with_reducible exact LeO.refl _)
      | (with_reducible exact LeO.none _)
      | (with_reducible refine LeO.ite ?_ ?_)
      | (with_reducible refine LeO.bind ?_ (fun _ => ?_))
  · intro y0 y1
    unfold impl_matcher_most.f
    repeat' first
      | (with_reducible exact ih0 _ _ _ _ _)
      | (with_reducible exact ih1 _ _)
      | (with_reducible exact impl_listed.mono _ _)
      | (with_reducible exact LeO.refl _)
      | (with_reducible exact LeO.none _)
      | (with_reducible refine LeO.ite ?_ ?_)
      | (with_reducible refine LeO.bind ?_ (fun _ => ?_))
theorem impl_matcher_most.up {t : List Int} {s r : Int} (k : Nat) (h : impl_matcher_most.f k t s = some r) : ∀ d, impl_matcher_most.f (k + d) t s = some r
 | 0 => h
 | d + 1 => (impl_matcher_most.mono_l (k + d)).2 t s r (impl_matcher_most.up k h d)
theorem impl_matcher_most.one {t : List Int} {s r r' : Int} {k k' : Nat} (h : impl_matcher_most.f k t s = some r) (h' : impl_matcher_most.f k' t s = some r') : r = r' := by
  have h1 := impl_matcher_most.up k h k'
  have h2 := impl_matcher_most.up k' h' k
  rw [Nat.add_comm] at h2
  exact Option.some.inj (h1.symm.trans h2)
theorem impl_matcher_most.law : Go.Maps.Keyed Tryd.prog 97 := Go.Maps.int_keyed Tryd.underlying97
theorem impl_matcher_most.zero (w : World) : (zeroValue 3).run Tryd.prog w = .ok (.int .i64 0) w := by kernel_rfl
theorem impl_matcher_most.mem_insert (x p : Lit × DataW Unit) : ∀ l : List (Lit × DataW Unit), p ∈ DataW.insert x l → p = x ∨ p ∈ l
  | [], h => by
    simp [DataW.insert] at h
    exact .inl h
  | y :: r, h => by
    unfold DataW.insert at h
    split at h
    · rcases List.mem_cons.1 h with h | h
      · exact .inl h
      · exact .inr h
    · rcases List.mem_cons.1 h with h | h
      · exact .inr (by rw [h]; exact List.mem_cons_self)
      · exact (impl_matcher_most.mem_insert x p r h).imp id (List.mem_cons_of_mem _)
theorem impl_matcher_most.nodup_len : ∀ (n : Nat) (l : List Nat), l.Nodup → (∀ b ∈ l, b < n) → l.length ≤ n
  | 0, l, _, h => by
    cases l with
    | nil => simp
    | cons x l => exact absurd (h x List.mem_cons_self) (by omega)
  | n + 1, l, hd, h => by
    have h1 := impl_matcher_most.nodup_len n (l.erase n) (hd.erase n) (fun b hb => by
      have := (List.Nodup.mem_erase_iff hd).1 hb
      have := h b this.2
      omega)
    rw [List.length_erase] at h1
    split at h1 <;> omega
/-- The entries' keys are sets. -/
def impl_matcher_most.Keys (D : DataW Unit) : Prop := ∀ es, D = .map es → ∀ p ∈ es, ∃ s : Nat, s < 65536 ∧ p.1 = .int .u16 (s : Int)
theorem impl_matcher_most.few {D : DataW Unit} (h : Go.Maps.Tidy D) (hk : impl_matcher_most.Keys D) : Go.Maps.size D ≤ 65536 := by
  obtain ⟨es, rfl, hp⟩ := h
  have hk := hk es rfl
  show es.length ≤ 65536
  have h1 := impl_matcher_most.nodup_len 65536 (es.map fun p => match p.1 with | .int _ a => a.toNat | _ => 0) (by
    rw [List.Nodup, List.pairwise_map]
    refine hp.imp_of_mem (fun {a b} ha hb hne he => hne ?_)
    obtain ⟨x, _, hx⟩ := hk a ha
    obtain ⟨y, _, hy⟩ := hk b hb
    rw [hx, hy] at he ⊢
    simp only [Int.toNat_natCast] at he
    rw [he]) (by
    intro b hb
    obtain ⟨p, hp, rfl⟩ := List.mem_map.1 hb
    obtain ⟨x, hx, he⟩ := hk p hp
    rw [he]
    simpa using hx)
  rwa [List.length_map] at h1
/-- The map tells what was found for sets. -/
def impl_matcher_most.Mo (w : World) (bm : Nat) (t : List Int) : Prop := ∃ (n : Nat) (D : DataW Unit), w.ownsMap Tryd.prog 97 (plainElem Tryd.prog 3) bm n D ∧ n ≤ 65536 ∧ impl_matcher_most.Keys D ∧ (∀ s v : Int, Go.Maps.has D (.int .u16 s) = true → D.atKey (.int .u16 s) (.lit (.int .i64 0)) = .lit (.int .i64 v) → ∃ k, impl_matcher_most.f k t s = some v)
theorem impl_matcher_most.Mo.put {w : World} {bm : Nat} {t : List Int} {n k : Nat} {D : DataW Unit} {s r : Int} (hm : Go.Maps.IsMap D) (h : w.ownsMap Tryd.prog 97 (plainElem Tryd.prog 3) bm n (D.put (.int .u16 s) (.lit (.int .i64 r)))) (hk : impl_matcher_most.Keys D) (hv : ∀ s v : Int, Go.Maps.has D (.int .u16 s) = true → D.atKey (.int .u16 s) (.lit (.int .i64 0)) = .lit (.int .i64 v) → ∃ k, impl_matcher_most.f k t s = some v) (hs : 0 ≤ s ∧ s < 65536) (hf : impl_matcher_most.f k t s = some r) : impl_matcher_most.Mo w bm t := by
  have hK : impl_matcher_most.Keys (D.put (.int .u16 s) (.lit (.int .i64 r))) := by
    obtain ⟨es, rfl⟩ := hm
    intro es' he p hp
    injection he with he
    subst he
    rcases impl_matcher_most.mem_insert _ _ _ hp with rfl | hp
    · exact ⟨s.toNat, by omega, by rw [Int.toNat_of_nonneg hs.1]⟩
    · exact hk es rfl p (List.mem_filter.1 hp).1
  have ht := h.tidy impl_matcher_most.law
  refine ⟨Go.Maps.size (D.put (.int .u16 s) (.lit (.int .i64 r))), _, ?_, impl_matcher_most.few ht hK, hK, ?_⟩
  · obtain ⟨es, clock, hb, F, hs', e⟩ := h
    exact ⟨es, clock, hb, F, by rw [e]; simp [Go.Maps.size, length_sorted], e⟩
  · intro s' v hh ha
    by_cases e : s' = s
    · subst e
      rw [Go.Maps.atKey_put_same hm (by simp [WideAt.IsKeyLit])] at ha
      have e2 : r = v := by simpa using ha
      subst e2
      exact ⟨k, hf⟩
    · have hne : (Lit.int .u16 s') ≠ (Lit.int .u16 s) := by simpa using e
      rw [Go.Maps.atKey_put_other hne] at ha
      rw [Go.Maps.has_put_other hne] at hh
      exact hv s' v hh ha
/-- What a call leaves. -/
structure impl_matcher_most.St (w : World) (base bm : Nat) (t : List Int) (w' : World) : Prop where
  memo : impl_matcher_most.Mo w' bm t
  below : Below base w w'
  keep : ∀ k, k ≠ bm → k < w.heap.size → w'.heap[k]? = w.heap[k]?
section
variable {w w' w'' : World} {base bm : Nat} {t : List Int}
theorem impl_matcher_most.Mo.later (h : impl_matcher_most.Mo w bm t) (hb : Below w.heap.size w w') : impl_matcher_most.Mo w' bm t := by
  obtain ⟨n, D, ho, hn, hk, hv⟩ := h
  exact ⟨n, D, ho.kept (grown_of_below hb none) (by simp), hn, hk, hv⟩
theorem impl_matcher_most.Mo.lt (h : impl_matcher_most.Mo w bm t) : bm < w.heap.size := by
  obtain ⟨n, D, ho, _⟩ := h
  exact ho.lt
theorem impl_matcher_most.St.foot {α : Type} {d : Kd α} {A : Option Addr} {n : Nat} {xs : List α} (s : impl_matcher_most.St w base bm t w') (h : Kd.F d w (fun k => k ≠ bm) A n xs) : Kd.F d w' (fun k => k ≠ bm) A n xs :=
  Kd.F_mono (Kd.F_step (Kd.F_bound h) (fun k hk hlt => s.keep k hk.1 hlt)) (fun _ hk => hk.1)
theorem impl_matcher_most.St.later (s : impl_matcher_most.St w base bm t w') (hbase : base ≤ w.heap.size) (hb : Below w'.heap.size w' w'') : impl_matcher_most.St w base bm t w'' :=
  ⟨s.memo.later hb, below_then s.below (Nat.le_trans hbase s.below.size) hb, fun k hk hl => (hb.block k (Nat.lt_of_lt_of_le hl s.below.size)).trans (s.keep k hk hl)⟩
theorem impl_matcher_most.St.self (s : impl_matcher_most.St w base bm t w') : impl_matcher_most.St w' base bm t w' := ⟨s.memo, Below.refl _ _, fun _ _ _ => rfl⟩
theorem impl_matcher_most.St.trans (s : impl_matcher_most.St w base bm t w') (u : impl_matcher_most.St w' base bm t w'') : impl_matcher_most.St w base bm t w'' :=
  ⟨u.memo, s.below.trans u.below, fun k hk hl => (u.keep k hk (Nat.lt_of_lt_of_le hl s.below.size)).trans (s.keep k hk hl)⟩
theorem impl_matcher_most.St.blk (s : impl_matcher_most.St w base bm t w') {g : Nat} {o : Obj} (h : w.heap[g]? = some o) (hg : g ≠ bm) : w'.heap[g]? = some o := (s.keep g hg (blk_lt h)).trans h
theorem impl_matcher_most.St.tab (s : impl_matcher_most.St w base bm t w') {g : Nat} (h : GTab g w) (hg : g < base) : GTab g w' := fun j hj => (s.below.cell (p := ⟨g, j, none⟩) hg).trans (h j hj)
theorem impl_matcher_most.St.drewN (s : impl_matcher_most.St w base bm t w') (hbase : base ≤ w.heap.size) (m : Nat) : impl_matcher_most.St w base bm t (w'.drewN m) := s.later hbase (pw_below_drewN (Below.refl _ _) m)
end
set_option maxHeartbeats 16000000 in
set_option maxRecDepth 100000 in
theorem impl_matcher_most.calls : ∀ (k : Nat) (At : Option Addr) (ct : Nat) (t : List Int) (s : Int) (bm : Nat) (r : Int) (w : World) (base : Nat)
    (_h0 : Kd.F (Kd.int .u16) w (fun k => k ≠ bm) At t.length t) (_hc0 : t.length ≤ ct) (_hM : impl_matcher_most.Mo w bm t) (_hbb : base ≤ bm) (_hbase : base ≤ w.heap.size) (_hG : GTab 0 w) (_hlt : 0 < base) (_h : impl_matcher_most.f k t s = some r),
    Calls Tryd.prog 123 #[.agg #[.slice At t.length ct, .map (some bm)], .int .u16 s] w fun e w' => e = .returned (.int .i64 r) ∧ impl_matcher_most.St w base bm t w' := by
  have hu := Tryd.underlying137
  intro k
  induction k using Nat.strongRecOn with
  | ind k ih =>
    intro At ct t s bm r w base h0 hc0 hM hbb hbase hG hlt h
    cases k with
    | zero => simp [impl_matcher_most.f] at h
    | succ k =>
      have hfull := h
      simp only [impl_matcher_most.f] at h
      by_cases cw : 0 ≤ s ∧ s < 65536
      · rw [if_pos cw] at h
        have HS := Aside0.mk (⟨hM, Below.refl _ _, fun _ _ _ => rfl⟩ : impl_matcher_most.St w base bm t w)
        have H0 := Aside0.mk h0
        have HG := Aside0.mk hG
        have CW := Aside0.mk cw
        have HFULL := Aside0.mk hfull
        have BMl := Aside0.mk hM.lt
        clear h0 hG hfull
        by_cases cs : s = 0
        · rw [if_pos cs] at h
          obtain rfl := Option.some.inj h
          have csb : (s == 0) = true := beq_iff_eq.mpr cs
          clear cs h cw hM
          go_enter Tryd.func123, Tryd.ntmps123
          go_wp2_with ((with_reducible refine gate_dst (N := 2) rfl ?_); refine bxE 2 #[.slice At t.length ct, .map (some bm)] 137 rfl ?_; intro gp hg w2 hbox hb; have HS2 := Aside0.mk (HS.out.later hbase hb); clear hg hbox hb)
          go_ret
          exact ⟨rfl, by with_reducible repeat (first | exact HS2.out | apply impl_matcher_most.St.drewN (hbase := hbase))⟩
        · rw [if_neg cs] at h
          have csb : (s == 0) = false := beq_eq_false_iff_ne.mpr cs
          clear cs
          have hkey : keyOf Tryd.prog 97 (.int .u16 s) = some (.int .u16 s) := Go.Maps.keyOf_int_mk Tryd.underlying97 (by simp only [Lit.wf, Bool.and_eq_true, decide_eq_true_eq]; have e1 : IntKind.u16.min = 0 := rfl; have e2 : IntKind.u16.max = 65535 := rfl; omega)
          have HKEY := Aside0.mk hkey
          clear hkey cw
          obtain ⟨n, D, hown, hn, hkk, hvv⟩ := hM
          cases hhas : Go.Maps.has D (.int .u16 s) with
          | true =>
            have HV := Aside0.mk (hvv s)
            have HHAS := Aside0.mk hhas
            have HOWN := Aside0.mk hown
            clear h hown hkk hvv hhas
            go_enter Tryd.func123, Tryd.ntmps123
            go_wp2_with (first
              | ((with_reducible refine gate_dst (N := 2) rfl ?_); refine bxE 2 #[.slice At t.length ct, .map (some bm)] 137 rfl ?_; intro gp hg w2 hbox hb; have HS2 := Aside0.mk (HS.out.later hbase hb); have HOWN2 := Aside0.mk (HOWN.out.kept (grown_of_below hb none) (by simp)); have BKg := Aside0.mk hbox; have hg0 := cz BKg 0; have hg1 := cz BKg 1; clear hg hbox hb)
              | (at_lookup; refine wpList_lookup_own_ok_int _ rfl _ _ 135 rfl 97 3 .i64 impl_matcher_most.law Tryd.underlying135 Tryd.underlying3 (impl_matcher_most.zero _) bm n D rfl (by first | exact HOWN2.out | exact HOWN2.out.kept (grown_of_below (pw_below_drewN (Below.refl _ _) _) none) (by simp)) _ _ rfl HKEY.out ?_; intro c hat hwc; rw [HHAS.out]; have HAT := Aside0.mk hat; clear hat hwc))
            go_ret
            obtain ⟨k', hk'⟩ := HV.out c HHAS.out HAT.out
            have e := impl_matcher_most.one hk' HFULL.out
            subst e
            exact ⟨rfl, by with_reducible repeat (first | exact HS2.out | apply impl_matcher_most.St.drewN (hbase := hbase))⟩
          | false =>
            replace h := Option.bind_eq_some_iff.mp h
            obtain ⟨q, hq, h⟩ := h
            by_cases cq : 0 < (q.length : Int)
            · rw [if_pos cq] at h
              obtain ⟨a, ha⟩ : ∃ a_, a_ = rd q 0 := ⟨_, rfl⟩
              rw [← ha] at h
              by_cases ca0 : 0 ≤ a
              · rw [if_pos ca0] at h
                by_cases ca1 : a < (t.length : Int)
                · rw [if_pos ca1] at h
                  obtain ⟨ja, hja⟩ : ∃ j_ : Int, shl .u16 1 a = j_ := ⟨_, rfl⟩
                  have hja_ : IntKind.u16.wrap (1 * 2 ^ min (a).toNat 16) = ja := hja
                  have hjaz : a ≤ 16 → IntKind.u16.wrap (1 * 2 ^ (a).toNat) = ja := shl_small hja
                  have hjau : IntKind.u16.wrap (2 ^ min (a).toNat 16) = ja := by have h_ := hja_; rw [Int.one_mul] at h_; exact h_
                  have hjav : a ≤ 16 → IntKind.u16.wrap (2 ^ (a).toNat) = ja := fun hle_ => by have h_ := hjaz hle_; rw [Int.one_mul] at h_; exact h_
                  rw [hja] at h
                  replace h := Option.bind_eq_some_iff.mp h
                  obtain ⟨b0, hb0, h⟩ := h
                  replace h := Option.bind_eq_some_iff.mp h
                  obtain ⟨z, hz, h⟩ := h
                  have HQ := Aside0.mk hq
                  have HB0 := Aside0.mk hb0
                  have HZ := Aside0.mk hz
                  have HL := Aside0.mk h
                  have HA := Aside0.mk ha
                  have CQ := Aside0.mk cq
                  have CA := Aside0.mk (And.intro ca0 ca1)
                  have HHAS := Aside0.mk hhas
                  have HOWN := Aside0.mk hown
                  have ca0b : decide (0 ≤ a) = true := decide_eq_true ca0
                  have cqn : (0 < q.length) = True := eq_true (by omega)
                  replace cq := eq_true cq
                  replace ca0 := eq_true ca0
                  replace ca1 := eq_true ca1
                  clear hq hb0 hz h ha hja hown hkk hvv hhas hn
                  go_enter Tryd.func123, Tryd.ntmps123
                  go_wp2_with (first
                    | ((with_reducible refine gate_dst (N := 2) rfl ?_); refine bxE 2 #[.slice At t.length ct, .map (some bm)] 137 rfl ?_; intro gp hg w2 hbox hb; have HS2 := Aside0.mk (HS.out.later hbase hb); have HOWN2 := Aside0.mk (HOWN.out.kept (grown_of_below hb none) (by simp)); have BKg := Aside0.mk hbox; have GNE := Aside0.mk (show gp ≠ bm from by have := BMl.out; omega); have hg0 := cz BKg 0; have hg1 := cz BKg 1; clear hg hbox hb HS)
                    | (at_lookup; refine wpList_lookup_own_ok_int _ rfl _ _ 135 rfl 97 3 .i64 impl_matcher_most.law Tryd.underlying135 Tryd.underlying3 (impl_matcher_most.zero _) bm n D rfl (by first | exact HOWN2.out | exact HOWN2.out.kept (grown_of_below (pw_below_drewN (Below.refl _ _) _) none) (by simp)) _ _ rfl HKEY.out ?_; intro c hat hwc; rw [HHAS.out]; clear hat hwc)
                    | ((with_reducible refine gate_dst (N := 24) rfl ?_); refine goC (N := some 24) Tryd.func78 #[.int .u16 s] rfl ?_; (refine (impl_listed.calls k s q _ HQ.out (GTab.up (HS2.out.tab HG.out hlt) (by first | exact Below.refl _ _ | exact pw_below_drewN (Below.refl _ _) _))).mono ?_); rintro e w3 ⟨v3, rfl, ho, hb⟩; refine ⟨_, rfl, ?_⟩; have HO3 := Aside0.mk ho; have HS3 := Aside0.mk (HS2.out.later hbase (by first | exact hb | exact below_step (pw_below_drewN (Below.refl _ _) _) hb)); have BKg3 := Aside0.mk (blk_below BKg.out (by first | exact hb | exact below_step (pw_below_drewN (Below.refl _ _) _) hb)); clear ho hb hg0 hg1; have hg0 := cz BKg3 0; have hg1 := cz BKg3 1; obtain ⟨Aq, cq2, rfl⟩ := Kd.R_slice HO3.out; obtain ⟨adq, eq_, hxq⟩ := Kd.at_int (Kd.R_reads' HO3.out).2.2 0 (by decide) CQ.out; subst eq_; rw [← HA.out] at hxq; replace hxq : w3.cell? adq = some (.int .i64 a) := (by first | (simpa using hxq; done) | (rw [show adq.add (0 : Int).toNat = adq from by (first | (simp [Addr.add]; done) | (cases adq; simp [Addr.add]; done) | (unfold Addr.add; split <;> simp_all))] at hxq; exact hxq)))
                    | ((with_reducible refine gate_dst (N := 33) rfl ?_); refine goC (N := some 33) Tryd.func123 #[.agg #[.slice At t.length ct, .map (some bm)], .int .u16 (Go.bits .andNot .u16 s ja)] rfl ?_; refine (ih k (Nat.lt_succ_self k) At ct t _ bm b0 _ base (by first | exact HS3.out.foot H0.out | exact (HS3.out.drewN hbase _).foot H0.out) hc0 (by first | exact HS3.out.memo | exact (HS3.out.drewN hbase _).memo) hbb (by first | exact Nat.le_trans hbase HS3.out.below.size | exact Nat.le_trans hbase (HS3.out.drewN hbase _).below.size) (by first | exact HS3.out.tab HG.out hlt | exact (HS3.out.drewN hbase _).tab HG.out hlt) hlt HB0.out).mono ?_; rintro e w4 ⟨rfl, s4⟩; refine ⟨_, rfl, ?_⟩; have HS4 := Aside0.mk (by first | exact HS3.out.trans s4 | exact (HS3.out.drewN hbase _).trans s4 : impl_matcher_most.St w base bm t w4); have BKg4 := Aside0.mk (by first | exact s4.blk BKg3.out GNE.out | exact s4.blk (blk_below BKg3.out (pw_below_drewN (Below.refl _ _) _)) GNE.out : w4.heap[gp]? = some (.cells #[.slice At t.length ct, .map (some bm)] 137 (0, 0))); clear s4 hg0 hg1 hxq; have hg0 := cz BKg4 0; have hg1 := cz BKg4 1; obtain ⟨adt, et, hxt⟩ := Kd.at_int (Kd.F_now (HS4.out.foot H0.out)) a CA.out.1 CA.out.2; subst et)
                    | ((with_reducible refine gate_dst (N := 41) rfl ?_); refine goC (N := some 41) Tryd.func78 #[.int .u16 (Go.bits .and .u16 (rd t a) (Go.bits .andNot .u16 s ja))] rfl ?_; (refine (impl_listed.calls k _ z _ HZ.out (GTab.up (HS4.out.tab HG.out hlt) (by first | exact Below.refl _ _ | exact pw_below_drewN (Below.refl _ _) _))).mono ?_); rintro e w5 ⟨v5, rfl, ho, hb⟩; refine ⟨_, rfl, ?_⟩; have HO5 := Aside0.mk ho; have HS5 := Aside0.mk (HS4.out.later hbase (by first | exact hb | exact below_step (pw_below_drewN (Below.refl _ _) _) hb)); have BKg5 := Aside0.mk (blk_below BKg4.out (by first | exact hb | exact below_step (pw_below_drewN (Below.refl _ _) _) hb)); clear ho hb hg0 hg1 hxt; obtain ⟨Az, cz2, rfl⟩ := Kd.R_slice HO5.out))
                  have FZ := Aside0.mk (show Kd.F (Kd.int .i64) w5 (fun k_ => k_ ≠ bm) Az z.length z from Kd.R_F (Kd.R_mono (Kd.R_bound HO5.out) (fun k_ hk => by have h1_ := hk.2.1; have h2_ := HS4.out.memo.lt; have h3_ : w4.heap.size ≤ _ := h1_; omega)))
                  have HS6 := Aside0.mk HS5.out.self
                  have hbase5 : base ≤ w5.heap.size := Nat.le_trans hbase HS5.out.below.size
                  have LG := Aside0.mk (blk_lt BKg5.out)
                  clear HO5 HO3 HS2 HS3 HS4 BKg BKg3 BKg4 HOWN HOWN2 HHAS
                  go_loopg [9, 43] k (fun kq v9 v43 W => ∃ (b i : Int), v9 = .int .i64 b ∧ v43 = .int .i64 i ∧ Aside0 (impl_matcher_most.l0 kq t (Go.bits .andNot .u16 s ja) z i b = some r) ∧ Aside0 (kq ≤ k) ∧ Aside0 (impl_matcher_most.St w5 base bm t W))
                  case atStart => exact ⟨_, _, rfl, rfl, HL, ⟨Nat.le_refl _⟩, ⟨by with_reducible repeat (first | exact HS6.out | apply impl_matcher_most.St.drewN (hbase := hbase5))⟩⟩
                  case round =>
                    obtain ⟨b, i, rfl, rfl, HA2, HK1, HS7⟩ := hrel
                    cases gk with
                    | zero => exact absurd HA2.out (by simp [impl_matcher_most.l0])
                    | succ k1 =>
                      have H := HA2.out
                      clear HA2 HL HS6
                      simp only [impl_matcher_most.l0] at H
                      have BKr := Aside0.mk (HS7.out.blk BKg5.out GNE.out)
                      by_cases c1_ : i < (z.length : Int)
                      · rw [if_pos c1_] at H
                        by_cases c2_ : 0 ≤ i
                        · rw [if_pos c2_] at H
                          obtain ⟨y, hy_⟩ : ∃ y_, y_ = rd z i := ⟨_, rfl⟩
                          rw [← hy_] at H
                          by_cases c3_ : 0 ≤ y
                          · rw [if_pos c3_] at H
                            obtain ⟨jb, hjb⟩ : ∃ j_ : Int, shl .u16 1 y = j_ := ⟨_, rfl⟩
                            have hjb_ : IntKind.u16.wrap (1 * 2 ^ min (y).toNat 16) = jb := hjb
                            have hjbz : y ≤ 16 → IntKind.u16.wrap (1 * 2 ^ (y).toNat) = jb := shl_small hjb
                            have hjbu : IntKind.u16.wrap (2 ^ min (y).toNat 16) = jb := by have h_ := hjb_; rw [Int.one_mul] at h_; exact h_
                            have hjbv : y ≤ 16 → IntKind.u16.wrap (2 ^ (y).toNat) = jb := fun hle_ => by have h_ := hjbz hle_; rw [Int.one_mul] at h_; exact h_
                            rw [hjb] at H
                            replace H := Option.bind_eq_some_iff.mp H
                            obtain ⟨c, hc_, H⟩ := H
                            have HY := Aside0.mk hc_
                            have HN := Aside0.mk H
                            obtain ⟨adp, ep, hxp⟩ := Kd.at_int (Kd.F_now (HS7.out.foot FZ.out)) i c2_ c1_
                            subst ep
                            rw [← hy_] at hxp
                            have c1b : decide (i < (z.length : Int)) = true := decide_eq_true c1_
                            have c3b : decide (0 ≤ y) = true := decide_eq_true c3_
                            replace c1_ := eq_true c1_
                            replace c2_ := eq_true c2_
                            replace c3_ := eq_true c3_
                            clear hc_ H hy_ hjb
                            go_wp2
                            refine start_ (n := 10) (S := fun w' => w'.cell? ⟨gp, 0, none⟩ = some (.slice (some adt) t.length ct) ∧ w'.cell? ⟨gp, 1, none⟩ = some (.map (some bm))) (ds := [6]) (bz 10 0) (by kernel_rfl) rfl rfl ⟨(blk_cell BKr.out 0).trans rfl, (blk_cell BKr.out 1).trans rfl⟩ (fun hHeld => ?_)
                            refine with_tabW impl_matcher_most.tab12 impl_matcher_most.bits12 (fun HT_ HW_ => ?_)
                            have HS8 := Aside0.mk (HS7.out.later hbase5 (below_drew1 (Below.refl _ _)))
                            have BKs := Aside0.mk (HS8.out.blk BKg5.out GNE.out)
                            generalize wr.drew = w6 at HS8 BKs hHeld ⊢
                            refine run_ [(0, 0, 1, some 47), (1, 1, 3, some 48), (0, 2, 7, some 49), (0, 3, 15, some 50), (0, 4, 31, some 51), (0, 5, 63, some 52)] ?_
                            repeat (first | (apply tag0; refine run_p (v := ?_) (a' := ?_) rfl rfl (any_of HT_.out (by kernel_rfl)) (fun _ _ _ h => h) (by rfl) ?_ ?_ ?_; rotate_left 2; (intro w'; go_simp; with_reducible rfl); (first | (simp only [Act.put, List.setIfInBounds_toArray, List.set_cons_zero, List.set_cons_succ, i64_w, i32_w]; rfl) | rfl)) | (apply tag1; refine run_t (v := ?_) (a' := ?_) rfl rfl (take_ofW HT_.out HW_.out (by kernel_rfl)) (fun _ _ _ h => h) (by rfl) ?_ hHeld ?_ ?_; rotate_left 2; (rintro w' ⟨s0, s1⟩; go_simp; with_reducible rfl); (first | (simp only [Act.put, List.setIfInBounds_toArray, List.set_cons_zero, List.set_cons_succ, i64_w, i32_w]; rfl) | rfl)))
                            refine run_nil ?_
                            refine last_ (i := 6) (N := some 53) (bz 10 127) rfl rfl (one_of HT_.out (by kernel_rfl)) (by decide) (fun K hK => ?_)
                            refine goes_ Tryd.func123 (by kernel_rfl) rfl #[.agg #[.slice (some adt) t.length ct, .map (some bm)], .int .u16 (Go.bits .andNot .u16 (Go.bits .andNot .u16 s ja) jb)] (by rfl) rfl rfl (by first | rfl | exact mapT) ?_
                            refine (ih k1 (by have := HK1.out; omega) (some adt) ct t _ bm c w6 base ((HS5.out.trans HS8.out).foot H0.out) hc0 HS8.out.memo hbb (Nat.le_trans hbase5 HS8.out.below.size) ((HS5.out.trans HS8.out).tab HG.out hlt) hlt HY.out).mono ?_
                            rintro e w7 ⟨rfl, s7⟩
                            refine ⟨_, rfl, ?_⟩
                            have HS9 := Aside0.mk (HS8.out.trans s7)
                            refine hK.out _ _ ?_
                            clear hK K s7
                            refine norm_ (a' := ?_) ?_ ?_
                            rotate_left
                            · show Act.put _ (some 53) _ = _
                              simp only [Act.put, List.setIfInBounds_toArray, List.set_cons_zero, List.set_cons_succ, i64_w, i32_w]
                              rfl
                            refine run_ [(0, 7, 255, some 54), (0, 8, 511, some 55), (0, 9, 1023, some 9)] ?_
                            repeat (first | (apply tag0; refine run_p (v := ?_) (a' := ?_) rfl rfl (any_of HT_.out (by kernel_rfl)) (fun _ _ _ h => h) (by rfl) ?_ ?_ ?_; rotate_left 2; (intro w'; go_simp; with_reducible rfl); (first | (simp only [Act.put, List.setIfInBounds_toArray, List.set_cons_zero, List.set_cons_succ, i64_w, i32_w]; rfl) | rfl)))
                            refine run_nil ?_
                            refine done_ (done_of HT_.out (by kernel_rfl)) ?_
                            clear hHeld HT_ HW_ HS7 HS8 BKs BKr
                            go_wp2
                            all_goals
                              go_roundg k1
                              case measure => have := HK1.out; omega
                              case rel => exact ⟨max b (wrap64 (1 + c)), _, by first | rfl | (simp; done) | (simp; omega), by first | rfl | (simp; done), HN, ⟨by have := HK1.out; omega⟩, HS9⟩
                          · rw [if_neg c3_] at H; cases H
                        · rw [if_neg c2_] at H; cases H
                      · rw [if_neg c1_] at H
                        have c1b : decide (i < (z.length : Int)) = false := decide_eq_false c1_
                        clear c1_
                        by_cases cb : wrap64 b = b
                        · rw [if_pos cb] at H
                          obtain rfl := Option.some.inj H
                          have hwf := wrap64_wf b
                          rw [cb] at hwf
                          have HWF := Aside0.mk hwf
                          clear H cb hwf
                          obtain ⟨n2, D2, hown2, hn2, hkk2, hvv2⟩ := HS7.out.memo
                          have HOWN := Aside0.mk hown2
                          have HK2 := Aside0.mk hkk2
                          have HV2 := Aside0.mk hvv2
                          have HN2 := Aside0.mk hn2
                          have HST := Aside0.mk (HS5.out.trans HS7.out)
                          clear hown2 hkk2 hvv2 hn2
                          have hg0 := cz BKr 0
                          have hg1 := cz BKr 1
                          go_wp2_with (at_mapUpdate; refine wpList_mapUpdate_in _ rfl _ _ _ 135 rfl 97 3 impl_matcher_most.law Tryd.underlying135 (plainElem Tryd.prog 3) bm n2 D2 rfl HOWN.out (by have := HN2.out; have e_ : maxLen = 9223372036854775807 := rfl; omega) _ _ _ rfl rfl HKEY.out _ [] (plainElem_int Tryd.underlying3 HWF.out) ?_; intro w9 hown9 hturn9; have HS9 := Aside0.mk (⟨impl_matcher_most.Mo.put HOWN.out.isMap hown9 HK2.out HV2.out CW.out HFULL.out, HST.out.below.trans (pw_below_grown (Below.refl base wr) (some bm) (Nat.le_trans hbase HST.out.below.size) hturn9.grown (fun k_ e_ => by injection e_ with e_; omega)), fun k_ hk hl => (hturn9.grown.block k_ (Nat.lt_of_lt_of_le hl HST.out.below.size) (fun e_ => hk (by injection e_))).trans (HST.out.keep k_ hk hl)⟩ : impl_matcher_most.St w base bm t w9); clear hown9 hturn9 hg0 hg1)
                          go_ret
                          exact ⟨rfl, by with_reducible repeat (first | exact HS9.out | apply impl_matcher_most.St.drewN (hbase := hbase))⟩
                        · rw [if_neg cb] at H; cases H
                · rw [if_neg ca1] at h; cases h
              · rw [if_neg ca0] at h; cases h
            · rw [if_neg cq] at h; cases h
      · rw [if_neg cw] at h; cases h

end Go.Proofs.YtjpfbkkikcpmhaaDoor.PFnExactFirstPairing
