-- Of this session's own program wip/gen/gen.py (it drives the kit's print): contracts of the functions that the law reaches.
import Derived.Test.YtomlbbnoicpfpaaDoorPFnExactLacksGroupx0
import Derived.Test.YtomlbbnoicpfpaaDoorPFnExactLacksGroupx5
namespace Go.Proofs.YtomlbbnoicpfpaaDoor.PFnExactLacksGroup
open Go.RowKit Go.Proofs.YtomlbbnoicpfpaaDoorW.PrintWords Go.Proofs.YtomlbbnoicpfpaaDoorW.PrintLast Go.Proofs.YtomlbbnoicpfpaaDoorW.PrintMore Go.Proofs.YtomlbbnoicpfpaaDoor.Base
attribute [local go_sem] max2_int min2_int max_two min_two max_three min_three max_four min_four   -- for this text's walks alone
set_option linter.unusedVariables false
set_option linter.unusedSimpArgs false

/-! ### impl_Party_table: function 49 -/
def impl_Party_table.l0 : Nat → List Int → List (S89) → Int → Int → Option (List Int)
 | 0, _, _, _, _ => none
 | k + 1, x3, x10, x11, x12 => if x12 < x11 then (if 0 ≤ x12 then (if x12 < (x10.length : Int) then (if 0 ≤ ((rd_T89 x10 x12).f0) then (if ((rd_T89 x10 x12).f0) < (x3.length : Int) then (if 0 ≤ ((rd_T89 x10 x12).f1) then ((some (x3.set (((rd_T89 x10 x12).f0) : Int).toNat (Go.bits .or .u16 (rd x3 ((rd_T89 x10 x12).f0)) (shl .u16 1 ((rd_T89 x10 x12).f1))) : List Int)).bind fun y199 => (if ((rd_T89 x10 x12).f1) < (x3.length : Int) then (impl_Party_table.l0 k (y199.set (((rd_T89 x10 x12).f1) : Int).toNat (Go.bits .or .u16 (rd y199 ((rd_T89 x10 x12).f1)) (shl .u16 1 ((rd_T89 x10 x12).f0)))) x10 x11 (wrap64 (x12 + 1))) else (none))) else (none)) else (none)) else (none)) else (none)) else (none)) else (some x3)
def impl_Party_table.f (k : Nat) (a0_0 : Int) (l0_1 : List (S89)) : Option (List Int) := if 0 ≤ a0_0 then (if (a0_0 : Int).toNat ≤ 140737488355328 then (impl_Party_table.l0 k (List.replicate (a0_0 : Int).toNat 0) l0_1 (l0_1.length : Int) 0) else (none)) else (none)
theorem impl_Party_table.mono_l : ∀ k, (∀ y0 y1 y2 y3, LeO (impl_Party_table.l0 k y0 y1 y2 y3) (impl_Party_table.l0 (k + 1) y0 y1 y2 y3))
 | 0 => fun _ _ _ _ r h => by simp [impl_Party_table.l0] at h
 | k + 1 => by
  have ih0 := impl_Party_table.mono_l k
  ·intro y0 y1 y2 y3
   unfold impl_Party_table.l0
   repeat' first
   | (with_reducible exact ih0 _ _ _ _)
   | (with_reducible exact LeO.refl _)
   | (with_reducible exact LeO.none _)
   | (with_reducible refine LeO.ite ?_ ?_)
   | (with_reducible refine LeO.bind ?_ (fun _ => ?_))
   | exact ih0 _ _ _ _
   | exact LeO.none _
   | refine LeO.ite ?_ ?_
   | refine LeO.bind ?_ (fun _ => ?_)
theorem impl_Party_table.mono : ∀ a0 a1 k, LeO (impl_Party_table.f k a0 a1) (impl_Party_table.f (k + 1) a0 a1) := by
 intro a0 a1 k
 have ih0 := impl_Party_table.mono_l k
 unfold impl_Party_table.f
 repeat' first
   | (with_reducible exact ih0 _ _ _ _)
   | (with_reducible exact LeO.refl _)
   | (with_reducible exact LeO.none _)
   | (with_reducible refine LeO.ite ?_ ?_)
   | (with_reducible refine LeO.bind ?_ (fun _ => ?_))
   | exact ih0 _ _ _ _
   | exact LeO.none _
   | refine LeO.ite ?_ ?_
   | refine LeO.bind ?_ (fun _ => ?_)
def impl_Party_table.T5 : Bool × List (List Nat × List Nat) := (true, [([], []), ([], []), ([1], [1]), ([0, 2], [0, 2]), ([3], [3]), ([], []), ([5], [5]), ([6], [6]), ([4, 7], [4, 7]), ([0, 2, 0, 1, 2, 3, 4, 5, 6, 7, 8], [0, 2]), ([9, 8, 0, 1, 2, 3, 4, 5, 6, 7, 8], [8, 9])])
def impl_Party_table.B5 : List Nat := [0, 0, 2, 7, 15, 0, 32, 96, 255, 511, 1023]
theorem impl_Party_table.tab5 : rtab .any (opsOf Tryd.f49 5) = impl_Party_table.T5 := by kernel_rfl
theorem impl_Party_table.bits5 : waitsOk impl_Party_table.T5.2 impl_Party_table.B5 = true := by kernel_rfl
def impl_Party_table.T6 : Bool × List (List Nat × List Nat) := (true, [([], []), ([], []), ([1], [1]), ([0, 2], [0, 2]), ([3], [3]), ([], []), ([5], [5]), ([6], [6]), ([4, 7], [4, 7]), ([0, 2, 0, 1, 2, 3, 4, 5, 6, 7, 8], [0, 2]), ([9, 8, 0, 1, 2, 3, 4, 5, 6, 7, 8], [8, 9])])
def impl_Party_table.B6 : List Nat := [0, 0, 2, 7, 15, 0, 32, 96, 255, 511, 1023]
theorem impl_Party_table.tab6 : rtab .any (opsOf Tryd.f49 6) = impl_Party_table.T6 := by kernel_rfl
theorem impl_Party_table.bits6 : waitsOk impl_Party_table.T6.2 impl_Party_table.B6 = true := by kernel_rfl
set_option maxHeartbeats 8000000 in
set_option maxRecDepth 100000 in
theorem impl_Party_table.calls (k : Nat) (a0_0 : Int) (A0_1 : Option Addr) (c0_1 : Nat) (l0_1 : List (S89)) (r : List Int) (w : World) (hr0_1 : Kd.C k89 w A0_1 l0_1.length l0_1) (hc0_1 : l0_1.length ≤ c0_1) (h : impl_Party_table.f k a0_0 l0_1 = some r) :
  Calls Tryd.prog 49 #[.agg #[.int .i64 a0_0, .slice A0_1 l0_1.length c0_1]] w fun e w' => ∃ v0_ : Value, e = .returned (v0_) ∧ Kd.R (Kd.int .u16) 83 w' w.heap.size (fun _ => True) v0_ r ∧ Below w.heap.size w w' := by
 have hu30 := Tryd.underlying30
 have hu89 := Tryd.underlying89
 have HR0_1 := Aside0.mk hr0_1
 have HC0_1 := Aside0.mk hc0_1
 clear hr0_1 hc0_1
 have HB := Aside0.mk (Below.refl w.heap.size w)
 have H : (if 0 ≤ a0_0 then (if (a0_0 : Int).toNat ≤ 140737488355328 then (impl_Party_table.l0 k (List.replicate (a0_0 : Int).toNat 0) l0_1 (l0_1.length : Int) 0) else (none)) else (none)) = some r := h
 clear h
 by_cases c2 : 0 ≤ a0_0
 ·rw [if_pos c2] at H
  have c2b0 := eq_true c2
  have c2b1 : decide (0 ≤ a0_0) = true := decide_eq_true c2
  clear c2
  by_cases c3 : (a0_0 : Int).toNat ≤ 140737488355328
  ·rw [if_pos c3] at H
   have c3b0 := eq_true c3
   have c3b1 : decide ((a0_0 : Int).toNat ≤ 140737488355328) = true := decide_eq_true c3
   clear c3
   obtain ⟨y193, hy193⟩ : ∃ y_ : List Int, y_ = (List.replicate (a0_0 : Int).toNat 0) := ⟨_, rfl⟩
   replace H : (impl_Party_table.l0 k y193 l0_1 (l0_1.length : Int) 0) = some r := by first | (rw [hy193]; with_reducible exact H) | (have H2_ := (Option.bind_some _ _).symm.trans H; rw [hy193]; with_reducible exact H2_) | (have H2_ := (Option.bind_some _ _).symm.trans H; with_reducible exact H2_) | with_reducible exact H | (rw [hy193]; exact H) | exact H
   have Ny193 := Aside0.mk hy193
   clear hy193
   have H' := Aside0.mk H
   clear H
   go_enter Tryd.func49, Tryd.ntmps49
   go_wp2_with (first | ((with_reducible refine gate_dst (N := 1) rfl ?_); refine box_event ?hg (N := 1) ?hd (cs := #[.int .i64 a0_0, .slice A0_1 l0_1.length c0_1]) (t := 30) ?hr ?_; (case hd => rfl); (case hg => rfl); (case hr => first | (go_simp; done) | (go_simp; rfl)); intro gb192 hg w4 hbox hb; have n0_ := hS HB hb; have n1_ := Aside0.mk (hbox); have n2_ := gS HB hg; have n3_ := gS HB hg; clear HB; have HB := n0_; have BK192 := n1_; have GW192 := n2_; have GE192 := n3_; clear n0_ n1_ n2_ n3_; clear hb hbox hg; have hcz5_0 : w4.cell? ⟨gb192, 0, none⟩ = some (.int .i64 a0_0) := (blk_cell BK192.out 0).trans rfl; have hcz5_1 : w4.cell? ⟨gb192, 1, none⟩ = some (.slice A0_1 l0_1.length c0_1) := (blk_cell BK192.out 1).trans rfl; have hfz5_0 := blk_frozen BK192.out 0; have hfz5_1 := blk_frozen BK192.out 1) | ((with_reducible refine gate_dst (N := 8) rfl ?_); refine Kd.R_make (Kd.int .u16) _ 83 rfl (N := 8) rfl 76 _ _ rfl a0_0 rfl rfl Tryd.underlying76 (.int .u16 0) 2 info83 rfl (by decide) (by omega) 0 (ok := fun _ => True) (okp := fun _ => True) rfl (fun _ hk => hk) trivial (of_decide_eq_true (by first | (with_reducible assumption) | assumption)) (Nat.le_trans (Nat.mul_le_mul_right _ (of_decide_eq_true (by first | (with_reducible assumption) | assumption) : a0_0.toNat ≤ 140737488355328)) (by omega)) (Below.refl _ _) (Nat.le_refl _) ?_; intro v194 w6 ho7 hb hg_ hnew_; clear hg_ hnew_; (first | rw [← Ny193.out] at ho7 | (simp only [Int.reduceToNat] at ho7; rw [← Ny193.out] at ho7)); have n0_ := Aside0.mk (Kd.R_lower ho7 (below_size hB)); have n1_ := bS BK192 hb; have n2_ := hS HB hb; clear BK192; clear HB; have HO195 := n0_; have BK192 := n1_; have HB := n2_; clear n0_ n1_ n2_; clear hb ho7; have hcz8_0 : w6.cell? ⟨gb192, 0, none⟩ = some (.int .i64 a0_0) := (blk_cell BK192.out 0).trans rfl; have hcz8_1 : w6.cell? ⟨gb192, 1, none⟩ = some (.slice A0_1 l0_1.length c0_1) := (blk_cell BK192.out 1).trans rfl; have hfz8_0 := blk_frozen BK192.out 0; have hfz8_1 := blk_frozen BK192.out 1))
   go_loopg [12] k (fun kq v12 w' => ∃ (x3_1 : List Int) (x12_1 : Int), v12 = .int .i64 x12_1 ∧ Aside0 (impl_Party_table.l0 kq x3_1 l0_1 (l0_1.length : Int) x12_1 = some r) ∧ Aside0 (kq ≤ k) ∧ Aside0 (Kd.R (Kd.int .u16) 83 w' w.heap.size (fun _ => True) v194 x3_1) ∧ Aside0 (w'.heap[gb192]? = some (.cells #[.int .i64 a0_0, (.slice A0_1 l0_1.length c0_1)] 30 (0, 0))) ∧ Aside0 (Below w.heap.size w w'))
   case atStart => exact ⟨(y193), (0), (by first | rfl | (simp; done) | (simp [*]; done)), H', ⟨Nat.le_refl _⟩, ⟨by (with_reducible repeat (first | apply Kd.R_alloc | apply Kd.R_drewN | apply Kd.R_drew)); exact HO195.out⟩, ⟨bK⟩, ⟨hB⟩⟩
   case round =>
    clear H'
    try clear c2
    try clear c2b0
    try clear c2b1
    try clear p2
    try clear c3
    try clear c3b0
    try clear c3b1
    try clear c4
    try clear hcz5_0
    try clear hcz5_1
    try clear hcz8_0
    try clear hcz8_1
    try clear hfz5_0
    try clear hfz5_1
    try clear hfz8_0
    try clear hfz8_1
    obtain ⟨x3_1, x12_1, rfl, HA, HK1, HO_3, BK192, HB⟩ := hrel
    cases gk with
    | zero => exact absurd HA.out (by simp [impl_Party_table.l0])
    | succ k1 =>
     have H := HA.out
     clear HA
     simp only [impl_Party_table.l0] at H
     by_cases c9 : x12_1 < (l0_1.length : Int)
     ·rw [if_pos c9] at H
      have c9b0 : decide (x12_1 < (l0_1.length : Int)) = true := decide_eq_true c9
      clear c9
      by_cases c10 : 0 ≤ x12_1
      ·rw [if_pos c10] at H
       have c10b0 : decide (0 ≤ x12_1) = true := decide_eq_true c10
       clear c10
       by_cases c11 : x12_1 < (l0_1.length : Int)
       ·rw [if_pos c11] at H
        have c11b0 : decide (x12_1 < (l0_1.length : Int)) = true := decide_eq_true c11
        clear c11
        by_cases c12 : 0 ≤ ((rd_T89 l0_1 x12_1).f0)
        ·rw [if_pos c12] at H
         have c12b0 : decide (0 ≤ ((rd_T89 l0_1 x12_1).f0)) = true := decide_eq_true c12
         clear c12
         by_cases c13 : ((rd_T89 l0_1 x12_1).f0) < (x3_1.length : Int)
         ·rw [if_pos c13] at H
          have c13b0 : decide (((rd_T89 l0_1 x12_1).f0) < (x3_1.length : Int)) = true := decide_eq_true c13
          clear c13
          by_cases c14 : 0 ≤ ((rd_T89 l0_1 x12_1).f1)
          ·rw [if_pos c14] at H
           have c14b0 := eq_true c14
           have c14b1 : decide (0 ≤ ((rd_T89 l0_1 x12_1).f1)) = true := decide_eq_true c14
           clear c14
           obtain ⟨ji15, hji15⟩ : ∃ j_ : Int, (shl .u16 1 ((rd_T89 l0_1 x12_1).f1)) = j_ := ⟨_, rfl⟩
           replace H : ((some (x3_1.set (((rd_T89 l0_1 x12_1).f0) : Int).toNat (Go.bits .or .u16 (rd x3_1 ((rd_T89 l0_1 x12_1).f0)) (ji15)) : List Int)).bind fun y199 => (if ((rd_T89 l0_1 x12_1).f1) < (x3_1.length : Int) then (impl_Party_table.l0 k1 (y199.set (((rd_T89 l0_1 x12_1).f1) : Int).toNat (Go.bits .or .u16 (rd y199 ((rd_T89 l0_1 x12_1).f1)) (shl .u16 1 ((rd_T89 l0_1 x12_1).f0)))) l0_1 (l0_1.length : Int) (wrap64 (x12_1 + 1))) else (none))) = some r := by first | (rw [hji15] at H; exact H) | (simp only [hji15] at H ⊢; exact H)
           have hji15_ : (IntKind.u16.wrap (1 * 2 ^ min ((rd_T89 l0_1 x12_1).f1).toNat 16)) = ji15 := hji15
           have hji15z : ((rd_T89 l0_1 x12_1).f1) ≤ 16 → (IntKind.u16.wrap (1 * 2 ^ ((rd_T89 l0_1 x12_1).f1).toNat)) = ji15 := shl_small hji15
           have hji15u : (IntKind.u16.wrap (2 ^ min ((rd_T89 l0_1 x12_1).f1).toNat 16)) = ji15 := by have h_ := hji15_; rw [Int.one_mul] at h_; exact h_
           have hji15v : ((rd_T89 l0_1 x12_1).f1) ≤ 16 → (IntKind.u16.wrap (2 ^ ((rd_T89 l0_1 x12_1).f1).toNat)) = ji15 := fun hle_ => by have h_ := hji15z hle_; rw [Int.one_mul] at h_; exact h_
           obtain ⟨y199, hy199⟩ : ∃ y_ : List Int, y_ = (x3_1.set (((rd_T89 l0_1 x12_1).f0) : Int).toNat (Go.bits .or .u16 (rd x3_1 ((rd_T89 l0_1 x12_1).f0)) (ji15))) := ⟨_, rfl⟩
           replace H : (if ((rd_T89 l0_1 x12_1).f1) < (x3_1.length : Int) then (impl_Party_table.l0 k1 (y199.set (((rd_T89 l0_1 x12_1).f1) : Int).toNat (Go.bits .or .u16 (rd y199 ((rd_T89 l0_1 x12_1).f1)) (shl .u16 1 ((rd_T89 l0_1 x12_1).f0)))) l0_1 (l0_1.length : Int) (wrap64 (x12_1 + 1))) else (none)) = some r := by first | (rw [hy199]; with_reducible exact H) | (have H2_ := (Option.bind_some _ _).symm.trans H; rw [hy199]; with_reducible exact H2_) | (have H2_ := (Option.bind_some _ _).symm.trans H; with_reducible exact H2_) | with_reducible exact H | (rw [hy199]; exact H) | exact H
           have Ny199 := Aside0.mk hy199
           clear hy199
           by_cases c17 : ((rd_T89 l0_1 x12_1).f1) < (x3_1.length : Int)
           ·rw [if_pos c17] at H
            have c17b0 : decide (((rd_T89 l0_1 x12_1).f1) < (x3_1.length : Int)) = true := decide_eq_true c17
            clear c17
            have c18b0 := eq_true (of_decide_eq_true (by first | (with_reducible assumption) | assumption) : 0 ≤ ((rd_T89 l0_1 x12_1).f0))
            obtain ⟨ji19, hji19⟩ : ∃ j_ : Int, (shl .u16 1 ((rd_T89 l0_1 x12_1).f0)) = j_ := ⟨_, rfl⟩
            replace H : (impl_Party_table.l0 k1 (y199.set (((rd_T89 l0_1 x12_1).f1) : Int).toNat (Go.bits .or .u16 (rd y199 ((rd_T89 l0_1 x12_1).f1)) (ji19))) l0_1 (l0_1.length : Int) (wrap64 (x12_1 + 1))) = some r := by first | (rw [hji19] at H; exact H) | (simp only [hji19] at H ⊢; exact H)
            have hji19_ : (IntKind.u16.wrap (1 * 2 ^ min ((rd_T89 l0_1 x12_1).f0).toNat 16)) = ji19 := hji19
            have hji19z : ((rd_T89 l0_1 x12_1).f0) ≤ 16 → (IntKind.u16.wrap (1 * 2 ^ ((rd_T89 l0_1 x12_1).f0).toNat)) = ji19 := shl_small hji19
            have hji19u : (IntKind.u16.wrap (2 ^ min ((rd_T89 l0_1 x12_1).f0).toNat 16)) = ji19 := by have h_ := hji19_; rw [Int.one_mul] at h_; exact h_
            have hji19v : ((rd_T89 l0_1 x12_1).f0) ≤ 16 → (IntKind.u16.wrap (2 ^ ((rd_T89 l0_1 x12_1).f0).toNat)) = ji19 := fun hle_ => by have h_ := hji19z hle_; rw [Int.one_mul] at h_; exact h_
            obtain ⟨y201, hy201⟩ : ∃ y_ : List Int, y_ = (y199.set (((rd_T89 l0_1 x12_1).f1) : Int).toNat (Go.bits .or .u16 (rd y199 ((rd_T89 l0_1 x12_1).f1)) (ji19))) := ⟨_, rfl⟩
            replace H : (impl_Party_table.l0 k1 y201 l0_1 (l0_1.length : Int) (wrap64 (x12_1 + 1))) = some r := by first | (rw [hy201]; with_reducible exact H) | (have H2_ := (Option.bind_some _ _).symm.trans H; rw [hy201]; with_reducible exact H2_) | (have H2_ := (Option.bind_some _ _).symm.trans H; with_reducible exact H2_) | with_reducible exact H | (rw [hy201]; exact H) | exact H
            have Ny201 := Aside0.mk hy201
            clear hy201
            have H' := Aside0.mk H
            clear H
            have p196 : 0 ≤ (x12_1 : Int) := of_decide_eq_true (by first | (with_reducible assumption) | assumption)
            have q196 : x12_1 < (l0_1.length : Int) := of_decide_eq_true (by first | (with_reducible assumption) | assumption)
            obtain ⟨ad196, e196, hx196_0, hx196_1⟩ := at_T89 HR0_1.out x12_1 p196 q196
            cases e196
            replace hx196_0 := (HB.out.cell (World.block_lt_of_cell? w _ hx196_0)).trans hx196_0
            replace hx196_1 := (HB.out.cell (World.block_lt_of_cell? w _ hx196_1)).trans hx196_1
            replace p196 := eq_true p196
            replace q196 := eq_true q196
            try go_wp2_with (first | ((with_reducible refine gate_dst (N := 5) rfl ?_); refine box_event ?hg (N := 5) ?hd (cs := #[.int .i64 0, .int .i64 0]) (t := 89) ?hr ?_; (case hd => rfl); (case hg => rfl); (case hr => first | (go_simp; done) | (go_simp; rfl)); intro gb197 hg w21 hbox hb; have n0_ := Aside0.mk (Kd.R_below (by (with_reducible repeat (first | apply Kd.R_alloc | apply Kd.R_drewN | apply Kd.R_drew)); exact HO_3.out) hb); have n1_ := bS BK192 hb; have n2_ := hS HB hb; have n3_ := Aside0.mk (hbox); have n4_ := gS HB hg; have n5_ := gS HB hg; have n6_ := nL BK192 hg; have n7_ := nG BK192 hg; clear HO_3; clear BK192; clear HB; have HO_3 := n0_; have BK192 := n1_; have HB := n2_; have BK197 := n3_; have GW197 := n4_; have GE197 := n5_; have NB192_197 := n6_; have NB197_192 := n7_; clear n0_ n1_ n2_ n3_ n4_ n5_ n6_ n7_; clear hb hbox hg; have hnb22 := NB197_192.out; have hnc22 := NB192_197.out; have hcz23_0 : w21.cell? ⟨gb197, 0, none⟩ = some (.int .i64 0) := (blk_cell BK197.out 0).trans rfl; have hcz23_1 : w21.cell? ⟨gb197, 1, none⟩ = some (.int .i64 0) := (blk_cell BK197.out 1).trans rfl; have hfz23_0 := blk_frozen BK197.out 0; have hfz23_1 := blk_frozen BK197.out 1))
            have n0_ : Aside0 (Kd.R (Kd.int .u16) 83 ((w21.setCell ⟨gb197, 0, none⟩ (.int .i64 ((rd_T89 l0_1 x12_1).f0))).setCell ⟨gb197, 1, none⟩ (.int .i64 ((rd_T89 l0_1 x12_1).f1))) w.heap.size (fun _ => True) v194 x3_1) := ⟨by (with_reducible repeat (first | apply Kd.R_alloc | apply Kd.R_drewN | apply Kd.R_drew)); exact Kd.R_mono (Kd.R_far (p := ⟨gb197, 1, none⟩) (Kd.R_far (p := ⟨gb197, 0, none⟩) (Kd.R_types HO_3.out BK197.out (by decide)) (fun _ hk => hk.2) (.int .i64 ((rd_T89 l0_1 x12_1).f0))) (fun _ hk => hk.2) (.int .i64 ((rd_T89 l0_1 x12_1).f1))) (fun _ hk => trivial)⟩
            have n1_ : Aside0 (((w21.setCell ⟨gb197, 0, none⟩ (.int .i64 ((rd_T89 l0_1 x12_1).f0))).setCell ⟨gb197, 1, none⟩ (.int .i64 ((rd_T89 l0_1 x12_1).f1))).heap[gb192]? = some (.cells #[.int .i64 a0_0, .slice (some ad196) l0_1.length c0_1] 30 (0, 0))) := ⟨by (with_reducible repeat (first | refine blk_drewN ?_ _ | refine blk_drew ?_ | refine blk_alloc ?_ _)); refine blk_far ?_ NB192_197.out _; (with_reducible repeat (first | refine blk_drewN ?_ _ | refine blk_drew ?_ | refine blk_alloc ?_ _)); refine blk_far ?_ NB192_197.out _; (with_reducible repeat (first | refine blk_drewN ?_ _ | refine blk_drew ?_ | refine blk_alloc ?_ _)); exact BK192.out⟩
            have n2_ : Aside0 (((w21.setCell ⟨gb197, 0, none⟩ (.int .i64 ((rd_T89 l0_1 x12_1).f0))).setCell ⟨gb197, 1, none⟩ (.int .i64 ((rd_T89 l0_1 x12_1).f1))).heap[gb197]? = some (.cells #[.int .i64 ((rd_T89 l0_1 x12_1).f0), .int .i64 ((rd_T89 l0_1 x12_1).f1)] 89 (0, 0))) := ⟨by (with_reducible repeat (first | refine blk_drewN ?_ _ | refine blk_drew ?_ | refine blk_alloc ?_ _)); refine blk_put (cs := #[.int .i64 ((rd_T89 l0_1 x12_1).f0), .int .i64 0]) ?_ 1 _ rfl; (with_reducible repeat (first | refine blk_drewN ?_ _ | refine blk_drew ?_ | refine blk_alloc ?_ _)); refine blk_put (cs := #[.int .i64 0, .int .i64 0]) ?_ 0 _ rfl; (with_reducible repeat (first | refine blk_drewN ?_ _ | refine blk_drew ?_ | refine blk_alloc ?_ _)); exact BK197.out⟩
            have n3_ : Aside0 (Below w.heap.size w ((w21.setCell ⟨gb197, 0, none⟩ (.int .i64 ((rd_T89 l0_1 x12_1).f0))).setCell ⟨gb197, 1, none⟩ (.int .i64 ((rd_T89 l0_1 x12_1).f1)))) := ⟨hB⟩
            (try clear HO_3)
            (try clear BK192)
            (try clear BK197)
            (try clear HB)
            generalize ((w21.setCell ⟨gb197, 0, none⟩ (.int .i64 ((rd_T89 l0_1 x12_1).f0))).setCell ⟨gb197, 1, none⟩ (.int .i64 ((rd_T89 l0_1 x12_1).f1))) = w24 at n0_ n1_ n2_ n3_ ⊢
            have HO_3 := n0_
            have BK192 := n1_
            have BK197 := n2_
            have HB := n3_
            clear n0_ n1_ n2_ n3_
            have n0_ := Aside0.mk (Kd.R_drew HO_3.out)
            have n1_ := Aside0.mk (blk_drew BK192.out)
            have n2_ := Aside0.mk (blk_drew BK197.out)
            have n3_ := Aside0.mk (below_drew1 HB.out)
            clear HO_3
            clear BK192
            clear BK197
            clear HB
            have HO_3 := n0_
            have BK192 := n1_
            have BK197 := n2_
            have HB := n3_
            clear n0_ n1_ n2_ n3_
            obtain ⟨Ao26, co26, eo26⟩ := Kd.R_slice HO_3.out
            (first | subst eo26 | (injection eo26 with f1_ f2_ f3_; have f4_ := f1_.symm; have f5_ := f3_.symm; clear f1_ f2_ f3_; subst f4_; subst f5_))
            have p198 : 0 ≤ (((rd_T89 l0_1 x12_1).f0) : Int) := of_decide_eq_true (by first | (with_reducible assumption) | assumption)
            have q198 : ((rd_T89 l0_1 x12_1).f0) < (x3_1.length : Int) := of_decide_eq_true (by first | (with_reducible assumption) | assumption)
            obtain ⟨ad198, e198, hx198_0⟩ := Kd.at_int (Kd.R_reads' HO_3.out).2.2 ((rd_T89 l0_1 x12_1).f0) p198 q198
            cases e198
            replace p198 := eq_true p198
            replace q198 := eq_true q198
            have p16 : 0 ≤ (((rd_T89 l0_1 x12_1).f0) : Int) := of_decide_eq_true (by first | (with_reducible assumption) | assumption)
            have q16 : (((rd_T89 l0_1 x12_1).f0) : Int) < ((x3_1.length : Int) : Int) := of_decide_eq_true (by first | (with_reducible assumption) | assumption)
            obtain ⟨go16, co16, eo16, gb16, gl16, cl16, HG16⟩ := Kd.R_form HO_3.out (by omega)
            (first | cases eo16 | (injection eo16 with ea_ en_ ec_; (first | subst ea_ | (injection ea_ with ea_; subst ea_)); subst ec_; clear en_))
            have GB16 := Aside0.mk gb16
            have GG16 := Aside0.mk HG16
            clear gb16 gl16 HG16
            (first | simp only [add_plain] at hx198_0 | skip)
            obtain ⟨hx16_0, hf16_0⟩ := Kd.R_celln 0 HO_3.out (((rd_T89 l0_1 x12_1).f0) : Int) p16 q16
            replace p16 := eq_true p16
            replace q16 := eq_true q16
            have HP27 := Kd.R_putn HO_3.out (((rd_T89 l0_1 x12_1).f0) : Int) (Go.bits .or .u16 (rd x3_1 ((rd_T89 l0_1 x12_1).f0)) (ji15))
            rw [← Ny199.out] at HP27
            have HQ27 := Aside0.mk HP27
            clear HP27
            refine start_ (n := 11) (S := fun w' => w'.cell? ⟨gb197, 0, none⟩ = some (.int .i64 ((rd_T89 l0_1 x12_1).f0)) ∧ w'.cell? ⟨gb197, 1, none⟩ = some (.int .i64 ((rd_T89 l0_1 x12_1).f1)) ∧ w'.cell? ⟨go16, (((rd_T89 l0_1 x12_1).f0)).toNat, none⟩ = some (.int .u16 (rd x3_1 ((rd_T89 l0_1 x12_1).f0)))) (ds := [10]) (bz 11 0) (by kernel_rfl) rfl rfl ⟨(blk_cell BK197.out 0).trans rfl, (blk_cell BK197.out 1).trans rfl, hx198_0⟩ (fun hHeld => ?_); refine with_tabW impl_Party_table.tab5 impl_Party_table.bits5 (fun HT_ HW_ => ?_)
            generalize w24.drew = w25 at HO_3 BK192 BK197 HB GG16 HQ27 hf16_0 hx16_0 hx198_0 hHeld ⊢
            refine run_ [(0, 0, 1, some 16), (0, 1, 3, some 17), (0, 5, 35, some 21), (1, 2, 39, some 18), (0, 3, 47, some 19), (1, 4, 63, some 20), (1, 6, 127, some 22), (0, 7, 255, some 23), (0, 8, 511, some 24), (0, 9, 1023, some 25)] ?_
            repeat (first | (apply tag0; refine run_p (v := ?_) (a' := ?_) rfl rfl (any_of HT_.out (by kernel_rfl)) (fun _ _ _ h => h) (by rfl) ?_ ?_ ?_; rotate_left 2; (intro w'; go_simp; with_reducible rfl); (first | (simp only [Act.put, List.setIfInBounds_toArray, List.set_cons_zero, List.set_cons_succ, i64_w, i32_w]; rfl) | rfl)) | (apply tag1; refine run_t (v := ?_) (a' := ?_) rfl rfl (take_ofW HT_.out HW_.out (by kernel_rfl)) (fun _ _ _ h => h) (by rfl) ?_ hHeld ?_ ?_; rotate_left 2; (rintro w' ⟨s0, s1, s2⟩; go_simp; with_reducible rfl); (first | (simp only [Act.put, List.setIfInBounds_toArray, List.set_cons_zero, List.set_cons_succ, i64_w, i32_w]; rfl) | rfl)))
            refine run_nil ?_
            refine last_ (i := 10) (N := none) (bz 11 2047) rfl rfl (one_of HT_.out (by kernel_rfl)) (by decide) (fun K hK => ?_)
            refine skip_ (w1 := ?_) (by rfl) rfl ?_ ?_
            rotate_left
            ·go_simp
             rfl
            refine hK.out _ _ ?_
            clear hK K
            refine done_ (done_of HT_.out (by kernel_rfl)) ?_
            try go_wp2
            have n0_ : Aside0 (Kd.R (Kd.int .u16) 83 (w25.setCell ⟨go16, (((rd_T89 l0_1 x12_1).f0) : Int).toNat, none⟩ (.int .u16 (Go.bits .or .u16 (rd x3_1 ((rd_T89 l0_1 x12_1).f0)) (ji15)))) w.heap.size (fun _ => True) (.slice (some ⟨go16, 0, none⟩) x3_1.length co26) y199) := ⟨by (with_reducible repeat (first | apply Kd.R_alloc | apply Kd.R_drewN | apply Kd.R_drew)); exact HQ27.out⟩
            have n1_ : Aside0 ((w25.setCell ⟨go16, (((rd_T89 l0_1 x12_1).f0) : Int).toNat, none⟩ (.int .u16 (Go.bits .or .u16 (rd x3_1 ((rd_T89 l0_1 x12_1).f0)) (ji15)))).heap[gb192]? = some (.cells #[.int .i64 a0_0, .slice (some ad196) l0_1.length c0_1] 30 (0, 0))) := ⟨by (with_reducible repeat (first | refine blk_drewN ?_ _ | refine blk_drew ?_ | refine blk_alloc ?_ _)); refine blk_far ?_ (by have h_ := Kd.R_ne HO_3.out BK192.out (by decide); intro e_; exact h_ (by rw [e_]; rfl)) _; (with_reducible repeat (first | refine blk_drewN ?_ _ | refine blk_drew ?_ | refine blk_alloc ?_ _)); exact BK192.out⟩
            have n2_ : Aside0 ((w25.setCell ⟨go16, (((rd_T89 l0_1 x12_1).f0) : Int).toNat, none⟩ (.int .u16 (Go.bits .or .u16 (rd x3_1 ((rd_T89 l0_1 x12_1).f0)) (ji15)))).heap[gb197]? = some (.cells #[.int .i64 ((rd_T89 l0_1 x12_1).f0), .int .i64 ((rd_T89 l0_1 x12_1).f1)] 89 (0, 0))) := ⟨by (with_reducible repeat (first | refine blk_drewN ?_ _ | refine blk_drew ?_ | refine blk_alloc ?_ _)); refine blk_far ?_ (by have h_ := Kd.R_ne HO_3.out BK197.out (by decide); intro e_; exact h_ (by rw [e_]; rfl)) _; (with_reducible repeat (first | refine blk_drewN ?_ _ | refine blk_drew ?_ | refine blk_alloc ?_ _)); exact BK197.out⟩
            have n3_ : Aside0 (Below w.heap.size w (w25.setCell ⟨go16, (((rd_T89 l0_1 x12_1).f0) : Int).toNat, none⟩ (.int .u16 (Go.bits .or .u16 (rd x3_1 ((rd_T89 l0_1 x12_1).f0)) (ji15))))) := ⟨by repeat (first | (with_reducible first | exact HB.out | apply below_alloc | apply pw_below_drewN | apply below_drew1 | refine below_set ?_ GB16.out | refine below_set ?_ GE192.out | refine below_set ?_ GE197.out) | exact HB.out)⟩
            (try clear HO_3)
            (try clear BK192)
            (try clear BK197)
            (try clear HB)
            generalize (w25.setCell ⟨go16, (((rd_T89 l0_1 x12_1).f0) : Int).toNat, none⟩ (.int .u16 (Go.bits .or .u16 (rd x3_1 ((rd_T89 l0_1 x12_1).f0)) (ji15)))) = w28 at n0_ n1_ n2_ n3_ ⊢
            have HO_3 := n0_
            have BK192 := n1_
            have BK197 := n2_
            have HB := n3_
            clear n0_ n1_ n2_ n3_
            have n0_ := Aside0.mk (Kd.R_drew HO_3.out)
            have n1_ := Aside0.mk (blk_drew BK192.out)
            have n2_ := Aside0.mk (blk_drew BK197.out)
            have n3_ := Aside0.mk (below_drew1 HB.out)
            clear HO_3
            clear BK192
            clear BK197
            clear HB
            have HO_3 := n0_
            have BK192 := n1_
            have BK197 := n2_
            have HB := n3_
            clear n0_ n1_ n2_ n3_
            have p200 : 0 ≤ (((rd_T89 l0_1 x12_1).f1) : Int) := of_decide_eq_true (by first | (with_reducible assumption) | assumption)
            have q200 : ((rd_T89 l0_1 x12_1).f1) < (y199.length : Int) := (by have h_ : (((rd_T89 l0_1 x12_1).f1) : Int) < ((x3_1.length : Int) : Int) := of_decide_eq_true (by first | (with_reducible assumption) | assumption); first | (have e_ := (Kd.R_reads' HO_3.out).1; omega) | simpa only [Ny199.out, List.length_set] using h_)
            have ql200 : ((((rd_T89 l0_1 x12_1).f1) : Int) < ((x3_1.length : Int) : Int)) = True := eq_true (of_decide_eq_true (by first | (with_reducible assumption) | assumption))
            obtain ⟨ad200, e200, hx200_0⟩ := Kd.at_int (Kd.R_reads' HO_3.out).2.2 ((rd_T89 l0_1 x12_1).f1) p200 q200
            obtain rfl : (⟨go16, 0, none⟩ : Addr) = ad200 := (by injection e200)
            (first | simp only [add_plain] at hx200_0 | simp only [add_at] at hx200_0 | simp only [Addr.add, Nat.zero_add] at hx200_0 | skip)
            replace p200 := eq_true p200
            replace q200 := eq_true q200
            have p20 : 0 ≤ (((rd_T89 l0_1 x12_1).f1) : Int) := of_decide_eq_true (by first | (with_reducible assumption) | assumption)
            have q20 : (((rd_T89 l0_1 x12_1).f1) : Int) < ((x3_1.length : Int) : Int) := of_decide_eq_true (by first | (with_reducible assumption) | assumption)
            obtain ⟨hx20_0, hf20_0⟩ := Kd.R_celln 0 HO_3.out (((rd_T89 l0_1 x12_1).f1) : Int) p20 q20
            replace p20 := eq_true p20
            replace q20 := eq_true q20
            have HP30 := Kd.R_putn HO_3.out (((rd_T89 l0_1 x12_1).f1) : Int) (Go.bits .or .u16 (rd y199 ((rd_T89 l0_1 x12_1).f1)) (ji19))
            rw [← Ny201.out] at HP30
            have HQ30 := Aside0.mk HP30
            clear HP30
            refine start_ (n := 11) (S := fun w' => w'.cell? ⟨gb197, 0, none⟩ = some (.int .i64 ((rd_T89 l0_1 x12_1).f0)) ∧ w'.cell? ⟨gb197, 1, none⟩ = some (.int .i64 ((rd_T89 l0_1 x12_1).f1)) ∧ w'.cell? ⟨go16, (((rd_T89 l0_1 x12_1).f1)).toNat, none⟩ = some (.int .u16 (rd y199 ((rd_T89 l0_1 x12_1).f1)))) (ds := [10]) (bz 11 0) (by kernel_rfl) rfl rfl ⟨(blk_cell BK197.out 0).trans rfl, (blk_cell BK197.out 1).trans rfl, hx200_0⟩ (fun hHeld => ?_); refine with_tabW impl_Party_table.tab6 impl_Party_table.bits6 (fun HT_ HW_ => ?_)
            generalize w28.drew = w29 at HO_3 BK192 BK197 HB HQ27 HQ30 hf20_0 hx200_0 hx20_0 hHeld ⊢
            refine run_ [(0, 0, 1, some 26), (0, 1, 3, some 27), (0, 5, 35, some 31), (1, 2, 39, some 28), (0, 3, 47, some 29), (1, 4, 63, some 30), (1, 6, 127, some 32), (0, 7, 255, some 33), (0, 8, 511, some 34), (0, 9, 1023, some 35)] ?_
            repeat (first | (apply tag0; refine run_p (v := ?_) (a' := ?_) rfl rfl (any_of HT_.out (by kernel_rfl)) (fun _ _ _ h => h) (by rfl) ?_ ?_ ?_; rotate_left 2; (intro w'; go_simp; with_reducible rfl); (first | (simp only [Act.put, List.setIfInBounds_toArray, List.set_cons_zero, List.set_cons_succ, i64_w, i32_w]; rfl) | rfl)) | (apply tag1; refine run_t (v := ?_) (a' := ?_) rfl rfl (take_ofW HT_.out HW_.out (by kernel_rfl)) (fun _ _ _ h => h) (by rfl) ?_ hHeld ?_ ?_; rotate_left 2; (rintro w' ⟨s0, s1, s2⟩; go_simp; with_reducible rfl); (first | (simp only [Act.put, List.setIfInBounds_toArray, List.set_cons_zero, List.set_cons_succ, i64_w, i32_w]; rfl) | rfl)))
            refine run_nil ?_
            refine last_ (i := 10) (N := none) (bz 11 2047) rfl rfl (one_of HT_.out (by kernel_rfl)) (by decide) (fun K hK => ?_)
            refine skip_ (w1 := ?_) (by rfl) rfl ?_ ?_
            rotate_left
            ·go_simp
             rfl
            refine hK.out _ _ ?_
            clear hK K
            refine done_ (done_of HT_.out (by kernel_rfl)) ?_
            try go_wp2
            go_roundg k1
            case measure => have := HK1.out; omega
            case rel => exact ⟨(y201), (wrap64 (x12_1 + 1)), (by first | rfl | (simp; done) | (simp [*]; done)), H', ⟨by have := HK1.out; omega⟩, ⟨by (with_reducible repeat (first | apply Kd.R_alloc | apply Kd.R_drewN | apply Kd.R_drew)); exact HQ30.out⟩, ⟨by (with_reducible repeat (first | refine blk_drewN ?_ _ | refine blk_drew ?_ | refine blk_alloc ?_ _)); refine blk_far ?_ (by have h_ := Kd.R_ne HO_3.out BK192.out (by decide); intro e_; exact h_ (by rw [e_]; rfl)) _; (with_reducible repeat (first | refine blk_drewN ?_ _ | refine blk_drew ?_ | refine blk_alloc ?_ _)); exact BK192.out⟩, ⟨by repeat (first | (with_reducible first | exact HB.out | apply below_alloc | apply pw_below_drewN | apply below_drew1 | refine below_set ?_ GB16.out | refine below_set ?_ GE192.out | refine below_set ?_ GE197.out) | exact HB.out)⟩⟩
           ·rw [if_neg c17] at H
            exact absurd H (by simp)
          ·rw [if_neg c14] at H
           exact absurd H (by simp)
         ·rw [if_neg c13] at H
          exact absurd H (by simp)
        ·rw [if_neg c12] at H
         exact absurd H (by simp)
       ·rw [if_neg c11] at H
        exact absurd H (by simp)
      ·rw [if_neg c10] at H
       exact absurd H (by simp)
     ·rw [if_neg c9] at H
      have c9b0 : decide (x12_1 < (l0_1.length : Int)) = false := decide_eq_false c9
      clear c9
      obtain rfl := Option.some.inj H
      go_wp2
      go_ret
      exact ⟨_, by first | rfl | (simp [errW_none, errW_some] <;> rfl) | (simp [*, errW_none, errW_some] <;> rfl), by (with_reducible repeat (first | apply Kd.R_alloc | apply Kd.R_drewN | apply Kd.R_drew)); exact HO_3.out, hB⟩
  ·rw [if_neg c3] at H
   exact absurd H (by simp)
 ·rw [if_neg c2] at H
  exact absurd H (by simp)

/-! ### bits_OnesCount16: function 96 (a text of this session's own) -/
def bits_OnesCount16.f (a0 : Int) : Option Int := if 0 ≤ a0 ∧ a0 < 65536 then some ((popN 16 a0.toNat : Nat) : Int) else none
set_option maxRecDepth 100000 in
set_option maxHeartbeats 1000000 in
theorem bits_OnesCount16.calls (a0 : Int) (r : Int) (w : World) (h : bits_OnesCount16.f a0 = some r) :
    Calls Tryd.prog 96 #[.int .u16 a0] w fun e w' => e = .returned (.int .i64 r) ∧ Drawn0 w w' := by
  unfold bits_OnesCount16.f at h
  by_cases hx : 0 ≤ a0 ∧ a0 < 65536
  · rw [if_pos hx] at h
    obtain rfl := Option.some.inj h
    clear h
    obtain ⟨x, rfl⟩ := Int.eq_ofNat_of_zero_le hx.1
    have hd : (x : Int) / 256 = ((x / 256 : Nat) : Int) := by omega
    have ha : Go.bits .and .u16 (x : Int) 255 = ((x % 256 : Nat) : Int) := by
      have := u16_and_nat x 255 (by omega) (by omega)
      rw [show ((255 : Nat) : Int) = 255 from rfl] at this
      rw [this, show (255 : Nat) = 2 ^ 8 - 1 from rfl, Nat.and_two_pow_sub_one_eq_mod]
    have h1 : (0 : Int) ≤ ((x / 256 : Nat) : Int) := by omega
    have h2 : ((x / 256 : Nat) : Int) < 256 := by omega
    have h3 : (0 : Int) ≤ ((x % 256 : Nat) : Int) := by omega
    have h4 : ((x % 256 : Nat) : Int) < 256 := by omega
    have HE : Aside0 ((Go.Lib.pop8 ((x / 256 : Nat) : Int) + Go.Lib.pop8 ((x % 256 : Nat) : Int)) % 256 = ((popN 16 (x : Int).toNat : Nat) : Int)) := ⟨by
      rw [Int.toNat_natCast]
      rw [popN_byte _ (by omega), popN_byte _ (by omega), popN_split]
      have := popN_le 8 (x / 256)
      have := popN_le 8 (x % 256)
      omega⟩
    clear hx
    generalize ((x / 256 : Nat) : Int) = hi at *
    generalize ((x % 256 : Nat) : Int) = lo at *
    have hs := Go.Lib.pop8tab_size
    have hp : ∀ (i : Int) (h : i.toNat < Go.Lib.pop8tab.size), ((Go.Lib.pop8tab[i.toNat]'h).toNat : Int) = Go.Lib.pop8 i := fun i h => by simp [Go.Lib.pop8, h]
    have hp1 := hp hi
    have hp2 := hp lo
    clear hp
    have b1 : hi < (Go.Lib.pop8tab.size : Int) := by rw [hs]; exact h2
    have b2 : lo < (Go.Lib.pop8tab.size : Int) := by rw [hs]; exact h4
    clear hs
    go_enter Tryd.func96, Tryd.ntmps96
    go_wp2
    go_quiet (fail)
    go_wp2
    go_ret
    exact ⟨by rw [← HE.out]; rfl, by repeat (first | exact Drawn0.refl _ | apply Drawn0.step)⟩
  · rw [if_neg hx] at h; cases h

/-! ### bits_TrailingZeros16: function 97 (a text of this session's own) -/
def bits_TrailingZeros16.f (a0 : Int) : Option Int := if 0 ≤ a0 ∧ a0 < 65536 then some (ctz16 a0) else none
theorem bits_TrailingZeros16.calls (a0 : Int) (r : Int) (w : World) (h : bits_TrailingZeros16.f a0 = some r) (hG : GTab 0 w := by first | exact Aside0.out ‹Aside0 (GTab _ _)› | exact GTab.up (Aside0.out ‹Aside0 (GTab _ _)›) (by repeat (first | (with_reducible first | exact Below.refl _ _ | exact Aside0.out ‹Aside0 (Below _ _ _)› | apply below_alloc | apply pw_below_drewN | apply below_drew1 | refine below_set ?_ (Aside0.out (by assumption))) | exact Aside0.out ‹Aside0 (Below _ _ _)›))) :
    Calls Tryd.prog 97 #[.int .u16 a0] w fun e w' => e = .returned (.int .i64 r) ∧ Drawn0 w w' := by
  unfold bits_TrailingZeros16.f at h
  by_cases hx : 0 ≤ a0 ∧ a0 < 65536
  · rw [if_pos hx] at h
    obtain rfl := Option.some.inj h
    clear h
    obtain ⟨x, rfl⟩ := Int.eq_ofNat_of_zero_le hx.1
    by_cases h0 : x = 0
    · subst h0
      clear hG hx
      go_enter Tryd.func97, Tryd.ntmps97
      go_wp2
      go_ret
      exact ⟨rfl, ⟨0, rfl⟩⟩
    · obtain ⟨idx, key, hi, htab, hk⟩ := tz16_key x (by omega) h0
      have hk1 : ((Go.Lib.ctz 16 x : Nat) : Int) ≤ 15 := by omega
      have hk2 : (0 : Int) ≤ ((Go.Lib.ctz 16 x : Nat) : Int) := by omega
      clear hk
      have hcell := hG idx hi
      rw [htab] at hcell
      have hx0 : ((x : Int) == 0) = false := by simp; omega
      have h1 : (0 : Int) ≤ (idx : Int) := by omega
      have h2 : (idx : Int) < 32 := by omega
      have HC : Aside0 (ctz16 (x : Int) = ((Go.Lib.ctz 16 x : Nat) : Int)) := ⟨by simp [ctz16]⟩
      clear hG htab h0 hx
      go_enter Tryd.func97, Tryd.ntmps97
      go_wp2
      go_ret
      exact ⟨by rw [HC.out]; rfl, ⟨0, rfl⟩⟩
  · rw [if_neg hx] at h; cases h

/-! ### impl_table_hasGroup: function 55 -/
mutual
def impl_table_hasGroup.l0 : Nat → List Int → Int → Int → Option (Bool)
 | 0, _, _, _ => none
 | k + 1, x0, x1, x2 => (bits_OnesCount16.f x1).bind fun t202 => (if t202 ≥ x2 then ((bits_TrailingZeros16.f x1).bind fun t203 => (if 0 ≤ t203 then (if t203 < (x0.length : Int) then ((impl_table_hasGroup.f k x0 (Go.bits .andNot .u16 (Go.bits .and .u16 x1 (rd x0 t203)) (Go.bits .and .u16 x1 (IntKind.u16.wrap (-x1)))) (wrap64 (x2 - 1))).bind fun t205 => (if t205 = true then (some true) else (impl_table_hasGroup.l0 k x0 (Go.bits .and .u16 x1 (IntKind.u16.wrap (x1 - 1))) x2))) else (none)) else (none))) else (some false))
def impl_table_hasGroup.f : Nat → List Int → Int → Int → Option (Bool)
 | 0, _, _, _ => none
 | k + 1, l0, a1, a2 => if a2 ≤ 0 then (some true) else (impl_table_hasGroup.l0 k l0 a1 a2)
end
theorem impl_table_hasGroup.mono_l : ∀ k, (∀ y0 y1 y2, LeO (impl_table_hasGroup.f k y0 y1 y2) (impl_table_hasGroup.f (k + 1) y0 y1 y2)) ∧ (∀ y0 y1 y2, LeO (impl_table_hasGroup.l0 k y0 y1 y2) (impl_table_hasGroup.l0 (k + 1) y0 y1 y2))
 | 0 => ⟨fun _ _ _ r h => by simp [impl_table_hasGroup.f] at h, fun _ _ _ r h => by simp [impl_table_hasGroup.l0] at h⟩
 | k + 1 => by
  obtain ⟨ih0, ih1⟩ := impl_table_hasGroup.mono_l k
  refine ⟨?_, ?_⟩
  ·intro y0 y1 y2
   unfold impl_table_hasGroup.f
   repeat' first
   | (with_reducible exact ih0 _ _ _)
   | (with_reducible exact ih1 _ _ _)
   | (with_reducible exact LeO.refl _)
   | (with_reducible exact LeO.none _)
   | (with_reducible refine LeO.ite ?_ ?_)
   | (with_reducible refine LeO.bind ?_ (fun _ => ?_))
   | exact ih0 _ _ _
   | exact ih1 _ _ _
   | exact LeO.none _
   | refine LeO.ite ?_ ?_
   | refine LeO.bind ?_ (fun _ => ?_)
  ·intro y0 y1 y2
   unfold impl_table_hasGroup.l0
   repeat' first
   | (with_reducible exact ih0 _ _ _)
   | (with_reducible exact ih1 _ _ _)
   | (with_reducible exact LeO.refl _)
   | (with_reducible exact LeO.none _)
   | (with_reducible refine LeO.ite ?_ ?_)
   | (with_reducible refine LeO.bind ?_ (fun _ => ?_))
   | exact ih0 _ _ _
   | exact ih1 _ _ _
   | exact LeO.none _
   | refine LeO.ite ?_ ?_
   | refine LeO.bind ?_ (fun _ => ?_)
theorem impl_table_hasGroup.mono : ∀ a0 a1 a2 k, LeO (impl_table_hasGroup.f k a0 a1 a2) (impl_table_hasGroup.f (k + 1) a0 a1 a2) := by
 intro a0 a1 a2 k
 obtain ⟨ih0, ih1⟩ := impl_table_hasGroup.mono_l k
 exact ih0 a0 a1 a2
set_option maxHeartbeats 8000000 in
set_option maxRecDepth 100000 in
theorem impl_table_hasGroup.calls (k : Nat) : ∀ (A0 : Option Addr) (c0 : Nat) (l0 : List Int) (a1 : Int) (a2 : Int) (r : Bool) (w : World) (hr0 : Kd.C (Kd.int .u16) w A0 l0.length l0) (hc0 : l0.length ≤ c0) (h : impl_table_hasGroup.f k l0 a1 a2 = some r) (hG : GTab 0 w := by first | exact Aside0.out ‹Aside0 (GTab _ _)› | exact GTab.up (Aside0.out ‹Aside0 (GTab _ _)›) (by repeat (first | (with_reducible first | exact Below.refl _ _ | exact Aside0.out ‹Aside0 (Below _ _ _)› | apply below_alloc | apply pw_below_drewN | apply below_drew1 | refine below_set ?_ (Aside0.out (by assumption))) | exact Aside0.out ‹Aside0 (Below _ _ _)›))),
  Calls Tryd.prog 55 #[.slice A0 l0.length c0, .int .u16 a1, .int .i64 a2] w fun e w' => e = .returned (.bool r) ∧ Drawn0 w w' := by
 induction k using Nat.strongRecOn with
 | _ k ih =>
 intro A0 c0 l0 a1 a2 r w hr0 hc0 h hG
 cases k with
 | zero => exact absurd h (by simp [impl_table_hasGroup.f])
 | succ k =>
 simp only [impl_table_hasGroup.f] at h
 have HG := Aside0.mk (p := GTab _ _) hG
 clear hG
 have HR0 := Aside0.mk hr0
 have HC0 := Aside0.mk hc0
 clear hr0 hc0
 have H : (if a2 ≤ 0 then (some true) else (impl_table_hasGroup.l0 k l0 a1 a2)) = some r := h
 clear h
 by_cases c4 : a2 ≤ 0
 ·rw [if_pos c4] at H
  have c4b0 : decide (a2 ≤ 0) = true := decide_eq_true c4
  clear c4
  obtain rfl := Option.some.inj H
  go_enter Tryd.func55, Tryd.ntmps55
  go_wp2
  go_ret
  exact ⟨by first | rfl | (simp; done) | (simp [*]; done), by repeat (first | exact Drawn0.refl _ | apply Drawn0.step)⟩
 ·rw [if_neg c4] at H
  have c4b0 : decide (a2 ≤ 0) = false := decide_eq_false c4
  clear c4
  have H' := Aside0.mk H
  clear H
  go_enter Tryd.func55, Tryd.ntmps55
  go_wp2
  go_loopg [1] k (fun kq v1 w' => ∃ (x1_1 : Int), v1 = .int .u16 x1_1 ∧ Aside0 (impl_table_hasGroup.l0 kq l0 x1_1 a2 = some r) ∧ Aside0 (kq ≤ k) ∧ Drawn0 w w')
  case atStart => exact ⟨(a1), (by first | rfl | (simp; done) | (simp [*]; done)), H', ⟨Nat.le_refl _⟩, by repeat (first | exact Drawn0.refl _ | apply Drawn0.step)⟩
  case round =>
   clear H'
   try clear p2
   try clear c4
   try clear c4b0
   obtain ⟨x1_1, rfl, HA, HK1, ⟨m1, rfl⟩⟩ := hrel
   cases gk with
   | zero => exact absurd HA.out (by simp [impl_table_hasGroup.l0])
   | succ k1 =>
    have H := HA.out
    clear HA
    simp only [impl_table_hasGroup.l0] at H
    replace H := Option.bind_eq_some_iff.mp H
    obtain ⟨t202, A50, H⟩ := H
    replace H : (if t202 ≥ a2 then ((bits_TrailingZeros16.f x1_1).bind fun t203 => (if 0 ≤ t203 then (if t203 < (l0.length : Int) then ((impl_table_hasGroup.f k1 l0 (Go.bits .andNot .u16 (Go.bits .and .u16 x1_1 (rd l0 t203)) (Go.bits .and .u16 x1_1 (IntKind.u16.wrap (-x1_1)))) (wrap64 (a2 - 1))).bind fun t205 => (if t205 = true then (some true) else (impl_table_hasGroup.l0 k1 l0 (Go.bits .and .u16 x1_1 (IntKind.u16.wrap (x1_1 - 1))) a2))) else (none)) else (none))) else (some false)) = some r := H
    have A5 := Aside0.mk A50
    clear A50
    by_cases c6 : t202 ≥ a2
    ·rw [if_pos c6] at H
     have c6b0 : decide (a2 ≤ t202) = true := decide_eq_true c6
     clear c6
     replace H := Option.bind_eq_some_iff.mp H
     obtain ⟨t203, A70, H⟩ := H
     replace H : (if 0 ≤ t203 then (if t203 < (l0.length : Int) then ((impl_table_hasGroup.f k1 l0 (Go.bits .andNot .u16 (Go.bits .and .u16 x1_1 (rd l0 t203)) (Go.bits .and .u16 x1_1 (IntKind.u16.wrap (-x1_1)))) (wrap64 (a2 - 1))).bind fun t205 => (if t205 = true then (some true) else (impl_table_hasGroup.l0 k1 l0 (Go.bits .and .u16 x1_1 (IntKind.u16.wrap (x1_1 - 1))) a2))) else (none)) else (none)) = some r := H
     have A7 := Aside0.mk A70
     clear A70
     by_cases c8 : 0 ≤ t203
     ·rw [if_pos c8] at H
      have c8b0 : decide (0 ≤ t203) = true := decide_eq_true c8
      clear c8
      by_cases c9 : t203 < (l0.length : Int)
      ·rw [if_pos c9] at H
       have c9b0 : decide (t203 < (l0.length : Int)) = true := decide_eq_true c9
       clear c9
       replace H := Option.bind_eq_some_iff.mp H
       obtain ⟨t205, A100, H⟩ := H
       replace H : (if t205 = true then (some true) else (impl_table_hasGroup.l0 k1 l0 (Go.bits .and .u16 x1_1 (IntKind.u16.wrap (x1_1 - 1))) a2)) = some r := H
       have A10 := Aside0.mk A100
       clear A100
       by_cases c11 : t205 = true
       ·subst c11
        have H1 : (some true) = some r := by rw [if_pos rfl] at H; exact H
        clear H
        have H := H1
        clear H1
        obtain rfl := Option.some.inj H
        go_wp2_with (first | ((with_reducible refine gate_callee (f := 96) rfl ?_); refine goesL_ (some 10) rfl rfl Tryd.func96 (by kernel_rfl) rfl #[.int .u16 x1_1] rfl mapT ?_; (with_reducible refine (bits_OnesCount16.calls x1_1 t202 _ A5.out).mono ?_); rintro e w' ⟨rfl, ⟨nd, rfl⟩⟩; refine ⟨_, rfl, ?_⟩) | ((with_reducible refine gate_callee (f := 97) rfl ?_); refine goesL_ (some 21) rfl rfl Tryd.func97 (by kernel_rfl) rfl #[.int .u16 x1_1] rfl mapT ?_; (with_reducible refine (bits_TrailingZeros16.calls x1_1 t203 _ A7.out).mono ?_); rintro e w' ⟨rfl, ⟨nd, rfl⟩⟩; refine ⟨_, rfl, ?_⟩; have p204 : 0 ≤ (t203 : Int) := of_decide_eq_true (by first | (with_reducible assumption) | assumption); have q204 : t203 < (l0.length : Int) := of_decide_eq_true (by first | (with_reducible assumption) | assumption); obtain ⟨ad204, e204, hx204_0⟩ := Kd.at_int HR0.out t203 p204 q204; cases e204; replace p204 := eq_true p204; replace q204 := eq_true q204) | ((with_reducible refine gate_callee (f := 55) rfl ?_); refine goesL_ (some 32) rfl rfl Tryd.func55 (by kernel_rfl) rfl #[.slice (some ad204) l0.length c0, .int .u16 (Go.bits .andNot .u16 (Go.bits .and .u16 x1_1 (rd l0 t203)) (Go.bits .and .u16 x1_1 (IntKind.u16.wrap (-x1_1)))), .int .i64 (wrap64 (a2 - 1))] rfl mapT ?_; (with_reducible refine (ih k1 (by have := HK1.out; omega) _ _ l0 (Go.bits .andNot .u16 (Go.bits .and .u16 x1_1 (rd l0 t203)) (Go.bits .and .u16 x1_1 (IntKind.u16.wrap (-x1_1)))) (wrap64 (a2 - 1)) true _ ?side1 ?side2 A10.out).mono ?_); (case side1 => repeat (first | exact HR0.out | (with_reducible refine Kd.C_alloc ?_ _) | (with_reducible refine Kd.C_drewN ?_ _) | (with_reducible refine Kd.C_drew ?_))); (case side2 => exact HC0.out); rintro e w' ⟨rfl, ⟨nd, rfl⟩⟩; refine ⟨_, rfl, ?_⟩))
        go_ret
        exact ⟨by first | rfl | (simp; done) | (simp [*]; done), by repeat (first | exact Drawn0.refl _ | apply Drawn0.step)⟩
       ·replace c11 := Bool.eq_false_iff.mpr c11
        subst c11
        have H1 : (impl_table_hasGroup.l0 k1 l0 (Go.bits .and .u16 x1_1 (IntKind.u16.wrap (x1_1 - 1))) a2) = some r := by rw [if_neg (show ¬ (false = true) by decide)] at H; exact H
        clear H
        have H := H1
        clear H1
        have H' := Aside0.mk H
        clear H
        go_wp2_with (first | ((with_reducible refine gate_callee (f := 96) rfl ?_); refine goesL_ (some 10) rfl rfl Tryd.func96 (by kernel_rfl) rfl #[.int .u16 x1_1] rfl mapT ?_; (with_reducible refine (bits_OnesCount16.calls x1_1 t202 _ A5.out).mono ?_); rintro e w' ⟨rfl, ⟨nd, rfl⟩⟩; refine ⟨_, rfl, ?_⟩) | ((with_reducible refine gate_callee (f := 97) rfl ?_); refine goesL_ (some 21) rfl rfl Tryd.func97 (by kernel_rfl) rfl #[.int .u16 x1_1] rfl mapT ?_; (with_reducible refine (bits_TrailingZeros16.calls x1_1 t203 _ A7.out).mono ?_); rintro e w' ⟨rfl, ⟨nd, rfl⟩⟩; refine ⟨_, rfl, ?_⟩; have p204 : 0 ≤ (t203 : Int) := of_decide_eq_true (by first | (with_reducible assumption) | assumption); have q204 : t203 < (l0.length : Int) := of_decide_eq_true (by first | (with_reducible assumption) | assumption); obtain ⟨ad204, e204, hx204_0⟩ := Kd.at_int HR0.out t203 p204 q204; cases e204; replace p204 := eq_true p204; replace q204 := eq_true q204) | ((with_reducible refine gate_callee (f := 55) rfl ?_); refine goesL_ (some 32) rfl rfl Tryd.func55 (by kernel_rfl) rfl #[.slice (some ad204) l0.length c0, .int .u16 (Go.bits .andNot .u16 (Go.bits .and .u16 x1_1 (rd l0 t203)) (Go.bits .and .u16 x1_1 (IntKind.u16.wrap (-x1_1)))), .int .i64 (wrap64 (a2 - 1))] rfl mapT ?_; (with_reducible refine (ih k1 (by have := HK1.out; omega) _ _ l0 (Go.bits .andNot .u16 (Go.bits .and .u16 x1_1 (rd l0 t203)) (Go.bits .and .u16 x1_1 (IntKind.u16.wrap (-x1_1)))) (wrap64 (a2 - 1)) false _ ?side1 ?side2 A10.out).mono ?_); (case side1 => repeat (first | exact HR0.out | (with_reducible refine Kd.C_alloc ?_ _) | (with_reducible refine Kd.C_drewN ?_ _) | (with_reducible refine Kd.C_drew ?_))); (case side2 => exact HC0.out); rintro e w' ⟨rfl, ⟨nd, rfl⟩⟩; refine ⟨_, rfl, ?_⟩))
        go_roundg k1
        case measure => have := HK1.out; omega
        case rel => exact ⟨(Go.bits .and .u16 x1_1 (IntKind.u16.wrap (x1_1 - 1))), (by first | rfl | (simp; done) | (simp [*]; done)), H', ⟨by have := HK1.out; omega⟩, by repeat (first | exact Drawn0.refl _ | apply Drawn0.step)⟩
      ·rw [if_neg c9] at H
       exact absurd H (by simp)
     ·rw [if_neg c8] at H
      exact absurd H (by simp)
    ·rw [if_neg c6] at H
     have c6b0 : decide (a2 ≤ t202) = false := decide_eq_false c6
     clear c6
     obtain rfl := Option.some.inj H
     go_wp2_with (first | ((with_reducible refine gate_callee (f := 96) rfl ?_); refine goesL_ (some 10) rfl rfl Tryd.func96 (by kernel_rfl) rfl #[.int .u16 x1_1] rfl mapT ?_; (with_reducible refine (bits_OnesCount16.calls x1_1 t202 _ A5.out).mono ?_); rintro e w' ⟨rfl, ⟨nd, rfl⟩⟩; refine ⟨_, rfl, ?_⟩))
     go_ret
     exact ⟨by first | rfl | (simp; done) | (simp [*]; done), by repeat (first | exact Drawn0.refl _ | apply Drawn0.step)⟩

/-! ### impl_table_all: function 56 -/
def impl_table_all.f (l0 : List Int) : Option (Int) := some (IntKind.u16.wrap ((shl .u16 1 (l0.length : Int)) - 1))
set_option maxHeartbeats 8000000 in
set_option maxRecDepth 100000 in
theorem impl_table_all.calls (A0 : Option Addr) (c0 : Nat) (l0 : List Int) (r : Int) (w : World) (hr0 : Kd.C (Kd.int .u16) w A0 l0.length l0) (hc0 : l0.length ≤ c0) (h : impl_table_all.f l0 = some r) :
  Calls Tryd.prog 56 #[.slice A0 l0.length c0] w fun e w' => e = .returned (.int .u16 r) ∧ Drawn0 w w' := by
 have HR0 := Aside0.mk hr0
 have HC0 := Aside0.mk hc0
 clear hr0 hc0
 have H : (some (IntKind.u16.wrap ((shl .u16 1 (l0.length : Int)) - 1))) = some r := h
 clear h
 obtain ⟨ji2, hji2⟩ : ∃ j_ : Int, (shl .u16 1 (l0.length : Int)) = j_ := ⟨_, rfl⟩
 replace H : (some (IntKind.u16.wrap ((ji2) - 1))) = some r := by first | (rw [hji2] at H; exact H) | (simp only [hji2] at H ⊢; exact H)
 have hji2_ : (IntKind.u16.wrap (1 * 2 ^ min (l0.length : Int).toNat 16)) = ji2 := hji2
 have hji2z : (l0.length : Int) ≤ 16 → (IntKind.u16.wrap (1 * 2 ^ (l0.length : Int).toNat)) = ji2 := shl_small hji2
 have hji2p : (IntKind.u16.wrap (1 * 2 ^ min l0.length 16)) = ji2 := hji2_
 have hji2q : (l0.length : Int) ≤ 16 → (IntKind.u16.wrap (1 * 2 ^ l0.length)) = ji2 := hji2z
 have hji2r : (IntKind.u16.wrap (2 ^ min l0.length 16)) = ji2 := by have h_ := hji2p; rw [Int.one_mul] at h_; exact h_
 have hji2s : (l0.length : Int) ≤ 16 → (IntKind.u16.wrap (2 ^ l0.length)) = ji2 := fun hle_ => by have h_ := hji2q hle_; rw [Int.one_mul] at h_; exact h_
 have hji2u : (IntKind.u16.wrap (2 ^ min (l0.length : Int).toNat 16)) = ji2 := by have h_ := hji2_; rw [Int.one_mul] at h_; exact h_
 have hji2v : (l0.length : Int) ≤ 16 → (IntKind.u16.wrap (2 ^ (l0.length : Int).toNat)) = ji2 := fun hle_ => by have h_ := hji2z hle_; rw [Int.one_mul] at h_; exact h_
 obtain rfl := Option.some.inj H
 go_enter Tryd.func56, Tryd.ntmps56
 go_wp2
 go_ret
 exact ⟨by first | rfl | (simp; done) | (simp only [← hji2] <;> (first | rfl | simp)) | (simp [*]; done), by repeat (first | exact Drawn0.refl _ | apply Drawn0.step)⟩

/-! ### impl_LacksGroup: function 17 -/
def impl_LacksGroup.j0 : Nat → Int → Bool → Int → List (S89) → Option (Bool × Bool)
 | 0, _, _, _, _ => none
 | k + 1, x1, x13, x207000, x207001 => if x13 = true then (some (false, false)) else ((impl_Party_table.f k x207000 x207001).bind fun t209 => ((impl_Party_table.f k x207000 x207001).bind fun t212 => ((impl_table_all.f t212).bind fun t215 => ((impl_table_hasGroup.f k t209 t215 x1).bind fun t216 => (some (!t216, true))))))
def impl_LacksGroup.f (k : Nat) (a0_0 : Int) (l0_1 : List (S89)) (a1 : Int) : Option (Bool × Bool) := (impl_IsParty.f k a0_0 l0_1).bind fun t207 => (if t207 = true then ((impl_within.f a1 1 12).bind fun t208 => (impl_LacksGroup.j0 k a1 (!t208) a0_0 l0_1)) else (impl_LacksGroup.j0 k a1 true a0_0 l0_1))
theorem impl_LacksGroup.mono_l : ∀ k, (∀ y0 y1 y2 y3, LeO (impl_LacksGroup.j0 k y0 y1 y2 y3) (impl_LacksGroup.j0 (k + 1) y0 y1 y2 y3))
 | 0 => fun _ _ _ _ r h => by simp [impl_LacksGroup.j0] at h
 | k + 1 => by
  have ih0 := impl_LacksGroup.mono_l k
  ·intro y0 y1 y2 y3
   unfold impl_LacksGroup.j0
   repeat' first
   | (with_reducible exact ih0 _ _ _ _)
   | (with_reducible exact impl_IsParty.mono _ _ _)
   | (with_reducible exact impl_Party_table.mono _ _ _)
   | (with_reducible exact impl_table_hasGroup.mono _ _ _ _)
   | (with_reducible exact LeO.refl _)
   | (with_reducible exact LeO.none _)
   | (with_reducible refine LeO.ite ?_ ?_)
   | (with_reducible refine LeO.bind ?_ (fun _ => ?_))
   | exact ih0 _ _ _ _
   | exact impl_IsParty.mono _ _ _
   | exact impl_Party_table.mono _ _ _
   | exact impl_table_hasGroup.mono _ _ _ _
   | exact LeO.none _
   | refine LeO.ite ?_ ?_
   | refine LeO.bind ?_ (fun _ => ?_)
theorem impl_LacksGroup.mono : ∀ a0 a1 a2 k, LeO (impl_LacksGroup.f k a0 a1 a2) (impl_LacksGroup.f (k + 1) a0 a1 a2) := by
 intro a0 a1 a2 k
 have ih0 := impl_LacksGroup.mono_l k
 unfold impl_LacksGroup.f
 repeat' first
   | (with_reducible exact ih0 _ _ _ _)
   | (with_reducible exact impl_IsParty.mono _ _ _)
   | (with_reducible exact impl_Party_table.mono _ _ _)
   | (with_reducible exact impl_table_hasGroup.mono _ _ _ _)
   | (with_reducible exact LeO.refl _)
   | (with_reducible exact LeO.none _)
   | (with_reducible refine LeO.ite ?_ ?_)
   | (with_reducible refine LeO.bind ?_ (fun _ => ?_))
   | exact ih0 _ _ _ _
   | exact impl_IsParty.mono _ _ _
   | exact impl_Party_table.mono _ _ _
   | exact impl_table_hasGroup.mono _ _ _ _
   | exact LeO.none _
   | refine LeO.ite ?_ ?_
   | refine LeO.bind ?_ (fun _ => ?_)
def impl_LacksGroup.T3 : Bool × List (List Nat × List Nat) := (true, [([], []), ([0], [0]), ([], []), ([2, 1], [2]), ([3, 3], [3]), ([], []), ([1, 4, 5, 4], [1, 4, 5]), ([6], [6]), ([7, 6, 0, 1, 2, 3, 4, 5, 6, 7], [7]), ([8, 0, 1, 2, 3, 4, 5, 6, 7, 8], [])])
def impl_LacksGroup.B3 : List Nat := [0, 1, 0, 7, 15, 0, 63, 127, 255, 511]
theorem impl_LacksGroup.tab3 : rtab .any (opsOf Tryd.f17 3) = impl_LacksGroup.T3 := by kernel_rfl
theorem impl_LacksGroup.bits3 : waitsOk impl_LacksGroup.T3.2 impl_LacksGroup.B3 = true := by kernel_rfl
set_option maxHeartbeats 8000000 in
set_option maxRecDepth 100000 in
theorem impl_LacksGroup.calls (k : Nat) (a0_0 : Int) (A0_1 : Option Addr) (c0_1 : Nat) (l0_1 : List (S89)) (a1 : Int) (r1 : Bool) (r2 : Bool) (w : World) (hr0_1 : Kd.C k89 w A0_1 l0_1.length l0_1) (hc0_1 : l0_1.length ≤ c0_1) (h : impl_LacksGroup.f k a0_0 l0_1 a1 = some (r1, r2)) (hG : GTab 0 w := by first | exact Aside0.out ‹Aside0 (GTab _ _)› | exact GTab.up (Aside0.out ‹Aside0 (GTab _ _)›) (by repeat (first | (with_reducible first | exact Below.refl _ _ | exact Aside0.out ‹Aside0 (Below _ _ _)› | apply below_alloc | apply pw_below_drewN | apply below_drew1 | refine below_set ?_ (Aside0.out (by assumption))) | exact Aside0.out ‹Aside0 (Below _ _ _)›))) :
  Calls Tryd.prog 17 #[.agg #[.int .i64 a0_0, .slice A0_1 l0_1.length c0_1], .int .i64 a1] w fun e w' => e = .returned (.tuple #[.bool r1, .bool r2]) ∧ Below w.heap.size w w' := by
 have hu30 := Tryd.underlying30
 have HG := Aside0.mk (p := GTab _ _) hG
 clear hG
 have HR0_1 := Aside0.mk hr0_1
 have HC0_1 := Aside0.mk hc0_1
 clear hr0_1 hc0_1
 have HB := Aside0.mk (Below.refl w.heap.size w)
 have H : ((impl_IsParty.f k a0_0 l0_1).bind fun t207 => (if t207 = true then ((impl_within.f a1 1 12).bind fun t208 => (impl_LacksGroup.j0 k a1 (!t208) a0_0 l0_1)) else (impl_LacksGroup.j0 k a1 true a0_0 l0_1))) = some (r1, r2) := h
 clear h
 have HC3 := Aside0.mk H
 clear H
 go_enter Tryd.func17, Tryd.ntmps17
 go_upto_region 1 with (first | ((with_reducible refine gate_dst (N := 2) rfl ?_); refine box_event ?hg (N := 2) ?hd (cs := #[.int .i64 a0_0, .slice A0_1 l0_1.length c0_1]) (t := 30) ?hr ?_; (case hd => rfl); (case hg => rfl); (case hr => first | (go_simp; done) | (go_simp; rfl)); intro gb206 hg w4 hbox hb; have n0_ := hS HB hb; have n1_ := Aside0.mk (hbox); have n2_ := gS HB hg; have n3_ := gS HB hg; clear HB; have HB := n0_; have BK206 := n1_; have GW206 := n2_; have GE206 := n3_; clear n0_ n1_ n2_ n3_; clear hb hbox hg))
 (try simp only [Act.put, List.setIfInBounds_toArray, List.set_cons_zero, List.set_cons_succ])
 go_cut [13] (fun v13 wc => ∃ (kq : Nat) (x13_2 : Bool), v13 = .bool x13_2 ∧ Aside0 (impl_LacksGroup.j0 kq a1 x13_2 a0_0 l0_1 = some (r1, r2)) ∧ Aside0 (kq ≤ k) ∧ Aside0 (wc.heap[gb206]? = some (.cells #[.int .i64 a0_0, (.slice A0_1 l0_1.length c0_1)] 30 (0, 0))) ∧ Aside0 (Below w.heap.size w wc))
 case first =>
  have H := HC3.out
  clear HC3
  replace H := Option.bind_eq_some_iff.mp H
  obtain ⟨t207, A50, H⟩ := H
  replace H : (if t207 = true then ((impl_within.f a1 1 12).bind fun t208 => (impl_LacksGroup.j0 k a1 (!t208) a0_0 l0_1)) else (impl_LacksGroup.j0 k a1 true a0_0 l0_1)) = some (r1, r2) := H
  have A5 := Aside0.mk A50
  clear A50
  by_cases c6 : t207 = true
  ·subst c6
   have H1 : ((impl_within.f a1 1 12).bind fun t208 => (impl_LacksGroup.j0 k a1 (!t208) a0_0 l0_1)) = some (r1, r2) := by rw [if_pos rfl] at H; exact H
   clear H
   have H := H1
   clear H1
   replace H := Option.bind_eq_some_iff.mp H
   obtain ⟨t208, A70, H⟩ := H
   replace H : (impl_LacksGroup.j0 k a1 (!t208) a0_0 l0_1) = some (r1, r2) := H
   have A7 := Aside0.mk A70
   clear A70
   have H' := Aside0.mk H
   clear H
   have hcz8_0 : w4.cell? ⟨gb206, 0, none⟩ = some (.int .i64 a0_0) := (blk_cell BK206.out 0).trans rfl
   have hcz8_1 : w4.cell? ⟨gb206, 1, none⟩ = some (.slice A0_1 l0_1.length c0_1) := (blk_cell BK206.out 1).trans rfl
   have hfz8_0 := blk_frozen BK206.out 0
   have hfz8_1 := blk_frozen BK206.out 1
   go_wp2_with (first | ((with_reducible refine gate_callee (f := 47) rfl ?_); refine goesL_ (some 7) rfl rfl Tryd.func47 (by kernel_rfl) rfl #[.agg #[.int .i64 a0_0, .slice A0_1 l0_1.length c0_1]] rfl mapT ?_; (with_reducible refine (impl_IsParty.calls k a0_0 _ _ l0_1 true _ ?side1 ?side2 A5.out).mono ?_); (case side1 => repeat (first | exact (Kd.C_below HR0_1.out HB.out) | (with_reducible refine Kd.C_alloc ?_ _) | (with_reducible refine Kd.C_drewN ?_ _) | (with_reducible refine Kd.C_drew ?_))); (case side2 => exact HC0_1.out); rintro e w9 ⟨rfl, hb⟩; refine ⟨_, rfl, ?_⟩; have n0_ := bS BK206 hb; have n1_ := hS HB hb; clear BK206; clear HB; have BK206 := n0_; have HB := n1_; clear n0_ n1_; (try clear hb); (try clear hb2); (try clear hk); (try clear hi)) | (go_at_call 54; (with_reducible refine (impl_within.calls a1 1 12 t208 _ A7.out).mono ?_); rintro e w' ⟨rfl, ⟨nd, rfl⟩⟩))
   go_meet
   case rel => exact ⟨_, (!t208), (by first | rfl | (simp; done) | (simp [*]; done)), H', ⟨by first | omega | exact Nat.le_refl _⟩, ⟨bK⟩, ⟨hB⟩⟩
  ·replace c6 := Bool.eq_false_iff.mpr c6
   subst c6
   have H1 : (impl_LacksGroup.j0 k a1 true a0_0 l0_1) = some (r1, r2) := by rw [if_neg (show ¬ (false = true) by decide)] at H; exact H
   clear H
   have H := H1
   clear H1
   have H' := Aside0.mk H
   clear H
   have hcz10_0 : w4.cell? ⟨gb206, 0, none⟩ = some (.int .i64 a0_0) := (blk_cell BK206.out 0).trans rfl
   have hcz10_1 : w4.cell? ⟨gb206, 1, none⟩ = some (.slice A0_1 l0_1.length c0_1) := (blk_cell BK206.out 1).trans rfl
   have hfz10_0 := blk_frozen BK206.out 0
   have hfz10_1 := blk_frozen BK206.out 1
   go_wp2_with (first | ((with_reducible refine gate_callee (f := 47) rfl ?_); refine goesL_ (some 7) rfl rfl Tryd.func47 (by kernel_rfl) rfl #[.agg #[.int .i64 a0_0, .slice A0_1 l0_1.length c0_1]] rfl mapT ?_; (with_reducible refine (impl_IsParty.calls k a0_0 _ _ l0_1 false _ ?side1 ?side2 A5.out).mono ?_); (case side1 => repeat (first | exact (Kd.C_below HR0_1.out HB.out) | (with_reducible refine Kd.C_alloc ?_ _) | (with_reducible refine Kd.C_drewN ?_ _) | (with_reducible refine Kd.C_drew ?_))); (case side2 => exact HC0_1.out); rintro e w11 ⟨rfl, hb⟩; refine ⟨_, rfl, ?_⟩; have n0_ := bS BK206 hb; have n1_ := hS HB hb; clear BK206; clear HB; have BK206 := n0_; have HB := n1_; clear n0_ n1_; (try clear hb); (try clear hb2); (try clear hk); (try clear hi)))
   go_meet
   case rel => exact ⟨_, (true), (by first | rfl | (simp; done) | (simp [*]; done)), H', ⟨by first | omega | exact Nat.le_refl _⟩, ⟨bK⟩, ⟨hB⟩⟩
 case rest =>
  clear HC3
  try clear c1
  try clear p2
  try clear c4
  try clear c6
  try clear hcz10_0
  try clear hcz10_1
  try clear hcz8_0
  try clear hcz8_1
  try clear hfz10_0
  try clear hfz10_1
  try clear hfz8_0
  try clear hfz8_1
  obtain ⟨kq, x13_2, rfl, HA, HJ2, BK206, HB⟩ := hcut
  cases kq with
  | zero => exact absurd HA.out (by simp [impl_LacksGroup.j0])
  | succ kj2 =>
   have H := HA.out
   clear HA
   simp only [impl_LacksGroup.j0] at H
   by_cases c12 : x13_2 = true
   ·subst c12
    have H1 : (some (false, false)) = some (r1, r2) := by rw [if_pos rfl] at H; exact H
    clear H
    have H := H1
    clear H1
    simp only [Option.some.injEq, Prod.mk.injEq] at H
    obtain ⟨rfl, rfl⟩ := H
    go_wp2
    go_ret2
    exact ⟨by first | rfl | (simp [errW_none, errW_some] <;> rfl) | (simp [*, errW_none, errW_some] <;> rfl), hB⟩
   ·replace c12 := Bool.eq_false_iff.mpr c12
    subst c12
    have H1 : ((impl_Party_table.f kj2 a0_0 l0_1).bind fun t209 => ((impl_Party_table.f kj2 a0_0 l0_1).bind fun t212 => ((impl_table_all.f t212).bind fun t215 => ((impl_table_hasGroup.f kj2 t209 t215 a1).bind fun t216 => (some (!t216, true)))))) = some (r1, r2) := by rw [if_neg (show ¬ (false = true) by decide)] at H; exact H
    clear H
    have H := H1
    clear H1
    replace H := Option.bind_eq_some_iff.mp H
    obtain ⟨t209, A130, H⟩ := H
    replace H : ((impl_Party_table.f kj2 a0_0 l0_1).bind fun t212 => ((impl_table_all.f t212).bind fun t215 => ((impl_table_hasGroup.f kj2 t209 t215 a1).bind fun t216 => (some (!t216, true))))) = some (r1, r2) := H
    have A13 := Aside0.mk A130
    clear A130
    replace H := Option.bind_eq_some_iff.mp H
    obtain ⟨t212, A140, H⟩ := H
    replace H : ((impl_table_all.f t212).bind fun t215 => ((impl_table_hasGroup.f kj2 t209 t215 a1).bind fun t216 => (some (!t216, true)))) = some (r1, r2) := H
    have A14 := Aside0.mk A140
    clear A140
    replace H := Option.bind_eq_some_iff.mp H
    obtain ⟨t215, A150, H⟩ := H
    replace H : ((impl_table_hasGroup.f kj2 t209 t215 a1).bind fun t216 => (some (!t216, true))) = some (r1, r2) := H
    have A15 := Aside0.mk A150
    clear A150
    replace H := Option.bind_eq_some_iff.mp H
    obtain ⟨t216, A160, H⟩ := H
    replace H : (some (!t216, true)) = some (r1, r2) := H
    have A16 := Aside0.mk A160
    clear A160
    simp only [Option.some.injEq, Prod.mk.injEq] at H
    obtain ⟨rfl, rfl⟩ := H
    try go_wp2
    have n0_ := Aside0.mk (blk_drew BK206.out)
    have n1_ := Aside0.mk (below_drew1 HB.out)
    clear BK206
    clear HB
    have BK206 := n0_
    have HB := n1_
    clear n0_ n1_
    refine start_ (n := 10) (S := fun w' => w'.cell? ⟨gb206, 0, none⟩ = some (.int .i64 a0_0) ∧ w'.cell? ⟨gb206, 1, none⟩ = some (.slice A0_1 l0_1.length c0_1)) (ds := []) (bz 10 0) (by kernel_rfl) rfl rfl ⟨(blk_cell BK206.out 0).trans rfl, (blk_cell BK206.out 1).trans rfl⟩ (fun hHeld => ?_); refine with_tabW impl_LacksGroup.tab3 impl_LacksGroup.bits3 (fun HT_ HW_ => ?_)
    generalize wc.drew = w17 at BK206 HB hHeld ⊢
    refine run_ [(0, 5, 32, some 19), (1, 0, 33, some 14), (1, 2, 37, some 16)] ?_
    repeat (first | (apply tag0; refine run_p (v := ?_) (a' := ?_) rfl rfl (any_of HT_.out (by kernel_rfl)) (fun _ _ _ h => h) (by rfl) ?_ ?_ ?_; rotate_left 2; (intro w'; go_simp; with_reducible rfl); (first | (simp only [Act.put, List.setIfInBounds_toArray, List.set_cons_zero, List.set_cons_succ, i64_w, i32_w]; rfl) | rfl)) | (apply tag1; refine run_t (v := ?_) (a' := ?_) rfl rfl (take_ofW HT_.out HW_.out (by kernel_rfl)) (fun _ _ _ h => h) (by rfl) ?_ hHeld ?_ ?_; rotate_left 2; (rintro w' ⟨s0, s1⟩; go_simp; with_reducible rfl); (first | (simp only [Act.put, List.setIfInBounds_toArray, List.set_cons_zero, List.set_cons_succ, i64_w, i32_w]; rfl) | rfl)))
    refine run_nil ?_
    refine one_ (i := 1) (N := some 15) (bz 10 39) rfl rfl (one_of HT_.out (by kernel_rfl)) (by decide) (fun K hK => ?_)
    refine goes_ Tryd.func49 (by kernel_rfl) rfl #[.agg #[.int .i64 a0_0, .slice A0_1 l0_1.length c0_1]] (by rfl) rfl rfl mapT ?_
    with_reducible refine (impl_Party_table.calls kj2 a0_0 _ _ l0_1 t209 _ ?side1 ?side2 A13.out).mono ?_
    (case side1 => repeat (first | exact (Kd.C_below HR0_1.out HB.out) | (with_reducible refine Kd.C_alloc ?_ _) | (with_reducible refine Kd.C_drewN ?_ _) | (with_reducible refine Kd.C_drew ?_)))
    (case side2 => exact HC0_1.out)
    rintro e w18 ⟨v210, rfl, ho0, hb⟩
    refine ⟨_, rfl, ?_⟩
    have n0_ := Aside0.mk (Kd.R_lower ho0 (below_size hB))
    have n1_ := bS BK206 hb
    have n2_ := hS HB hb
    clear BK206
    clear HB
    have HO211 := n0_
    have BK206 := n1_
    have HB := n2_
    clear n0_ n1_ n2_
    (try clear hb)
    (try clear hb2)
    (try clear hk)
    (try clear hi)
    (try clear ho0)
    refine hK.out _ _ ⟨(blk_cell BK206.out 0).trans rfl, (blk_cell BK206.out 1).trans rfl⟩ (fun hHeld => ?_)
    clear hK K
    refine norm_ (a' := ?_) ?_ ?_
    rotate_left
    ·show Act.put _ (some 15) _ = _
     simp only [Act.put, List.setIfInBounds_toArray, List.set_cons_zero, List.set_cons_succ, i64_w, i32_w]
     rfl
    refine one_ (i := 3) (N := some 17) (bz 10 47) rfl rfl (one_of HT_.out (by kernel_rfl)) (by decide) (fun K hK => ?_)
    refine goes_ Tryd.func49 (by kernel_rfl) rfl #[.agg #[.int .i64 a0_0, .slice A0_1 l0_1.length c0_1]] (by rfl) rfl rfl mapT ?_
    with_reducible refine (impl_Party_table.calls kj2 a0_0 _ _ l0_1 t212 _ ?side1 ?side2 A14.out).mono ?_
    (case side1 => repeat (first | exact (Kd.C_below HR0_1.out HB.out) | (with_reducible refine Kd.C_alloc ?_ _) | (with_reducible refine Kd.C_drewN ?_ _) | (with_reducible refine Kd.C_drew ?_)))
    (case side2 => exact HC0_1.out)
    rintro e w19 ⟨v213, rfl, ho0, hb⟩
    refine ⟨_, rfl, ?_⟩
    have n0_ := Aside0.mk (Kd.R_elder' (by (with_reducible repeat (first | apply Kd.R_alloc | apply Kd.R_drewN | apply Kd.R_drew)); exact HO211.out) (Kd.R_base ho0) hb)
    have n1_ := Aside0.mk (Kd.R_lower (Kd.R_new' ho0 (Kd.R_lt (by (with_reducible repeat (first | apply Kd.R_alloc | apply Kd.R_drewN | apply Kd.R_drew)); exact HO211.out))) (below_size hB))
    have n2_ := bS BK206 hb
    have n3_ := hS HB hb
    clear HO211
    clear BK206
    clear HB
    have HO211 := n0_
    have HO214 := n1_
    have BK206 := n2_
    have HB := n3_
    clear n0_ n1_ n2_ n3_
    (try clear hb)
    (try clear hb2)
    (try clear hk)
    (try clear hi)
    (try clear ho0)
    obtain ⟨Ao20, co20, eo20⟩ := Kd.R_slice HO214.out
    (first | subst eo20 | (injection eo20 with f1_ f2_ f3_; have f4_ := f1_.symm; have f5_ := f3_.symm; clear f1_ f2_ f3_; subst f4_; subst f5_))
    refine hK.out _ _ ⟨(blk_cell BK206.out 0).trans rfl, (blk_cell BK206.out 1).trans rfl⟩ (fun hHeld => ?_)
    clear hK K
    refine norm_ (a' := ?_) ?_ ?_
    rotate_left
    ·show Act.put _ (some 17) _ = _
     simp only [Act.put, List.setIfInBounds_toArray, List.set_cons_zero, List.set_cons_succ, i64_w, i32_w]
     rfl
    refine one_ (i := 4) (N := some 18) (bz 10 63) rfl rfl (one_of HT_.out (by kernel_rfl)) (by decide) (fun K hK => ?_)
    refine goes_ Tryd.func56 (by kernel_rfl) rfl #[.slice Ao20 t212.length co20] (by rfl) rfl rfl mapT ?_
    with_reducible refine (impl_table_all.calls _ _ t212 t215 _ ?side1 ?side2 A15.out).mono ?_
    (case side1 => repeat (first | exact (Kd.R_reads' HO214.out).2.2 | (with_reducible refine Kd.C_alloc ?_ _) | (with_reducible refine Kd.C_drewN ?_ _) | (with_reducible refine Kd.C_drew ?_)))
    (case side2 => exact (Kd.R_reads' HO214.out).2.1)
    rintro e w' ⟨rfl, ⟨nd, rfl⟩⟩
    refine ⟨_, rfl, ?_⟩
    obtain ⟨Ao21, co21, eo21⟩ := Kd.R_slice HO211.out
    (first | subst eo21 | (injection eo21 with f1_ f2_ f3_; have f4_ := f1_.symm; have f5_ := f3_.symm; clear f1_ f2_ f3_; subst f4_; subst f5_))
    refine hK.out _ _ ⟨(blk_cell BK206.out 0).trans rfl, (blk_cell BK206.out 1).trans rfl⟩ (fun hHeld => ?_)
    clear hK K
    refine norm_ (a' := ?_) ?_ ?_
    rotate_left
    ·show Act.put _ (some 18) _ = _
     simp only [Act.put, List.setIfInBounds_toArray, List.set_cons_zero, List.set_cons_succ, i64_w, i32_w]
     rfl
    refine one_ (i := 6) (N := some 20) (bz 10 127) rfl rfl (one_of HT_.out (by kernel_rfl)) (by decide) (fun K hK => ?_)
    refine goes_ Tryd.func55 (by kernel_rfl) rfl #[.slice Ao21 t209.length co21, .int .u16 t215, .int .i64 a1] (by rfl) rfl rfl mapT ?_
    with_reducible refine (impl_table_hasGroup.calls kj2 _ _ t209 t215 a1 t216 _ ?side1 ?side2 A16.out).mono ?_
    (case side1 => repeat (first | exact (Kd.R_reads' HO211.out).2.2 | (with_reducible refine Kd.C_alloc ?_ _) | (with_reducible refine Kd.C_drewN ?_ _) | (with_reducible refine Kd.C_drew ?_)))
    (case side2 => exact (Kd.R_reads' HO211.out).2.1)
    rintro e w' ⟨rfl, ⟨nd, rfl⟩⟩
    refine ⟨_, rfl, ?_⟩
    refine hK.out _ _ ⟨(blk_cell BK206.out 0).trans rfl, (blk_cell BK206.out 1).trans rfl⟩ (fun hHeld => ?_)
    clear hK K
    refine norm_ (a' := ?_) ?_ ?_
    rotate_left
    ·show Act.put _ (some 20) _ = _
     simp only [Act.put, List.setIfInBounds_toArray, List.set_cons_zero, List.set_cons_succ, i64_w, i32_w]
     rfl
    refine run_ [(0, 7, 255, some 21), (0, 8, 511, some 4), (0, 9, 1023, some 5)] ?_
    repeat ((apply tag0; refine run_p (v := ?_) (a' := ?_) rfl rfl (any_of HT_.out (by kernel_rfl)) (fun _ _ _ h => h) (by rfl) ?_ ?_ ?_; rotate_left 2; (intro w'; go_simp; with_reducible rfl); (first | (simp only [Act.put, List.setIfInBounds_toArray, List.set_cons_zero, List.set_cons_succ, i64_w, i32_w]; rfl) | rfl)))
    refine run_nil ?_
    refine done_ (done_of HT_.out (by kernel_rfl)) ?_
    try go_wp2
    go_ret2
    exact ⟨by first | rfl | (simp [errW_none, errW_some] <;> rfl) | (simp [*, errW_none, errW_some] <;> rfl), hB⟩

end Go.Proofs.YtomlbbnoicpfpaaDoor.PFnExactLacksGroup
