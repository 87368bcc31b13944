-- Of this session's own program wip/gen/gen.py (it drives the kit's print): contracts of the functions that the law reaches.
import Derived.Test.YtbjmkkgejekpnaaDoorPFnThreesCountedx0
import Derived.Test.YtbjmkkgejekpnaaDoorPFnThreesCountedx3
import Derived.Test.YtbjmkkgejekpnaaDoorPFnThreesCountedx4
namespace Go.Proofs.YtbjmkkgejekpnaaDoor.PFnThreesCounted
open Go.RowKit Go.Proofs.YtbjmkkgejekpnaaDoorW.PrintWords Go.Proofs.YtbjmkkgejekpnaaDoorW.PrintLast Go.Proofs.YtbjmkkgejekpnaaDoorW.PrintMore Go.Proofs.YtbjmkkgejekpnaaDoor.Base
attribute [local go_sem] max2_int min2_int max_two min_two max_three min_three max_four min_four   -- for this text's walks alone
set_option linter.unusedVariables false
set_option linter.unusedSimpArgs false
set_option maxHeartbeats 8000000
set_option maxRecDepth 100000

/-! ### impl_table_others: function 100 -/
def impl_table_others.l0 : Nat → List Int → List Int → Int → Int → Option (List Int)
 | 0, _, _, _, _ => none
 | k + 1, x0, x3, x9, x10 => if x10 < x9 then (if 0 ≤ x10 then (if x10 < (x0.length : Int) then (if x10 < (x3.length : Int) then (impl_table_others.l0 k x0 (x3.set (x10 : Int).toNat (Go.bits .andNot .u16 (Go.bits .andNot .u16 (IntKind.u16.wrap ((shl .u16 1 (x0.length : Int)) - 1)) (rd x0 x10)) (shl .u16 1 x10))) x9 (wrap64 (x10 + 1))) else (none)) else (none)) else (none)) else (some x3)
def impl_table_others.f (k : Nat) (l0 : List Int) : Option (List Int) := if 0 ≤ (l0.length : Int) then (if ((l0.length : Int) : Int).toNat ≤ 140737488355328 then (impl_table_others.l0 k l0 (List.replicate ((l0.length : Int) : Int).toNat 0) (l0.length : Int) 0) else (none)) else (none)
theorem impl_table_others.mono_l : ∀ k, (∀ y0 y1 y2 y3, LeO (impl_table_others.l0 k y0 y1 y2 y3) (impl_table_others.l0 (k + 1) y0 y1 y2 y3))
 | 0 => fun _ _ _ _ r h => by simp [impl_table_others.l0] at h
 | k + 1 => by
  have ih0 := impl_table_others.mono_l k
  ·intro y0 y1 y2 y3
   unfold impl_table_others.l0
   repeat' first | (with_reducible first | exact ih0 .. | exact LeO.refl _ | exact LeO.none _ | refine LeO.ite ?_ ?_ | refine LeO.bind ?_ (fun _ => ?_)) | exact ih0 .. | exact LeO.none _ | refine LeO.ite ?_ ?_ | refine LeO.bind ?_ (fun _ => ?_)
theorem impl_table_others.mono : ∀ a0 k, LeO (impl_table_others.f k a0) (impl_table_others.f (k + 1) a0) := by
 intro a0 k
 have ih0 := impl_table_others.mono_l k
 unfold impl_table_others.f
 repeat' first | (with_reducible first | exact ih0 .. | exact LeO.refl _ | exact LeO.none _ | refine LeO.ite ?_ ?_ | refine LeO.bind ?_ (fun _ => ?_)) | exact ih0 .. | exact LeO.none _ | refine LeO.ite ?_ ?_ | refine LeO.bind ?_ (fun _ => ?_)
def impl_table_others.T5 : Bool × List (List Nat × List Nat) := (true, [([], []), ([], []), ([], []), ([2], [2]), ([3], [3]), ([4], [4]), ([], []), ([], []), ([6, 7], [6, 7]), ([8], [8]), ([5, 9], [5, 9]), ([], []), ([11], [11]), ([10, 12], [10, 12]), ([0, 1, 0, 1, 2, 3, 4, 5, 6, 7, 8, 9, 10, 11, 12, 13], [0, 1]), ([14, 13, 0, 1, 2, 3, 4, 5, 6, 7, 8, 9, 10, 11, 12, 13], [13, 14])])
def impl_table_others.B5 : List Nat := [0, 0, 0, 4, 12, 28, 0, 0, 192, 448, 1020, 0, 2048, 8188, 16383, 32767]
theorem impl_table_others.tab5 : rtab .any (opsOf Tryd.f100 5) = impl_table_others.T5 := by kernel_rfl
theorem impl_table_others.bits5 : waitsOk impl_table_others.T5.2 impl_table_others.B5 = true := by kernel_rfl
theorem impl_table_others.calls (k : Nat) (A0 : Option Addr) (c0 : Nat) (l0 : List Int) (r : List Int) (w : World) (hr0 : Kd.C (Kd.int .u16) w A0 l0.length l0) (hc0 : l0.length ≤ c0) (h : impl_table_others.f k l0 = some r) :
  Calls Tryd.prog 100 #[.slice A0 l0.length c0] w fun e w' => ∃ v0_ : Value, e = .returned (v0_) ∧ Kd.R (Kd.int .u16) 71 w' w.heap.size (fun _ => True) v0_ r ∧ Below w.heap.size w w' := by
 have HR0 := Aside0.mk hr0
 have HC0 := Aside0.mk hc0
 clear hr0 hc0
 have HB := Aside0.mk (Below.refl w.heap.size w)
 have H : (if 0 ≤ (l0.length : Int) then (if ((l0.length : Int) : Int).toNat ≤ 140737488355328 then (impl_table_others.l0 k l0 (List.replicate ((l0.length : Int) : Int).toNat 0) (l0.length : Int) 0) else (none)) else (none)) = some r := h
 clear h
 by_cases c2 : 0 ≤ (l0.length : Int)
 ·rw [if_pos c2] at H
  have c2b0 := eq_true c2
  have c2b1 : decide (0 ≤ (l0.length : Int)) = true := decide_eq_true c2
  clear c2
  replace H := ifP H; obtain ⟨c3, H⟩ := H
  have c3b0 := eq_true c3
  have c3b1 : decide (((l0.length : Int) : Int).toNat ≤ 140737488355328) = true := decide_eq_true c3
  clear c3
  obtain ⟨y270, hy270⟩ : ∃ y_ : List Int, y_ = (List.replicate ((l0.length : Int) : Int).toNat 0) := ⟨_, rfl⟩
  replace H : (impl_table_others.l0 k l0 y270 (l0.length : Int) 0) = some r := by first | (rw [hy270]; with_reducible exact H) | (have H2_ := (Option.bind_some _ _).symm.trans H; rw [hy270]; with_reducible exact H2_) | (have H2_ := (Option.bind_some _ _).symm.trans H; with_reducible exact H2_) | with_reducible exact H | (rw [hy270]; exact H) | exact H
  have Ny270 := Aside0.mk hy270
  clear hy270
  have H' := Aside0.mk H
  clear H
  go_enter Tryd.func100, Tryd.ntmps100
  go_wp2_with (first | ((with_reducible refine gate_dst (N := 7) rfl ?_); refine Kd.R_make (Kd.int .u16) _ 71 rfl (N := 7) rfl 94 _ _ rfl (l0.length : Int) rfl rfl Tryd.underlying94 (.int .u16 0) 2 info71 rfl (by decide) (by omega) 0 (ok := fun _ => True) (okp := fun _ => True) rfl (fun _ hk => hk) trivial (of_decide_eq_true (by first | (with_reducible assumption) | assumption)) (Nat.le_trans (Nat.mul_le_mul_right _ (of_decide_eq_true (by first | (with_reducible assumption) | assumption) : (l0.length : Int).toNat ≤ 140737488355328)) (by omega)) (Below.refl _ _) (Nat.le_refl _) ?_; intro v271 w4 ho5 hb hg_ hnew_; clear hg_ hnew_; (first | rw [← Ny270.out] at ho5 | (simp only [Int.reduceToNat] at ho5; rw [← Ny270.out] at ho5)); have HO272 := Aside0.mk (Kd.R_lower ho5 (below_size hB)); replace HB := hS HB hb; clear hb ho5))
  go_loopg [10] k (fun kq v10 w' => ∃ (x3_1 : List Int) (x10_1 : Int), v10 = .int .i64 x10_1 ∧ Aside0 (impl_table_others.l0 kq l0 x3_1 (l0.length : Int) x10_1 = some r) ∧ Aside0 (kq ≤ k) ∧ Aside0 (Kd.R (Kd.int .u16) 71 w' w.heap.size (fun _ => True) v271 x3_1) ∧ Aside0 (Below w.heap.size w w'))
  case atStart => exact ⟨(y270), (0), sR, H', ⟨Nat.le_refl _⟩, ⟨rU HO272⟩, ⟨hB⟩⟩
  case round =>
   clear H'
   (try clear c2); (try clear c2b0); (try clear c2b1); (try clear c3); (try clear c3b0); (try clear c3b1)
   obtain ⟨x3_1, x10_1, rfl, HA, HK1, HO_3, HB⟩ := hrel
   cases gk with
   | zero => exact absurd HA.out (by simp [impl_table_others.l0])
   | succ k1 =>
    have H := HA.out
    clear HA
    simp only [impl_table_others.l0] at H
    by_cases c6 : x10_1 < (l0.length : Int)
    ·rw [if_pos c6] at H
     have c6b0 := decide_eq_true c6
     clear c6
     obtain ⟨ji7, hji7⟩ : ∃ j_ : Int, (shl .u16 1 (l0.length : Int)) = j_ := ⟨_, rfl⟩
     replace H : (if 0 ≤ x10_1 then (if x10_1 < (l0.length : Int) then (if x10_1 < (x3_1.length : Int) then (impl_table_others.l0 k1 l0 (x3_1.set (x10_1 : Int).toNat (Go.bits .andNot .u16 (Go.bits .andNot .u16 (IntKind.u16.wrap ((ji7) - 1)) (rd l0 x10_1)) (shl .u16 1 x10_1))) (l0.length : Int) (wrap64 (x10_1 + 1))) else (none)) else (none)) else (none)) = some r := by first | (rw [hji7] at H; exact H) | (simp only [hji7] at H ⊢; exact H)
     have hji7_ : (IntKind.u16.wrap (1 * 2 ^ min (l0.length : Int).toNat 16)) = ji7 := hji7
     have hji7z : (l0.length : Int) ≤ 16 → (IntKind.u16.wrap (1 * 2 ^ (l0.length : Int).toNat)) = ji7 := shl_small hji7
     have hji7p : (IntKind.u16.wrap (1 * 2 ^ min l0.length 16)) = ji7 := hji7_
     have hji7q : (l0.length : Int) ≤ 16 → (IntKind.u16.wrap (1 * 2 ^ l0.length)) = ji7 := hji7z
     have hji7r : (IntKind.u16.wrap (2 ^ min l0.length 16)) = ji7 := by have h_ := hji7p; rw [Int.one_mul] at h_; exact h_
     have hji7s : (l0.length : Int) ≤ 16 → (IntKind.u16.wrap (2 ^ l0.length)) = ji7 := fun hle_ => by have h_ := hji7q hle_; rw [Int.one_mul] at h_; exact h_
     have hji7u : (IntKind.u16.wrap (2 ^ min (l0.length : Int).toNat 16)) = ji7 := by have h_ := hji7_; rw [Int.one_mul] at h_; exact h_
     have hji7v : (l0.length : Int) ≤ 16 → (IntKind.u16.wrap (2 ^ (l0.length : Int).toNat)) = ji7 := fun hle_ => by have h_ := hji7z hle_; rw [Int.one_mul] at h_; exact h_
     replace H := ifD H; obtain ⟨c8b0, H⟩ := H
     replace H := ifD H; obtain ⟨c9b0, H⟩ := H
     have c10b0 := eq_true (of_decide_eq_true (by first | (with_reducible assumption) | assumption) : 0 ≤ x10_1)
     obtain ⟨ji11, hji11⟩ : ∃ j_ : Int, (shl .u16 1 x10_1) = j_ := ⟨_, rfl⟩
     replace H : (if x10_1 < (x3_1.length : Int) then (impl_table_others.l0 k1 l0 (x3_1.set (x10_1 : Int).toNat (Go.bits .andNot .u16 (Go.bits .andNot .u16 (IntKind.u16.wrap ((ji7) - 1)) (rd l0 x10_1)) (ji11))) (l0.length : Int) (wrap64 (x10_1 + 1))) else (none)) = some r := by first | (rw [hji11] at H; exact H) | (simp only [hji11] at H ⊢; exact H)
     have hji11_ : (IntKind.u16.wrap (1 * 2 ^ min x10_1.toNat 16)) = ji11 := hji11
     have hji11z : x10_1 ≤ 16 → (IntKind.u16.wrap (1 * 2 ^ x10_1.toNat)) = ji11 := shl_small hji11
     have hji11u : (IntKind.u16.wrap (2 ^ min x10_1.toNat 16)) = ji11 := by have h_ := hji11_; rw [Int.one_mul] at h_; exact h_
     have hji11v : x10_1 ≤ 16 → (IntKind.u16.wrap (2 ^ x10_1.toNat)) = ji11 := fun hle_ => by have h_ := hji11z hle_; rw [Int.one_mul] at h_; exact h_
     replace H := ifD H; obtain ⟨c12b0, H⟩ := H
     obtain ⟨y274, hy274⟩ : ∃ y_ : List Int, y_ = (x3_1.set (x10_1 : Int).toNat (Go.bits .andNot .u16 (Go.bits .andNot .u16 (IntKind.u16.wrap ((ji7) - 1)) (rd l0 x10_1)) (ji11))) := ⟨_, rfl⟩
     replace H : (impl_table_others.l0 k1 l0 y274 (l0.length : Int) (wrap64 (x10_1 + 1))) = some r := by first | (rw [hy274]; with_reducible exact H) | (have H2_ := (Option.bind_some _ _).symm.trans H; rw [hy274]; with_reducible exact H2_) | (have H2_ := (Option.bind_some _ _).symm.trans H; with_reducible exact H2_) | with_reducible exact H | (rw [hy274]; exact H) | exact H
     have Ny274 := Aside0.mk hy274
     clear hy274
     have H' := Aside0.mk H
     clear H
     try go_wp2
     replace HO_3 := Aside0.mk (Kd.R_drew HO_3.out)
     replace HB := Aside0.mk (below_drew1 HB.out)
     have p273 : 0 ≤ (x10_1 : Int) := of_decide_eq_true (by first | (with_reducible assumption) | assumption)
     have q273 : x10_1 < (l0.length : Int) := of_decide_eq_true (by first | (with_reducible assumption) | assumption)
     obtain ⟨ad273, e273, hx273_0⟩ := Kd.at_int HR0.out x10_1 p273 q273
     have hw273_0 := hx273_0
     cases e273
     replace hx273_0 := (HB.out.cell (World.block_lt_of_cell? w _ hx273_0)).trans hx273_0
     replace p273 := eq_true p273
     replace q273 := eq_true q273
     have p13 : 0 ≤ (x10_1 : Int) := of_decide_eq_true (by first | (with_reducible assumption) | assumption)
     have q13 : (x10_1 : Int) < ((x3_1.length : Int) : Int) := of_decide_eq_true (by first | (with_reducible assumption) | assumption)
     obtain ⟨go13, co13, eo13, gb13, gl13, cl13, HG13⟩ := Kd.R_form HO_3.out (by omega)
     (first | cases eo13 | (injection eo13 with ea_ en_ ec_; (first | subst ea_ | (injection ea_ with ea_; subst ea_)); subst ec_; clear en_))
     have GB13 := Aside0.mk gb13
     have GG13 := Aside0.mk HG13
     clear gb13 gl13 HG13
     obtain ⟨hx13_0, hf13_0⟩ := Kd.R_celln 0 HO_3.out (x10_1 : Int) p13 q13
     replace p13 := eq_true p13
     replace q13 := eq_true q13
     have HP15 := Kd.R_putn HO_3.out (x10_1 : Int) (Go.bits .andNot .u16 (Go.bits .andNot .u16 (IntKind.u16.wrap ((ji7) - 1)) (rd l0 x10_1)) (ji11))
     rw [← Ny274.out] at HP15
     have HQ15 := Aside0.mk HP15
     clear HP15
     refine start_ (n := 16) (S := fun w' => w'.cell? (ad273.add (x10_1).toNat) = some (.int .u16 (rd l0 x10_1))) (ds := [15]) (bz 16 0) (by kernel_rfl) rfl rfl (((HB.out.cell (World.block_lt_of_cell? w _ hw273_0)).trans hw273_0)) (fun hHeld => ?_); refine with_tabW impl_table_others.tab5 impl_table_others.bits5 (fun HT_ HW_ => ?_)
     generalize wr.drew = w14 at HO_3 HB GG13 HQ15 hf13_0 hx13_0 hx273_0 hHeld ⊢
     refine run_ [(0, 0, 1, some 13), (0, 1, 3, some 14), (0, 2, 7, some 15), (0, 3, 15, some 16), (0, 4, 31, some 17), (0, 5, 63, some 18), (0, 6, 127, some 19), (0, 7, 255, some 20), (0, 8, 511, some 21), (0, 11, 2559, some 24), (0, 12, 6655, some 25), (1, 9, 7167, some 22), (0, 10, 8191, some 23), (0, 13, 16383, some 26), (0, 14, 32767, some 27)] ?_
     repeat (first | (apply tag0; refine run_p (v := ?_) (a' := ?_) rfl rfl (any_of HT_.out (by kernel_rfl)) (fun _ _ _ h => h) (by rfl) ?_ ?_ ?_; rotate_left 2; (intro w'; go_simp; with_reducible rfl); (first | (simp only [Act.put, List.setIfInBounds_toArray, List.set_cons_zero, List.set_cons_succ, i64_w, i32_w]; rfl) | rfl)) | (apply tag1; refine run_t (v := ?_) (a' := ?_) rfl rfl (take_ofW HT_.out HW_.out (by kernel_rfl)) (fun _ _ _ h => h) (by rfl) ?_ hHeld ?_ ?_; rotate_left 2; (intro w' s0; go_simp; with_reducible rfl); (first | (simp only [Act.put, List.setIfInBounds_toArray, List.set_cons_zero, List.set_cons_succ, i64_w, i32_w]; rfl) | rfl)))
     refine run_nil ?_
     refine last_ (i := 15) (N := none) (bz 16 65535) rfl rfl (one_of HT_.out (by kernel_rfl)) (by decide) (fun K hK => ?_)
     refine skip_ (w1 := ?_) (by rfl) rfl ?_ ?_
     rotate_left
     ·go_simp
      rfl
     refine hK.out _ _ ?_
     clear hK K
     refine done_ (done_of HT_.out (by kernel_rfl)) ?_
     try go_wp2
     go_roundg k1
     case measure => have := HK1.out; omega
     case rel => exact ⟨(y274), (wrap64 (x10_1 + 1)), sR, H', ⟨by have := HK1.out; omega⟩, ⟨by (with_reducible repeat (first | apply Kd.R_alloc | apply Kd.R_drewN | apply Kd.R_drew)); exact HQ15.out⟩, ⟨by repeat (first | (with_reducible first | exact HB.out | apply below_alloc | apply pw_below_drewN | apply below_drew1 | refine below_set ?_ GB13.out) | exact HB.out)⟩⟩
    ·rw [if_neg c6] at H
     have c6b0 := decide_eq_false c6
     clear c6
     obtain rfl := Option.some.inj H
     go_wp2
     go_ret
     exact ⟨_, eW, rU HO_3, hB⟩
 ·rw [if_neg c2] at H
  exact absurd H (by simp)

/-! ### impl_choose: function 101 -/
def impl_choose.l0 : Nat → Int → Int → Int → Int → Option (Int)
 | 0, _, _, _, _ => none
 | k + 1, x0, x5, x11, x12 => if x12 < x11 then (if (wrap64 (x12 + 1)) = 0 then (none) else (impl_choose.l0 k x0 (wrap64 (Int.tdiv (wrap64 (x5 * (wrap64 (x0 - x12)))) (wrap64 (x12 + 1)))) x11 (wrap64 (x12 + 1)))) else (some x5)
def impl_choose.f (k : Nat) (a0 : Int) (a1 : Int) : Option (Int) := (impl_within.f a1 0 a0).bind fun t275 => (if t275 = true then (impl_choose.l0 k a0 1 a1 0) else (some 0))
theorem impl_choose.mono_l : ∀ k, (∀ y0 y1 y2 y3, LeO (impl_choose.l0 k y0 y1 y2 y3) (impl_choose.l0 (k + 1) y0 y1 y2 y3))
 | 0 => fun _ _ _ _ r h => by simp [impl_choose.l0] at h
 | k + 1 => by
  have ih0 := impl_choose.mono_l k
  ·intro y0 y1 y2 y3
   unfold impl_choose.l0
   repeat' first | (with_reducible first | exact ih0 .. | exact LeO.refl _ | exact LeO.none _ | refine LeO.ite ?_ ?_ | refine LeO.bind ?_ (fun _ => ?_)) | exact ih0 .. | exact LeO.none _ | refine LeO.ite ?_ ?_ | refine LeO.bind ?_ (fun _ => ?_)
theorem impl_choose.mono : ∀ a0 a1 k, LeO (impl_choose.f k a0 a1) (impl_choose.f (k + 1) a0 a1) := by
 intro a0 a1 k
 have ih0 := impl_choose.mono_l k
 unfold impl_choose.f
 repeat' first | (with_reducible first | exact ih0 .. | exact LeO.refl _ | exact LeO.none _ | refine LeO.ite ?_ ?_ | refine LeO.bind ?_ (fun _ => ?_)) | exact ih0 .. | exact LeO.none _ | refine LeO.ite ?_ ?_ | refine LeO.bind ?_ (fun _ => ?_)
theorem impl_choose.calls (k : Nat) (a0 : Int) (a1 : Int) (r : Int) (w : World) (h : impl_choose.f k a0 a1 = some r) :
  Calls Tryd.prog 101 #[.int .i64 a0, .int .i64 a1] w fun e w' => e = .returned (.int .i64 r) ∧ Drawn0 w w' := by
 have H : ((impl_within.f a1 0 a0).bind fun t275 => (if t275 = true then (impl_choose.l0 k a0 1 a1 0) else (some 0))) = some r := h
 clear h
 replace H := oB H; obtain ⟨t275, A3, H⟩ := H
 by_cases c4 : t275 = true
 ·subst c4
  replace H : (impl_choose.l0 k a0 1 a1 0) = some r := by rw [if_pos rfl] at H; exact H
  have H' := Aside0.mk H
  clear H
  go_enter Tryd.func101, Tryd.ntmps101
  go_wp2_with (first | ((with_reducible refine gate_callee (f := 91) rfl ?_); refine goC (N := some 9) Tryd.func91 #[.int .i64 a1, .int .i64 0, .int .i64 a0] rfl ?_; (with_reducible refine (impl_within.calls a1 0 a0 true _ A3.out).mono ?_); rintro e w' ⟨rfl, ⟨nd, rfl⟩⟩; refine ⟨_, rfl, ?_⟩))
  go_loopg [5, 12] k (fun kq v5 v12 w' => ∃ (x5_1 : Int) (x12_1 : Int), v5 = .int .i64 x5_1 ∧ v12 = .int .i64 x12_1 ∧ Aside0 (impl_choose.l0 kq a0 x5_1 a1 x12_1 = some r) ∧ Aside0 (kq ≤ k) ∧ Drawn0 w w')
  case atStart => exact ⟨(1), (0), sR, sR, H', ⟨Nat.le_refl _⟩, by repeat (first | exact Drawn0.refl _ | apply Drawn0.step)⟩
  case round =>
   clear H'
   (try clear c4)
   obtain ⟨x5_1, x12_1, rfl, rfl, HA, HK1, ⟨m1, rfl⟩⟩ := hrel
   cases gk with
   | zero => exact absurd HA.out (by simp [impl_choose.l0])
   | succ k1 =>
    have H := HA.out
    clear HA
    simp only [impl_choose.l0] at H
    by_cases c5 : x12_1 < a1
    ·rw [if_pos c5] at H
     have c5b0 := decide_eq_true c5
     clear c5
     replace H := ifEN H; obtain ⟨⟨c6, c6b0, c6b1⟩, H⟩ := H
     have H' := Aside0.mk H
     clear H
     go_wp2
     go_roundg k1
     case measure => have := HK1.out; omega
     case rel => exact ⟨(wrap64 (Int.tdiv (wrap64 (x5_1 * (wrap64 (a0 - x12_1)))) (wrap64 (x12_1 + 1)))), (wrap64 (x12_1 + 1)), sR, sR, H', ⟨by have := HK1.out; omega⟩, by repeat (first | exact Drawn0.refl _ | apply Drawn0.step)⟩
    ·rw [if_neg c5] at H
     have c5b0 := decide_eq_false c5
     clear c5
     obtain rfl := Option.some.inj H
     go_wp2
     go_ret
     exact ⟨by first | rfl | (simp; done) | (simp [*]; done), by repeat (first | exact Drawn0.refl _ | apply Drawn0.step)⟩
 ·replace c4 := Bool.eq_false_iff.mpr c4
  subst c4
  replace H : (some 0) = some r := by rw [if_neg (show ¬ (false = true) by decide)] at H; exact H
  obtain rfl := Option.some.inj H
  go_enter Tryd.func101, Tryd.ntmps101
  go_wp2_with (first | ((with_reducible refine gate_callee (f := 91) rfl ?_); refine goC (N := some 9) Tryd.func91 #[.int .i64 a1, .int .i64 0, .int .i64 a0] rfl ?_; (with_reducible refine (impl_within.calls a1 0 a0 false _ A3.out).mono ?_); rintro e w' ⟨rfl, ⟨nd, rfl⟩⟩; refine ⟨_, rfl, ?_⟩))
  go_ret
  exact ⟨by first | rfl | (simp; done) | (simp [*]; done), by repeat (first | exact Drawn0.refl _ | apply Drawn0.step)⟩
theorem impl_choose.two (k : Nat) (n : Int) (h0 : 0 ≤ n) (h1 : n ≤ 12) : impl_choose.f (k + 3) n 2 = some (n * (n - 1) / 2) := by
  unfold impl_choose.f
  simp only [impl_within.ok, Option.bind_some]
  by_cases h : 2 ≤ n
  · have e1 : wrap64 1 = 1 := wrap_id (by omega) (by omega)
    have e2 : wrap64 2 = 2 := wrap_id (by omega) (by omega)
    have e3 : wrap64 (n - 0) = n := by rw [Int.sub_zero]; exact wrap_id (by omega) (by omega)
    have e4 : wrap64 (n - 1) = n - 1 := wrap_id (by omega) (by omega)
    have e5 : wrap64 (1 * n) = n := by rw [Int.one_mul]; exact wrap_id (by omega) (by omega)
    have hm : 0 ≤ n * (n - 1) ∧ n * (n - 1) ≤ 132 := by
      refine ⟨Int.mul_nonneg h0 (by omega), ?_⟩
      have := Int.mul_le_mul h1 (show n - 1 ≤ 11 by omega) (by omega) (by omega : (0:Int) ≤ 12)
      omega
    have e6 : wrap64 (n * (n - 1)) = n * (n - 1) := wrap_id (by omega) (by omega)
    have e7 : Int.tdiv (n * (n - 1)) 2 = n * (n - 1) / 2 := Int.tdiv_eq_ediv_of_nonneg hm.1
    have e8 : wrap64 (n * (n - 1) / 2) = n * (n - 1) / 2 := wrap_id (by omega) (by omega)
    have e9 : wrap64 n = n := wrap_id (by omega) (by omega)
    simp [impl_choose.l0, h, e1, e2, e3, e4, e5, e6, e7, e8, e9]
  · obtain rfl | rfl : n = 0 ∨ n = 1 := by omega
    · simp
    · simp

/-! ### impl_CountThrees: function 35 -/
def impl_CountThrees.f (k : Nat) (a0_0 : Int) (l0_1 : List (S43)) : Option (Int × Int × Int × Bool) := (impl_IsParty.f k a0_0 l0_1).bind fun t277 => (if t277 = true then ((impl_Party_table.f k a0_0 l0_1).bind fun t278 => ((impl_threes.f k a0_0 t278).bind fun t281 => ((impl_table_others.f k t278).bind fun t284 => ((impl_threes.f k a0_0 t284).bind fun t287 => ((impl_choose.f k a0_0 3).bind fun t290 => (some ((t281.length : Int), (t287.length : Int), wrap64 ((wrap64 (t290 - (t281.length : Int))) - (t287.length : Int)), true))))))) else (some (0, 0, 0, false)))
theorem impl_CountThrees.mono : ∀ a0 a1 k, LeO (impl_CountThrees.f k a0 a1) (impl_CountThrees.f (k + 1) a0 a1) := by
 intro a0 a1 k
 unfold impl_CountThrees.f
 repeat' first | (with_reducible first | exact impl_IsParty.mono .. | exact impl_Party_table.mono .. | exact impl_choose.mono .. | exact impl_table_others.mono .. | exact impl_threes.mono .. | exact LeO.refl _ | exact LeO.none _ | refine LeO.ite ?_ ?_ | refine LeO.bind ?_ (fun _ => ?_)) | exact impl_IsParty.mono .. | exact impl_Party_table.mono .. | exact impl_choose.mono .. | exact impl_table_others.mono .. | exact impl_threes.mono .. | exact LeO.none _ | refine LeO.ite ?_ ?_ | refine LeO.bind ?_ (fun _ => ?_)
def impl_CountThrees.T4 : Bool × List (List Nat × List Nat) := (true, [([], []), ([0], [0]), ([], []), ([2], [2]), ([1, 3], [1, 3]), ([4], [4]), ([], []), ([6], [6]), ([], []), ([8, 4], [8]), ([9], [9]), ([7, 10, 9], [7, 10]), ([11], [11]), ([5, 11, 0, 1, 2, 3, 4, 5], [5]), ([12, 13, 0, 1, 2, 3, 4, 5, 6, 7, 8, 9, 10, 11, 12, 13], [12])])
def impl_CountThrees.B4 : List Nat := [0, 1, 0, 4, 15, 31, 0, 64, 0, 287, 799, 2015, 4063, 4095, 16383]
theorem impl_CountThrees.tab4 : rtab .any (opsOf Tryd.f35 4) = impl_CountThrees.T4 := by kernel_rfl
theorem impl_CountThrees.bits4 : waitsOk impl_CountThrees.T4.2 impl_CountThrees.B4 = true := by kernel_rfl
theorem impl_CountThrees.calls (k : Nat) (a0_0 : Int) (A0_1 : Option Addr) (c0_1 : Nat) (l0_1 : List (S43)) (r1 : Int) (r2 : Int) (r3 : Int) (r4 : Bool) (w : World) (hr0_1 : Kd.C k43 w A0_1 l0_1.length l0_1) (hc0_1 : l0_1.length ≤ c0_1) (h : impl_CountThrees.f k a0_0 l0_1 = some (r1, r2, r3, r4)) :
  Calls Tryd.prog 35 #[.agg #[.int .i64 a0_0, .slice A0_1 l0_1.length c0_1]] w fun e w' => e = .returned (.tuple #[.int .i64 r1, .int .i64 r2, .int .i64 r3, .bool r4]) ∧ Below w.heap.size w w' := by
 have hu52 := Tryd.underlying52
 have HR0_1 := Aside0.mk hr0_1
 have HC0_1 := Aside0.mk hc0_1
 clear hr0_1 hc0_1
 have HB := Aside0.mk (Below.refl w.heap.size w)
 have H : ((impl_IsParty.f k a0_0 l0_1).bind fun t277 => (if t277 = true then ((impl_Party_table.f k a0_0 l0_1).bind fun t278 => ((impl_threes.f k a0_0 t278).bind fun t281 => ((impl_table_others.f k t278).bind fun t284 => ((impl_threes.f k a0_0 t284).bind fun t287 => ((impl_choose.f k a0_0 3).bind fun t290 => (some ((t281.length : Int), (t287.length : Int), wrap64 ((wrap64 (t290 - (t281.length : Int))) - (t287.length : Int)), true))))))) else (some (0, 0, 0, false)))) = some (r1, r2, r3, r4) := h
 clear h
 replace H := oB H; obtain ⟨t277, A2, H⟩ := H
 by_cases c3 : t277 = true
 ·subst c3
  rw [if_pos rfl] at H
  replace H := oB H; obtain ⟨t278, A4, H⟩ := H
  replace H := oB H; obtain ⟨t281, A5, H⟩ := H
  replace H := oB H; obtain ⟨t284, A6, H⟩ := H
  replace H := oB H; obtain ⟨t287, A7, H⟩ := H
  replace H := oB H; obtain ⟨t290, A8, H⟩ := H
  simp only [Option.some.injEq, Prod.mk.injEq] at H
  obtain ⟨rfl, rfl, rfl, rfl⟩ := H
  go_enter Tryd.func35, Tryd.ntmps35
  try go_wp2_with (first | ((with_reducible refine gate_dst (N := 1) rfl ?_); refine bxE 1 #[.int .i64 a0_0, .slice A0_1 l0_1.length c0_1] 52 rfl ?_; intro gb276 hg w9 hbox hb; have BK276 := Aside0.mk (hbox); have GW276 := gS HB hg; have GE276 := gS HB hg; replace HB := hS HB hb; clear hb hbox hg; obtain ⟨hcz10_0, hcz10_1, hfz10_0, hfz10_1⟩ := cf2 BK276) | ((with_reducible refine gate_callee (f := 43) rfl ?_); refine goC (N := some 10) Tryd.func43 #[.agg #[.int .i64 a0_0, .slice A0_1 l0_1.length c0_1]] rfl ?_; (with_reducible refine (impl_IsParty.calls k a0_0 _ _ l0_1 true _ ?side1 ?side2 A2.out).mono ?_); (case side1 => exact cS (Kd.C_below HR0_1.out HB.out)); (case side2 => exact HC0_1.out); rintro e w11 ⟨rfl, hb⟩; refine ⟨_, rfl, ?_⟩; replace BK276 := bS BK276 hb; replace HB := hS HB hb; (try clear hb); obtain ⟨hcz12_0, hcz12_1, hfz12_0, hfz12_1⟩ := cf2 BK276) | ((with_reducible refine gate_callee (f := 97) rfl ?_); refine goC (N := some 13) Tryd.func97 #[.agg #[.int .i64 a0_0, .slice A0_1 l0_1.length c0_1]] rfl ?_; (with_reducible refine (impl_Party_table.calls k a0_0 _ _ l0_1 t278 _ ?side1 ?side2 A4.out).mono ?_); (case side1 => exact cS (Kd.C_below HR0_1.out HB.out)); (case side2 => exact HC0_1.out); rintro e w13 ⟨v279, rfl, ho0, hb⟩; refine ⟨_, rfl, ?_⟩; have HO280 := Aside0.mk (Kd.R_lower ho0 (below_size hB)); replace BK276 := bS BK276 hb; replace HB := hS HB hb; (try clear hb ho0)))
  replace HO280 := Aside0.mk (Kd.R_drew HO280.out)
  replace BK276 := Aside0.mk (blk_drew BK276.out)
  replace HB := Aside0.mk (below_drew1 HB.out)
  obtain ⟨Ao15, co15, eo15⟩ := Kd.R_slice HO280.out
  (first | subst eo15 | (injection eo15 with f1_ f2_ f3_; have f4_ := f1_.symm; have f5_ := f3_.symm; clear f1_ f2_ f3_; subst f4_; subst f5_))
  refine start_ (n := 15) (S := fun w' => w'.cell? ⟨gb276, 0, none⟩ = some (.int .i64 a0_0) ∧ w'.cell? ⟨gb276, 1, none⟩ = some (.slice A0_1 l0_1.length c0_1)) (ds := []) (bz 15 0) (by kernel_rfl) rfl rfl ⟨(blk_cell BK276.out 0).trans rfl, (blk_cell BK276.out 1).trans rfl⟩ (fun hHeld => ?_); refine with_tabW impl_CountThrees.tab4 impl_CountThrees.bits4 (fun HT_ HW_ => ?_)
  generalize w13.drew = w14 at HO280 BK276 HB hHeld ⊢
  refine run_ [(0, 0, 1, some 14), (0, 2, 5, some 16), (0, 3, 13, some 17), (0, 6, 77, some 20), (0, 8, 333, some 22), (1, 1, 335, some 15), (1, 7, 463, some 21)] ?_
  repeat (first | (apply tag0; refine run_p (v := ?_) (a' := ?_) rfl rfl (any_of HT_.out (by kernel_rfl)) (fun _ _ _ h => h) (by rfl) ?_ ?_ ?_; rotate_left 2; (intro w'; go_simp; with_reducible rfl); (first | (simp only [Act.put, List.setIfInBounds_toArray, List.set_cons_zero, List.set_cons_succ, i64_w, i32_w]; rfl) | rfl)) | (apply tag1; refine run_t (v := ?_) (a' := ?_) rfl rfl (take_ofW HT_.out HW_.out (by kernel_rfl)) (fun _ _ _ h => h) (by rfl) ?_ hHeld ?_ ?_; rotate_left 2; (rintro w' ⟨s0, s1⟩; go_simp; with_reducible rfl); (first | (simp only [Act.put, List.setIfInBounds_toArray, List.set_cons_zero, List.set_cons_succ, i64_w, i32_w]; rfl) | rfl)))
  refine run_nil ?_
  refine one_ (i := 4) (N := some 18) (bz 15 479) rfl rfl (one_of HT_.out (by kernel_rfl)) (by decide) (fun K hK => ?_)
  refine goes_ Tryd.func98 (by kernel_rfl) rfl #[.int .i64 a0_0, .func (.func 99) #[.slice Ao15 t278.length co15] #[]] (by rfl) rfl rfl mapT ?_
  with_reducible refine (impl_threes.calls k a0_0 _ _ t278 t281 _ ?side1 ?side2 A5.out).mono ?_
  (case side1 => exact cS (Kd.R_reads' HO280.out).2.2)
  (case side2 => exact (Kd.R_reads' HO280.out).2.1)
  rintro e w16 ⟨v282, rfl, ho0, hb⟩
  refine ⟨_, rfl, ?_⟩
  have HO283 := Aside0.mk (Kd.S_lower ho0 (below_size hB))
  replace HO280 := rB HO280 hb
  replace BK276 := bS BK276 hb
  replace HB := hS HB hb
  (try clear hb)
  (try clear hb2)
  (try clear hk)
  (try clear hi)
  (try clear ho0)
  obtain ⟨Ao17, co17, eo17⟩ := Kd.S_slice HO283.out
  (first | subst eo17 | (injection eo17 with f1_ f2_ f3_; have f4_ := f1_.symm; have f5_ := f3_.symm; clear f1_ f2_ f3_; subst f4_; subst f5_))
  refine hK.out _ _ ⟨(blk_cell BK276.out 0).trans rfl, (blk_cell BK276.out 1).trans rfl⟩ (fun hHeld => ?_)
  clear hK K
  refine norm_ (a' := ?_) ?_ ?_
  rotate_left
  ·show Act.put _ (some 18) _ = _
   simp only [Act.put, List.setIfInBounds_toArray, List.set_cons_zero, List.set_cons_succ, i64_w, i32_w]
   rfl
  refine run_ [(0, 5, 511, some 19)] ?_
  repeat ((apply tag0; refine run_p (v := ?_) (a' := ?_) rfl rfl (any_of HT_.out (by kernel_rfl)) (fun _ _ _ h => h) (by rfl) ?_ ?_ ?_; rotate_left 2; (intro w'; go_simp; with_reducible rfl); (first | (simp only [Act.put, List.setIfInBounds_toArray, List.set_cons_zero, List.set_cons_succ, i64_w, i32_w]; rfl) | rfl)))
  refine run_nil ?_
  refine one_ (i := 9) (N := some 23) (bz 15 1023) rfl rfl (one_of HT_.out (by kernel_rfl)) (by decide) (fun K hK => ?_)
  refine goes_ Tryd.func100 (by kernel_rfl) rfl #[.slice Ao15 t278.length co15] (by rfl) rfl rfl mapT ?_
  with_reducible refine (impl_table_others.calls k _ _ t278 t284 _ ?side1 ?side2 A6.out).mono ?_
  (case side1 => exact cS (Kd.R_reads' HO280.out).2.2)
  (case side2 => exact (Kd.R_reads' HO280.out).2.1)
  rintro e w18 ⟨v285, rfl, ho0, hb⟩
  refine ⟨_, rfl, ?_⟩
  have HO286 := Aside0.mk (Kd.R_lower (Kd.R_new' ho0 (Kd.R_lt (rU HO280))) (below_size hB))
  replace HO280 := Aside0.mk (Kd.R_elder' (rU HO280) (Kd.R_base ho0) hb)
  replace HO283 := Aside0.mk (Kd.S_below (sU HO283) hb)
  replace BK276 := bS BK276 hb
  replace HB := hS HB hb
  (try clear hb)
  (try clear hb2)
  (try clear hk)
  (try clear hi)
  (try clear ho0)
  obtain ⟨Ao19, co19, eo19⟩ := Kd.R_slice HO286.out
  (first | subst eo19 | (injection eo19 with f1_ f2_ f3_; have f4_ := f1_.symm; have f5_ := f3_.symm; clear f1_ f2_ f3_; subst f4_; subst f5_))
  refine hK.out _ _ ⟨(blk_cell BK276.out 0).trans rfl, (blk_cell BK276.out 1).trans rfl⟩ (fun hHeld => ?_)
  clear hK K
  refine norm_ (a' := ?_) ?_ ?_
  rotate_left
  ·show Act.put _ (some 23) _ = _
   simp only [Act.put, List.setIfInBounds_toArray, List.set_cons_zero, List.set_cons_succ, i64_w, i32_w]
   rfl
  refine run_ [(0, 10, 2047, some 24)] ?_
  repeat ((apply tag0; refine run_p (v := ?_) (a' := ?_) rfl rfl (any_of HT_.out (by kernel_rfl)) (fun _ _ _ h => h) (by rfl) ?_ ?_ ?_; rotate_left 2; (intro w'; go_simp; with_reducible rfl); (first | (simp only [Act.put, List.setIfInBounds_toArray, List.set_cons_zero, List.set_cons_succ, i64_w, i32_w]; rfl) | rfl)))
  refine run_nil ?_
  refine one_ (i := 11) (N := some 25) (bz 15 4095) rfl rfl (one_of HT_.out (by kernel_rfl)) (by decide) (fun K hK => ?_)
  refine goes_ Tryd.func98 (by kernel_rfl) rfl #[.int .i64 a0_0, .func (.func 99) #[.slice Ao19 t284.length co19] #[]] (by rfl) rfl rfl mapT ?_
  with_reducible refine (impl_threes.calls k a0_0 _ _ t284 t287 _ ?side1 ?side2 A7.out).mono ?_
  (case side1 => exact cS (Kd.R_reads' HO286.out).2.2)
  (case side2 => exact (Kd.R_reads' HO286.out).2.1)
  rintro e w20 ⟨v288, rfl, ho0, hb⟩
  refine ⟨_, rfl, ?_⟩
  have HO289 := Aside0.mk (Kd.S_lower (Kd.S_new' ho0 (Kd.S_lt (sU HO283))) (below_size hB))
  replace HO280 := rB HO280 hb
  replace HO283 := Aside0.mk (Kd.S_elder' (sU HO283) (Kd.S_base ho0) hb)
  replace HO286 := rB HO286 hb
  replace BK276 := bS BK276 hb
  replace HB := hS HB hb
  (try clear hb)
  (try clear hb2)
  (try clear hk)
  (try clear hi)
  (try clear ho0)
  obtain ⟨Ao21, co21, eo21⟩ := Kd.S_slice HO289.out
  (first | subst eo21 | (injection eo21 with f1_ f2_ f3_; have f4_ := f1_.symm; have f5_ := f3_.symm; clear f1_ f2_ f3_; subst f4_; subst f5_))
  refine hK.out _ _ ⟨(blk_cell BK276.out 0).trans rfl, (blk_cell BK276.out 1).trans rfl⟩ (fun hHeld => ?_)
  clear hK K
  refine norm_ (a' := ?_) ?_ ?_
  rotate_left
  ·show Act.put _ (some 25) _ = _
   simp only [Act.put, List.setIfInBounds_toArray, List.set_cons_zero, List.set_cons_succ, i64_w, i32_w]
   rfl
  refine run_ [(0, 12, 8191, some 26), (0, 13, 16383, some 7), (0, 14, 32767, some 8)] ?_
  repeat ((apply tag0; refine run_p (v := ?_) (a' := ?_) rfl rfl (any_of HT_.out (by kernel_rfl)) (fun _ _ _ h => h) (by rfl) ?_ ?_ ?_; rotate_left 2; (intro w'; go_simp; with_reducible rfl); (first | (simp only [Act.put, List.setIfInBounds_toArray, List.set_cons_zero, List.set_cons_succ, i64_w, i32_w]; rfl) | rfl)))
  refine run_nil ?_
  refine done_ (done_of HT_.out (by kernel_rfl)) ?_
  obtain ⟨hcz22_0, hcz22_1, hfz22_0, hfz22_1⟩ := cf2 BK276
  try go_wp2_with (first | ((with_reducible refine gate_callee (f := 101) rfl ?_); refine goC (N := some 31) Tryd.func101 #[.int .i64 a0_0, .int .i64 3] rfl ?_; (with_reducible refine (impl_choose.calls k a0_0 3 t290 _ A8.out).mono ?_); rintro e w' ⟨rfl, ⟨nd, rfl⟩⟩; refine ⟨_, rfl, ?_⟩))
  refine bodyPost_ret (results_list (rs := [.tmp 2, .tmp 3, .tmp 4, .tmp 5]) rfl (by simp) (.tmp (.tmp (.tmp (.tmp .nil))))) rfl ?_
  exact ⟨eW, hB⟩
 ·replace c3 := Bool.eq_false_iff.mpr c3
  subst c3
  rw [if_neg (show ¬ (false = true) by decide)] at H
  simp only [Option.some.injEq, Prod.mk.injEq] at H
  obtain ⟨rfl, rfl, rfl, rfl⟩ := H
  go_enter Tryd.func35, Tryd.ntmps35
  go_wp2_with (first | ((with_reducible refine gate_dst (N := 1) rfl ?_); refine bxE 1 #[.int .i64 a0_0, .slice A0_1 l0_1.length c0_1] 52 rfl ?_; intro gb276 hg w23 hbox hb; have BK276 := Aside0.mk (hbox); have GW276 := gS HB hg; have GE276 := gS HB hg; replace HB := hS HB hb; clear hb hbox hg; obtain ⟨hcz24_0, hcz24_1, hfz24_0, hfz24_1⟩ := cf2 BK276) | ((with_reducible refine gate_callee (f := 43) rfl ?_); refine goC (N := some 10) Tryd.func43 #[.agg #[.int .i64 a0_0, .slice A0_1 l0_1.length c0_1]] rfl ?_; (with_reducible refine (impl_IsParty.calls k a0_0 _ _ l0_1 false _ ?side1 ?side2 A2.out).mono ?_); (case side1 => exact cS (Kd.C_below HR0_1.out HB.out)); (case side2 => exact HC0_1.out); rintro e w25 ⟨rfl, hb⟩; refine ⟨_, rfl, ?_⟩; replace BK276 := bS BK276 hb; replace HB := hS HB hb; (try clear hb)))
  refine bodyPost_ret (results_list (rs := [.tmp 2, .tmp 3, .tmp 4, .tmp 5]) rfl (by simp) (.tmp (.tmp (.tmp (.tmp .nil))))) rfl ?_
  exact ⟨eW, hB⟩

/-! ### spec_l1In: function 87 -/
def spec_l1In.f (a0 : Int) (a1 : Int) (a2 : Int) : Option (Bool) := if a0 ≥ a1 then (some (decide (a0 ≤ a2))) else (some false)
theorem spec_l1In.calls (a0 : Int) (a1 : Int) (a2 : Int) (r : Bool) (w : World) (h : spec_l1In.f a0 a1 a2 = some r) :
  Calls Tryd.prog 87 #[.int .i64 a0, .int .i64 a1, .int .i64 a2] w fun e w' => e = .returned (.bool r) ∧ Drawn0 w w' := by
 have H : (if a0 ≥ a1 then (some (decide (a0 ≤ a2))) else (some false)) = some r := h
 clear h
 by_cases c4 : a0 ≥ a1
 ·rw [if_pos c4] at H
  have c4b0 : decide (a1 ≤ a0) = true := decide_eq_true c4
  clear c4
  obtain rfl := Option.some.inj H
  go_enter Tryd.func87, Tryd.ntmps87
  go_wp2
  go_ret
  exact ⟨by first | rfl | (simp; done) | (simp [*]; done), by repeat (first | exact Drawn0.refl _ | apply Drawn0.step)⟩
 ·rw [if_neg c4] at H
  have c4b0 : decide (a1 ≤ a0) = false := decide_eq_false c4
  clear c4
  obtain rfl := Option.some.inj H
  go_enter Tryd.func87, Tryd.ntmps87
  go_wp2
  go_ret
  exact ⟨by first | rfl | (simp; done) | (simp [*]; done), by repeat (first | exact Drawn0.refl _ | apply Drawn0.step)⟩

/-! ### spec_paPeople: function 121 -/
def spec_paPeople.f (a0 : Int) : Option (Bool) := (spec_l1In.f a0 0 12).bind fun t291 => (some t291)
theorem spec_paPeople.calls (a0 : Int) (r : Bool) (w : World) (h : spec_paPeople.f a0 = some r) :
  Calls Tryd.prog 121 #[.int .i64 a0] w fun e w' => e = .returned (.bool r) ∧ Drawn0 w w' := by
 have H : ((spec_l1In.f a0 0 12).bind fun t291 => (some t291)) = some r := h
 clear h
 replace H := Option.bind_eq_some_iff.mp H
 obtain ⟨t291, A20, H⟩ := H
 replace H : (some t291) = some r := H
 have A2 := Aside0.mk A20
 clear A20
 obtain rfl := Option.some.inj H
 go_enter Tryd.func121, Tryd.ntmps121
 go_wp2_with (first | ((with_reducible refine gate_callee (f := 87) rfl ?_); refine goC (N := some 4) Tryd.func87 #[.int .i64 a0, .int .i64 0, .int .i64 12] rfl ?_; (with_reducible refine (spec_l1In.calls a0 0 12 t291 _ A2.out).mono ?_); rintro e w' ⟨rfl, ⟨nd, rfl⟩⟩; refine ⟨_, rfl, ?_⟩))
 go_ret
 exact ⟨by first | rfl | (simp; done) | (simp [*]; done), by repeat (first | exact Drawn0.refl _ | apply Drawn0.step)⟩

/-! ### spec_paLess: function 150 -/
def spec_paLess.f (a0_0 : Int) (a0_1 : Int) (a1_0 : Int) (a1_1 : Int) : Option (Bool) := if a0_0 < a1_0 then (some true) else (if a0_0 = a1_0 then (some (decide (a0_1 < a1_1))) else (some false))
theorem spec_paLess.calls (a0_0 : Int) (a0_1 : Int) (a1_0 : Int) (a1_1 : Int) (r : Bool) (w : World) (h : spec_paLess.f a0_0 a0_1 a1_0 a1_1 = some r) :
  Calls Tryd.prog 150 #[.agg #[.int .i64 a0_0, .int .i64 a0_1], .agg #[.int .i64 a1_0, .int .i64 a1_1]] w fun e w' => e = .returned (.bool r) ∧ Below w.heap.size w w' := by
 have hu43 := Tryd.underlying43
 have HB := Aside0.mk (Below.refl w.heap.size w)
 have H : (if a0_0 < a1_0 then (some true) else (if a0_0 = a1_0 then (some (decide (a0_1 < a1_1))) else (some false))) = some r := h
 clear h
 by_cases c3 : a0_0 < a1_0
 ·rw [if_pos c3] at H
  have c3b0 := decide_eq_true c3
  clear c3
  obtain rfl := Option.some.inj H
  go_enter Tryd.func150, Tryd.ntmps150
  go_wp2_with (first | ((with_reducible refine gate_dst (N := 2) rfl ?_); refine bxE 2 #[.int .i64 a0_0, .int .i64 a0_1] 43 rfl ?_; intro gb292 hg w4 hbox hb; have BK292 := Aside0.mk (hbox); have GW292 := gS HB hg; have GE292 := gS HB hg; replace HB := hS HB hb; clear hb hbox hg) | ((with_reducible refine gate_dst (N := 3) rfl ?_); refine bxE 3 #[.int .i64 a1_0, .int .i64 a1_1] 43 rfl ?_; intro gb293 hg w5 hbox hb; have BK293 := Aside0.mk (hbox); have GW293 := gS HB hg; have GE293 := gS HB hg; have NB292_293 := nL BK292 hg; have NB293_292 := nG BK292 hg; replace BK292 := bS BK292 hb; replace HB := hS HB hb; clear hb hbox hg; have hnb6 := NB292_293.out; have hnc6 := NB293_292.out; obtain ⟨hcz7_0, hcz7_1, hfz7_0, hfz7_1⟩ := cf2 BK292; obtain ⟨hcz8_0, hcz8_1, hfz8_0, hfz8_1⟩ := cf2 BK293))
  go_ret
  exact ⟨eW, hB⟩
 ·rw [if_neg c3] at H
  have c3b0 := decide_eq_false c3
  clear c3
  by_cases c9 : a0_0 = a1_0
  ·rw [if_pos c9] at H
   have c9b0 : (a0_0 == a1_0) = true := beq_iff_eq.mpr c9
   have c9b1 : (a0_0 != a1_0) = false := bne_eq_false_iff_eq.mpr c9
   clear c9
   obtain rfl := Option.some.inj H
   go_enter Tryd.func150, Tryd.ntmps150
   go_wp2_with (first | ((with_reducible refine gate_dst (N := 2) rfl ?_); refine bxE 2 #[.int .i64 a0_0, .int .i64 a0_1] 43 rfl ?_; intro gb292 hg w10 hbox hb; have BK292 := Aside0.mk (hbox); have GW292 := gS HB hg; have GE292 := gS HB hg; replace HB := hS HB hb; clear hb hbox hg) | ((with_reducible refine gate_dst (N := 3) rfl ?_); refine bxE 3 #[.int .i64 a1_0, .int .i64 a1_1] 43 rfl ?_; intro gb293 hg w11 hbox hb; have BK293 := Aside0.mk (hbox); have GW293 := gS HB hg; have GE293 := gS HB hg; have NB292_293 := nL BK292 hg; have NB293_292 := nG BK292 hg; replace BK292 := bS BK292 hb; replace HB := hS HB hb; clear hb hbox hg; have hnb12 := NB292_293.out; have hnc12 := NB293_292.out; obtain ⟨hcz13_0, hcz13_1, hfz13_0, hfz13_1⟩ := cf2 BK292; obtain ⟨hcz14_0, hcz14_1, hfz14_0, hfz14_1⟩ := cf2 BK293))
   go_ret
   exact ⟨eW, hB⟩
  ·rw [if_neg c9] at H
   have c9b0 : (a0_0 == a1_0) = false := beq_eq_false_iff_ne.mpr c9
   have c9b1 : (a0_0 != a1_0) = true := bne_iff_ne.mpr c9
   obtain rfl := Option.some.inj H
   go_enter Tryd.func150, Tryd.ntmps150
   go_wp2_with (first | ((with_reducible refine gate_dst (N := 2) rfl ?_); refine bxE 2 #[.int .i64 a0_0, .int .i64 a0_1] 43 rfl ?_; intro gb292 hg w15 hbox hb; have BK292 := Aside0.mk (hbox); have GW292 := gS HB hg; have GE292 := gS HB hg; replace HB := hS HB hb; clear hb hbox hg) | ((with_reducible refine gate_dst (N := 3) rfl ?_); refine bxE 3 #[.int .i64 a1_0, .int .i64 a1_1] 43 rfl ?_; intro gb293 hg w16 hbox hb; have BK293 := Aside0.mk (hbox); have GW293 := gS HB hg; have GE293 := gS HB hg; have NB292_293 := nL BK292 hg; have NB293_292 := nG BK292 hg; replace BK292 := bS BK292 hb; replace HB := hS HB hb; clear hb hbox hg; have hnb17 := NB292_293.out; have hnc17 := NB293_292.out; obtain ⟨hcz18_0, hcz18_1, hfz18_0, hfz18_1⟩ := cf2 BK292; obtain ⟨hcz19_0, hcz19_1, hfz19_0, hfz19_1⟩ := cf2 BK293))
   go_ret
   exact ⟨eW, hB⟩

end Go.Proofs.YtbjmkkgejekpnaaDoor.PFnThreesCounted
