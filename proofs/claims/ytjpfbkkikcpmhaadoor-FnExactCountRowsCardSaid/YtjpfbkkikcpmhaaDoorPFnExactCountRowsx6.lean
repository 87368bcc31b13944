-- Of this session's own program wip/gen/gen.py (it drives the kit's print): contracts of the functions that the law reaches.
import Derived.Test.YtjpfbkkikcpmhaaDoorPFnExactCountRowsx0
import Derived.Test.YtjpfbkkikcpmhaaDoorPFnExactCountRowsx5
namespace Go.Proofs.YtjpfbkkikcpmhaaDoor.PFnExactCountRows
open Go.RowKit Go.Proofs.YtjpfbkkikcpmhaaDoorW.PrintWords Go.Proofs.YtjpfbkkikcpmhaaDoorW.PrintLast Go.Proofs.YtjpfbkkikcpmhaaDoorW.PrintMore Go.Proofs.YtjpfbkkikcpmhaaDoor.Base
attribute [local go_sem] max2_int min2_int max_two min_two max_three min_three max_four min_four   -- for this text's walks alone
set_option linter.unusedVariables false
set_option linter.unusedSimpArgs false

/-! ### impl_table_countRows: function 84 (a text of this session's own) -/

def impl_table_countRows.rdR (xs : List (List Int)) (i : Int) : (List Int) := xs.getD i.toNat ([] : List Int)
theorem impl_table_countRows.atR {w : World} {A : Option Addr} {n : Nat} {xs : List (List Int)} (h : Kd.C (Kd.slice 3 (Kd.int .i64)) w A n xs) (i : Int) (h0 : 0 ≤ i) (h1 : i < n) : ∃ ad A0 c0, A = some ad ∧ w.cell? (ad.add i.toNat) = some (.slice A0 (impl_table_countRows.rdR xs i).length c0) ∧ (impl_table_countRows.rdR xs i).length ≤ c0 ∧ (Kd.int .i64).C w A0 (impl_table_countRows.rdR xs i).length (impl_table_countRows.rdR xs i) := by
  obtain ⟨ad, c, e, _, hK, hc0⟩ := Kd.C_get h ([] : List Int) i h0 h1
  have hc : ∀ j u, c[j]? = some u → w.cell? (ad.add (i.toNat * 1 + j)) = some u := hc0
  obtain ⟨A0, c0, rfl, l0, g0⟩ := hK
  exact ⟨ad, A0, c0, e, by have hq := hc 0 _ rfl; rwa [Nat.mul_one, Nat.add_zero] at hq, l0, g0⟩
theorem impl_table_countRows.add_block (a : Addr) (j : Nat) : (a.add j).block = a.block := by unfold Addr.add; split <;> rfl
mutual
def impl_table_countRows.l0 : Nat → List Int → Int → List (List Int) → Int → Int → Option (List Int)
 | 0, _, _, _, _, _ => none
 | k + 1, x0, x1, x5, x19, x20 => if x20 < x19 then (if 0 ≤ (x0.length : Int) then (if ((x0.length : Int) : Int).toNat ≤ 35184372088832 then (if 0 ≤ x20 then (if x20 < (x5.length : Int) then (impl_table_countRows.l0 k x0 x1 (x5.set (x20 : Int).toNat (List.replicate ((x0.length : Int) : Int).toNat 0)) x19 (wrap64 (x20 + 1))) else (none)) else (none)) else (none)) else (none)) else ((impl_listed.f k x1).bind fun t215 => (impl_table_countRows.l1 k x0 x5 t215 (t215.length : Int) 0))
def impl_table_countRows.l1 : Nat → List Int → List (List Int) → List Int → Int → Int → Option (List Int)
 | 0, _, _, _, _, _ => none
 | k + 1, x0, x5, x31, x32, x33 => if x33 < x32 then (if 0 ≤ x33 then (if x33 < (x31.length : Int) then (if 0 ≤ (rd x31 x33) then (if 0 ≤ (shl .i64 1 (rd x31 x33)) then (if (shl .i64 1 (rd x31 x33)) < (x5.length : Int) then (if (rd x31 x33) < ((impl_table_countRows.rdR x5 (shl .i64 1 (rd x31 x33))).length : Int) then (impl_table_countRows.l1 k x0 (x5.set ((shl .i64 1 (rd x31 x33)) : Int).toNat ((impl_table_countRows.rdR x5 (shl .i64 1 (rd x31 x33))).set ((rd x31 x33) : Int).toNat 1)) x31 x32 (wrap64 (x33 + 1))) else (none)) else (none)) else (none)) else (none)) else (none)) else (none)) else (impl_table_countRows.l2 k x0 x5 (x5.length : Int) 0)
def impl_table_countRows.l2 : Nat → List Int → List (List Int) → Int → Int → Option (List Int)
 | 0, _, _, _, _ => none
 | k + 1, x0, x5, x46, x47 => if x47 < x46 then (if 0 ≤ x47 then (if x47 < (x5.length : Int) then (impl_table_countRows.l3 k x0 x5 x47 x46 x47 (impl_table_countRows.rdR x5 x47) ((impl_table_countRows.rdR x5 x47).length : Int) 0) else (none)) else (none)) else (if 0 ≤ (wrap64 ((x5.length : Int) - 1)) then (if (wrap64 ((x5.length : Int) - 1)) < (x5.length : Int) then (some (impl_table_countRows.rdR x5 (wrap64 ((x5.length : Int) - 1)))) else (none)) else (none))
def impl_table_countRows.l3 : Nat → List Int → List (List Int) → Int → Int → Int → List Int → Int → Int → Option (List Int)
 | 0, _, _, _, _, _, _, _, _ => none
 | k + 1, x0, x5, x9, x46, x47, x53, x54, x55 => if x55 < x54 then (if 0 ≤ x55 then (if x55 < (x53.length : Int) then (if (rd (impl_table_countRows.rdR x5 x47) x55) = 0 then (impl_table_countRows.l3 k x0 x5 x9 x46 x47 x53 x54 (wrap64 (x55 + 1))) else (if x55 < (x0.length : Int) then ((impl_listed.f k (Go.bits .andNot .u16 (rd x0 x55) (IntKind.u16.wrap (x9)))).bind fun t227 => (impl_table_countRows.l4 k x0 x5 x9 (rd (impl_table_countRows.rdR x5 x47) x55) x46 x47 x53 x54 x55 t227 (t227.length : Int) 0)) else (none))) else (none)) else (none)) else (impl_table_countRows.l2 k x0 x5 x46 (wrap64 (x47 + 1)))
def impl_table_countRows.l4 : Nat → List Int → List (List Int) → Int → Int → Int → Int → List Int → Int → Int → List Int → Int → Int → Option (List Int)
 | 0, _, _, _, _, _, _, _, _, _, _, _, _ => none
 | k + 1, x0, x5, x9, x11, x46, x47, x53, x54, x55, x69, x70, x71 => if x71 < x70 then (if 0 ≤ x71 then (if x71 < (x69.length : Int) then (if 0 ≤ (rd x69 x71) then (if 0 ≤ (Go.bits .or .i64 x9 (shl .i64 1 (rd x69 x71))) then (if (Go.bits .or .i64 x9 (shl .i64 1 (rd x69 x71))) < (x5.length : Int) then (if (rd x69 x71) < ((impl_table_countRows.rdR x5 (Go.bits .or .i64 x9 (shl .i64 1 (rd x69 x71)))).length : Int) then (impl_table_countRows.l4 k x0 (x5.set ((Go.bits .or .i64 x9 (shl .i64 1 (rd x69 x71))) : Int).toNat ((impl_table_countRows.rdR x5 (Go.bits .or .i64 x9 (shl .i64 1 (rd x69 x71)))).set ((rd x69 x71) : Int).toNat (wrap64 ((rd (impl_table_countRows.rdR x5 (Go.bits .or .i64 x9 (shl .i64 1 (rd x69 x71)))) (rd x69 x71)) + x11)))) x9 x11 x46 x47 x53 x54 x55 x69 x70 (wrap64 (x71 + 1))) else (none)) else (none)) else (none)) else (none)) else (none)) else (none)) else (impl_table_countRows.l3 k x0 x5 x9 x46 x47 x53 x54 (wrap64 (x55 + 1)))
end
def impl_table_countRows.f (k : Nat) (l0 : List Int) (a1 : Int) : Option (List Int) := if 0 ≤ (shl .i64 1 (l0.length : Int)) then (if (shl .i64 1 (l0.length : Int) : Int).toNat ≤ 11728124029610 then ((some (List.replicate (shl .i64 1 (l0.length : Int) : Int).toNat [] : List (List Int))).bind fun y208 => (impl_table_countRows.l0 k l0 a1 y208 (y208.length : Int) 0)) else (none)) else (none)
theorem impl_table_countRows.mono_l : ∀ k, (∀ y0 y1 y2 y3 y4, LeO (impl_table_countRows.l0 k y0 y1 y2 y3 y4) (impl_table_countRows.l0 (k + 1) y0 y1 y2 y3 y4)) ∧ (∀ y0 y1 y2 y3 y4, LeO (impl_table_countRows.l1 k y0 y1 y2 y3 y4) (impl_table_countRows.l1 (k + 1) y0 y1 y2 y3 y4)) ∧ (∀ y0 y1 y2 y3, LeO (impl_table_countRows.l2 k y0 y1 y2 y3) (impl_table_countRows.l2 (k + 1) y0 y1 y2 y3)) ∧ (∀ y0 y1 y2 y3 y4 y5 y6 y7, LeO (impl_table_countRows.l3 k y0 y1 y2 y3 y4 y5 y6 y7) (impl_table_countRows.l3 (k + 1) y0 y1 y2 y3 y4 y5 y6 y7)) ∧ (∀ y0 y1 y2 y3 y4 y5 y6 y7 y8 y9 y10 y11, LeO (impl_table_countRows.l4 k y0 y1 y2 y3 y4 y5 y6 y7 y8 y9 y10 y11) (impl_table_countRows.l4 (k + 1) y0 y1 y2 y3 y4 y5 y6 y7 y8 y9 y10 y11))
 | 0 => ⟨fun _ _ _ _ _ r h => by simp [impl_table_countRows.l0] at h, fun _ _ _ _ _ r h => by simp [impl_table_countRows.l1] at h, fun _ _ _ _ r h => by simp [impl_table_countRows.l2] at h, fun _ _ _ _ _ _ _ _ r h => by simp [impl_table_countRows.l3] at h, fun _ _ _ _ _ _ _ _ _ _ _ _ r h => by simp [impl_table_countRows.l4] at h⟩
 | k + 1 => by
  obtain ⟨ih0, ih1, ih2, ih3, ih4⟩ := impl_table_countRows.mono_l k
  refine ⟨?_, ?_, ?_, ?_, ?_⟩
  ·intro y0 y1 y2 y3 y4
   unfold impl_table_countRows.l0
   repeat' first
   | (with_reducible exact ih0 _ _ _ _ _)
   | (with_reducible exact ih1 _ _ _ _ _)
   | (with_reducible exact ih2 _ _ _ _)
   | (with_reducible exact ih3 _ _ _ _ _ _ _ _)
   | (with_reducible exact ih4 _ _ _ _ _ _ _ _ _ _ _ _)
   | (with_reducible exact impl_listed.mono _ _)
   | (with_reducible exact LeO.refl _)
   | (with_reducible exact LeO.none _)
   | (with_reducible refine LeO.ite ?_ ?_)
   | (with_reducible refine LeO.bind ?_ (fun _ => ?_))
   | exact ih0 _ _ _ _ _
   | exact ih1 _ _ _ _ _
   | exact ih2 _ _ _ _
   | exact ih3 _ _ _ _ _ _ _ _
   | exact ih4 _ _ _ _ _ _ _ _ _ _ _ _
   | exact impl_listed.mono _ _
   | exact LeO.none _
   | refine LeO.ite ?_ ?_
   | refine LeO.bind ?_ (fun _ => ?_)
  ·intro y0 y1 y2 y3 y4
   unfold impl_table_countRows.l1
   repeat' first
   | (with_reducible exact ih0 _ _ _ _ _)
   | (with_reducible exact ih1 _ _ _ _ _)
   | (with_reducible exact ih2 _ _ _ _)
   | (with_reducible exact ih3 _ _ _ _ _ _ _ _)
   | (with_reducible exact ih4 _ _ _ _ _ _ _ _ _ _ _ _)
   | (with_reducible exact impl_listed.mono _ _)
   | (with_reducible exact LeO.refl _)
   | (with_reducible exact LeO.none _)
   | (with_reducible refine LeO.ite ?_ ?_)
   | (with_reducible refine LeO.bind ?_ (fun _ => ?_))
   | exact ih0 _ _ _ _ _
   | exact ih1 _ _ _ _ _
   | exact ih2 _ _ _ _
   | exact ih3 _ _ _ _ _ _ _ _
   | exact ih4 _ _ _ _ _ _ _ _ _ _ _ _
   | exact impl_listed.mono _ _
   | exact LeO.none _
   | refine LeO.ite ?_ ?_
   | refine LeO.bind ?_ (fun _ => ?_)
  ·intro y0 y1 y2 y3
   unfold impl_table_countRows.l2
   repeat' first
   | (with_reducible exact ih0 _ _ _ _ _)
   | (with_reducible exact ih1 _ _ _ _ _)
   | (with_reducible exact ih2 _ _ _ _)
   | (with_reducible exact ih3 _ _ _ _ _ _ _ _)
   | (with_reducible exact ih4 _ _ _ _ _ _ _ _ _ _ _ _)
   | (with_reducible exact impl_listed.mono _ _)
   | (with_reducible exact LeO.refl _)
   | (with_reducible exact LeO.none _)
   | (with_reducible refine LeO.ite ?_ ?_)
   | (with_reducible refine LeO.bind ?_ (fun _ => ?_))
   | exact ih0 _ _ _ _ _
   | exact ih1 _ _ _ _ _
   | exact ih2 _ _ _ _
   | exact ih3 _ _ _ _ _ _ _ _
   | exact ih4 _ _ _ _ _ _ _ _ _ _ _ _
   | exact impl_listed.mono _ _
   | exact LeO.none _
   | refine LeO.ite ?_ ?_
   | refine LeO.bind ?_ (fun _ => ?_)
  ·intro y0 y1 y2 y3 y4 y5 y6 y7
   unfold impl_table_countRows.l3
   repeat' first
   | (with_reducible exact ih0 _ _ _ _ _)
   | (with_reducible exact ih1 _ _ _ _ _)
   | (with_reducible exact ih2 _ _ _ _)
   | (with_reducible exact ih3 _ _ _ _ _ _ _ _)
   | (with_reducible exact ih4 _ _ _ _ _ _ _ _ _ _ _ _)
   | (with_reducible exact impl_listed.mono _ _)
   | (with_reducible exact LeO.refl _)
   | (with_reducible exact LeO.none _)
   | (with_reducible refine LeO.ite ?_ ?_)
   | (with_reducible refine LeO.bind ?_ (fun _ => ?_))
   | exact ih0 _ _ _ _ _
   | exact ih1 _ _ _ _ _
   | exact ih2 _ _ _ _
   | exact ih3 _ _ _ _ _ _ _ _
   | exact ih4 _ _ _ _ _ _ _ _ _ _ _ _
   | exact impl_listed.mono _ _
   | exact LeO.none _
   | refine LeO.ite ?_ ?_
   | refine LeO.bind ?_ (fun _ => ?_)
  ·intro y0 y1 y2 y3 y4 y5 y6 y7 y8 y9 y10 y11
   unfold impl_table_countRows.l4
   repeat' first
   | (with_reducible exact ih0 _ _ _ _ _)
   | (with_reducible exact ih1 _ _ _ _ _)
   | (with_reducible exact ih2 _ _ _ _)
   | (with_reducible exact ih3 _ _ _ _ _ _ _ _)
   | (with_reducible exact ih4 _ _ _ _ _ _ _ _ _ _ _ _)
   | (with_reducible exact impl_listed.mono _ _)
   | (with_reducible exact LeO.refl _)
   | (with_reducible exact LeO.none _)
   | (with_reducible refine LeO.ite ?_ ?_)
   | (with_reducible refine LeO.bind ?_ (fun _ => ?_))
   | exact ih0 _ _ _ _ _
   | exact ih1 _ _ _ _ _
   | exact ih2 _ _ _ _
   | exact ih3 _ _ _ _ _ _ _ _
   | exact ih4 _ _ _ _ _ _ _ _ _ _ _ _
   | exact impl_listed.mono _ _
   | exact LeO.none _
   | refine LeO.ite ?_ ?_
   | refine LeO.bind ?_ (fun _ => ?_)
theorem impl_table_countRows.mono : ∀ a0 a1 k, LeO (impl_table_countRows.f k a0 a1) (impl_table_countRows.f (k + 1) a0 a1) := by
 intro a0 a1 k
 obtain ⟨ih0, ih1, ih2, ih3, ih4⟩ := impl_table_countRows.mono_l k
 unfold impl_table_countRows.f
 repeat' first
   | (with_reducible exact ih0 _ _ _ _ _)
   | (with_reducible exact ih1 _ _ _ _ _)
   | (with_reducible exact ih2 _ _ _ _)
   | (with_reducible exact ih3 _ _ _ _ _ _ _ _)
   | (with_reducible exact ih4 _ _ _ _ _ _ _ _ _ _ _ _)
   | (with_reducible exact impl_listed.mono _ _)
   | (with_reducible exact LeO.refl _)
   | (with_reducible exact LeO.none _)
   | (with_reducible refine LeO.ite ?_ ?_)
   | (with_reducible refine LeO.bind ?_ (fun _ => ?_))
   | exact ih0 _ _ _ _ _
   | exact ih1 _ _ _ _ _
   | exact ih2 _ _ _ _
   | exact ih3 _ _ _ _ _ _ _ _
   | exact ih4 _ _ _ _ _ _ _ _ _ _ _ _
   | exact impl_listed.mono _ _
   | exact LeO.none _
   | refine LeO.ite ?_ ?_
   | refine LeO.bind ?_ (fun _ => ?_)
set_option maxHeartbeats 8000000 in
set_option maxRecDepth 100000 in
theorem impl_table_countRows.calls (k : Nat) (A0 : Option Addr) (c0 : Nat) (l0 : List Int) (a1 : Int) (r : List Int) (w : World) (hr0 : Kd.C (Kd.int .u16) w A0 l0.length l0) (hc0 : l0.length ≤ c0) (h : impl_table_countRows.f k l0 a1 = some r) (hG : GTab 0 w := by first | exact Aside0.out ‹Aside0 (GTab _ _)› | exact GTab.up (Aside0.out ‹Aside0 (GTab _ _)›) (by repeat (first | (with_reducible first | exact Below.refl _ _ | exact Aside0.out ‹Aside0 (Below _ _ _)› | apply below_alloc | apply pw_below_drewN | apply below_drew1 | refine below_set ?_ (Aside0.out (by assumption))) | exact Aside0.out ‹Aside0 (Below _ _ _)›))) :
  Calls Tryd.prog 84 #[.slice A0 l0.length c0, .int .u16 a1] w fun e w' => ∃ v0_ : Value, e = .returned (v0_) ∧ Kd.R (Kd.int .i64) 3 w' w.heap.size (fun _ => True) v0_ r ∧ Below w.heap.size w w' := by
 have HG := Aside0.mk (p := GTab _ _) hG
 clear hG
 have HR0 := Aside0.mk hr0
 have HC0 := Aside0.mk hc0
 clear hr0 hc0
 have HB := Aside0.mk (Below.refl w.heap.size w)
 have H : (if 0 ≤ (shl .i64 1 (l0.length : Int)) then (if (shl .i64 1 (l0.length : Int) : Int).toNat ≤ 11728124029610 then ((some (List.replicate (shl .i64 1 (l0.length : Int) : Int).toNat [] : List (List Int))).bind fun y208 => (impl_table_countRows.l0 k l0 a1 y208 (y208.length : Int) 0)) else (none)) else (none)) = some r := h
 clear h
 obtain ⟨ji3, hji3⟩ : ∃ j_ : Int, (shl .i64 1 (l0.length : Int)) = j_ := ⟨_, rfl⟩
 replace H : (if 0 ≤ (ji3) then (if (ji3 : Int).toNat ≤ 11728124029610 then ((some (List.replicate (ji3 : Int).toNat [] : List (List Int))).bind fun y208 => (impl_table_countRows.l0 k l0 a1 y208 (y208.length : Int) 0)) else (none)) else (none)) = some r := by first | (rw [hji3] at H; exact H) | (simp only [hji3] at H ⊢; exact H)
 have hji3_ : (IntKind.i64.wrap (1 * 2 ^ min (l0.length : Int).toNat 64)) = ji3 := hji3
 have hji3z : (l0.length : Int) ≤ 64 → (IntKind.i64.wrap (1 * 2 ^ (l0.length : Int).toNat)) = ji3 := shl_small hji3
 have hji3p : (IntKind.i64.wrap (1 * 2 ^ min l0.length 64)) = ji3 := hji3_
 have hji3q : (l0.length : Int) ≤ 64 → (IntKind.i64.wrap (1 * 2 ^ l0.length)) = ji3 := hji3z
 have hji3r : (IntKind.i64.wrap (2 ^ min l0.length 64)) = ji3 := by have h_ := hji3p; rw [Int.one_mul] at h_; exact h_
 have hji3s : (l0.length : Int) ≤ 64 → (IntKind.i64.wrap (2 ^ l0.length)) = ji3 := fun hle_ => by have h_ := hji3q hle_; rw [Int.one_mul] at h_; exact h_
 have hji3u : (IntKind.i64.wrap (2 ^ min (l0.length : Int).toNat 64)) = ji3 := by have h_ := hji3_; rw [Int.one_mul] at h_; exact h_
 have hji3v : (l0.length : Int) ≤ 64 → (IntKind.i64.wrap (2 ^ (l0.length : Int).toNat)) = ji3 := fun hle_ => by have h_ := hji3z hle_; rw [Int.one_mul] at h_; exact h_
 have hji3y : (wrap64 (1 * 2 ^ min (l0.length : Int).toNat 64)) = ji3 := (i64_w _).symm.trans hji3_
 have hji3x : (l0.length : Int) ≤ 64 → (wrap64 (1 * 2 ^ (l0.length : Int).toNat)) = ji3 := fun h_ => (i64_w _).symm.trans (hji3z h_)
 by_cases c4 : 0 ≤ (ji3)
 ·rw [if_pos c4] at H
  have c4b0 := eq_true c4
  have c4b1 : decide (0 ≤ (ji3)) = true := decide_eq_true c4
  clear c4
  by_cases c5 : (ji3 : Int).toNat ≤ 11728124029610
  ·rw [if_pos c5] at H
   have c5b0 := eq_true c5
   have c5b1 : decide ((ji3 : Int).toNat ≤ 11728124029610) = true := decide_eq_true c5
   clear c5
   obtain ⟨y208, hy208⟩ : ∃ y_ : List (List Int), y_ = (List.replicate (ji3 : Int).toNat []) := ⟨_, rfl⟩
   replace H : (impl_table_countRows.l0 k l0 a1 y208 (y208.length : Int) 0) = some r := by first | (rw [hy208]; with_reducible exact H) | (have H2_ := (Option.bind_some _ _).symm.trans H; rw [hy208]; with_reducible exact H2_) | (have H2_ := (Option.bind_some _ _).symm.trans H; with_reducible exact H2_) | with_reducible exact H | (rw [hy208]; exact H) | exact H
   have Ny208 := Aside0.mk hy208
   clear hy208
   have H' := Aside0.mk H
   clear H
   go_enter Tryd.func84, Tryd.ntmps84
   go_wp2_with (first | ((with_reducible refine gate_dst (N := 17) rfl ?_); refine Kd.S_make (Kd.slice 3 (Kd.int .i64)) _ 75 rfl (N := 17) rfl 58 _ _ rfl ji3 rfl rfl Tryd.underlying58 (.slice none 0 0) 24 info75 rfl (by decide) (by omega) [] (ok := fun _ => True) (okp := fun _ => True) ⟨_, rfl, Kd.R_nil _ _ _ _ _⟩ (fun _ hk => hk) trivial (of_decide_eq_true (by first | (with_reducible assumption) | assumption)) (Nat.le_trans (Nat.mul_le_mul_right _ (of_decide_eq_true (by first | (with_reducible assumption) | assumption) : ji3.toNat ≤ 11728124029610)) (by omega)) (Below.refl _ _) (Nat.le_refl _) ?_; intro v209 w6 ho7 hb hg_ hnew_; clear hg_ hnew_; (first | rw [← Ny208.out] at ho7 | (simp only [Int.reduceToNat] at ho7; rw [← Ny208.out] at ho7)); have HO210 := Aside0.mk (Kd.S_lower ho7 (below_size hB)); replace HB := hS HB hb; clear hb ho7; obtain ⟨Ao8, co8, eo8⟩ := Kd.S_slice HO210.out; subst eo8))
   go_loopg [20] k (fun kq v20 w' => ∃ (x5_1 : List (List Int)) (x20_1 : Int), v20 = .int .i64 x20_1 ∧ Aside0 (impl_table_countRows.l0 kq l0 a1 x5_1 (y208.length : Int) x20_1 = some r) ∧ Aside0 (kq ≤ k) ∧ Aside0 (Kd.S (Kd.slice 3 (Kd.int .i64)) 75 w' w.heap.size (fun _ => True) (.slice Ao8 y208.length co8) x5_1) ∧ Aside0 (Below w.heap.size w w'))
   case atStart => exact ⟨(y208), (0), (by first | rfl | (simp; done) | (simp [*]; done)), H', ⟨Nat.le_refl _⟩, ⟨sU HO210⟩, ⟨hB⟩⟩
   case round =>
    clear H'
    try clear p2
    try clear c4
    try clear c4b0
    try clear c4b1
    try clear c5
    try clear c5b0
    try clear c5b1
    try clear p6
    try clear c8
    obtain ⟨x5_1, x20_1, rfl, HA, HK1, HO_5, HB⟩ := hrel
    have hl5_1 := (Kd.S_reads' HO_5.out).1
    rw [hl5_1] at HO_5
    (try simp only [hl5_1])
    cases gk with
    | zero => exact absurd HA.out (by simp [impl_table_countRows.l0])
    | succ k1 =>
     have H := HA.out
     clear HA
     simp only [impl_table_countRows.l0] at H
     by_cases c9 : x20_1 < (y208.length : Int)
     ·rw [if_pos c9] at H
      have c9b0 : decide (x20_1 < (y208.length : Int)) = true := decide_eq_true c9
      (try (have c9b0m := c9b0; simp only [hl5_1] at c9b0m))
      clear c9
      by_cases c10 : 0 ≤ (l0.length : Int)
      ·rw [if_pos c10] at H
       have c10b0 := eq_true c10
       have c10b1 : decide (0 ≤ (l0.length : Int)) = true := decide_eq_true c10
       (try (have c10b1m := c10b1; simp only [hl5_1] at c10b1m))
       clear c10
       by_cases c11 : ((l0.length : Int) : Int).toNat ≤ 35184372088832
       ·rw [if_pos c11] at H
        have c11b0 := eq_true c11
        have c11b1 : decide (((l0.length : Int) : Int).toNat ≤ 35184372088832) = true := decide_eq_true c11
        (try (have c11b1m := c11b1; simp only [hl5_1] at c11b1m))
        clear c11
        obtain ⟨y211, hy211⟩ : ∃ y_ : List Int, y_ = (List.replicate ((l0.length : Int) : Int).toNat 0) := ⟨_, rfl⟩
        replace H : (if 0 ≤ x20_1 then (if x20_1 < (x5_1.length : Int) then (impl_table_countRows.l0 k1 l0 a1 (x5_1.set (x20_1 : Int).toNat y211) (y208.length : Int) (wrap64 (x20_1 + 1))) else (none)) else (none)) = some r := by first | (rw [hy211]; with_reducible exact H) | (have H2_ := (Option.bind_some _ _).symm.trans H; rw [hy211]; with_reducible exact H2_) | (have H2_ := (Option.bind_some _ _).symm.trans H; with_reducible exact H2_) | with_reducible exact H | (rw [hy211]; exact H) | exact H
        have Ny211 := Aside0.mk hy211
        clear hy211
        by_cases c12 : 0 ≤ x20_1
        ·rw [if_pos c12] at H
         have c12b0 : decide (0 ≤ x20_1) = true := decide_eq_true c12
         clear c12
         by_cases c13 : x20_1 < (x5_1.length : Int)
         ·rw [if_pos c13] at H
          have c13b0 : decide (x20_1 < (x5_1.length : Int)) = true := decide_eq_true c13
          (try (have c13b0m := c13b0; simp only [hl5_1] at c13b0m))
          clear c13
          obtain ⟨y214, hy214⟩ : ∃ y_ : List (List Int), y_ = (x5_1.set (x20_1 : Int).toNat y211) := ⟨_, rfl⟩
          replace H : (impl_table_countRows.l0 k1 l0 a1 y214 (y208.length : Int) (wrap64 (x20_1 + 1))) = some r := by first | (rw [hy214]; with_reducible exact H) | (have H2_ := (Option.bind_some _ _).symm.trans H; rw [hy214]; with_reducible exact H2_) | (have H2_ := (Option.bind_some _ _).symm.trans H; with_reducible exact H2_) | with_reducible exact H | (rw [hy214]; exact H) | exact H
          have Ny214 := Aside0.mk hy214
          clear hy214
          have H' := Aside0.mk H
          clear H
          go_wp2_with (first | ((with_reducible refine gate_dst (N := 27) rfl ?_); refine Kd.R_make (Kd.int .i64) _ 3 rfl (N := 27) rfl 75 _ _ rfl (l0.length : Int) rfl rfl Tryd.underlying75 (.int .i64 0) 8 info3 rfl (by decide) (by omega) 0 (ok := fun _ => True) (okp := fun _ => True) rfl (fun _ hk => hk) trivial (of_decide_eq_true (by first | (with_reducible assumption) | assumption)) (Nat.le_trans (Nat.mul_le_mul_right _ (of_decide_eq_true (by first | (with_reducible assumption) | assumption) : (l0.length : Int).toNat ≤ 35184372088832)) (by omega)) (Below.refl _ _) (Nat.le_refl _) ?_; intro v212 w15 ho16 hb hg_ hnew_; clear hg_ hnew_; (first | rw [← Ny211.out] at ho16 | (simp only [Int.reduceToNat] at ho16; rw [← Ny211.out] at ho16)); have HO213 := Aside0.mk (Kd.R_lower ho16 (below_size hB)); obtain ⟨Am212, cm212, em212⟩ := Kd.R_slice ho16; subst em212; replace HO_5 := Aside0.mk (Kd.S_elder' (sU HO_5) (Kd.R_base ho16) hb); replace HB := hS HB hb; clear hb ho16; have p14 : 0 ≤ (x20_1 : Int) := of_decide_eq_true (by first | (with_reducible assumption) | assumption); have q14 : (x20_1 : Int) < ((x5_1.length : Int) : Int) := of_decide_eq_true (by first | (with_reducible assumption) | assumption); obtain ⟨go14, co14, eo14, gb14, gl14, cl14, HG14⟩ := Kd.S_form HO_5.out (by omega); (first | cases eo14 | (injection eo14 with ea_ en_ ec_; (first | subst ea_ | (injection ea_ with ea_; subst ea_)); subst ec_; clear en_)); have GB14 := Aside0.mk gb14; have GG14 := Aside0.mk HG14; clear gb14 gl14 HG14; obtain ⟨_, ce14, hcl14, hM14, hcc14, hfr14, _, _⟩ := Kd.S_elem HO_5.out [] (x20_1 : Int) p14 q14; obtain ⟨ve14_0, rfl, ge14_0⟩ := hM14; have hx14_0 := hcc14 0 _ rfl; have hf14_0 := hfr14 0; (try simp only [show ((Kd.slice 3 (Kd.int .i64))).sz = 1 from rfl, Nat.mul_one, Nat.add_zero] at hx14_0); (try simp only [show ((Kd.slice 3 (Kd.int .i64))).sz = 1 from rfl, Nat.mul_one, Nat.add_zero] at hf14_0); clear hcl14 hcc14 hfr14; replace p14 := eq_true p14; replace q14 := eq_true q14; have n_ := Aside0.mk (Kd.S_mono (ok' := (fun k_ => some k_ ≠ ((.slice Am212 y211.length cm212) : Value).ownBlock)) HO_5.out (fun k_ hk => hk.2)); clear HO_5; have HO_5 := n_; clear n_; have HX17 := Aside0.mk (show Kd.S (Kd.slice 3 (Kd.int .i64)) 75 w15 w.heap.size (fun k_ => ((fun _ => True)) k_ ∧ ¬ ((fun k_ => some k_ = ((.slice Am212 y211.length cm212) : Value).ownBlock)) k_) (.slice (some ⟨go14, 0, none⟩) x5_1.length co8) x5_1 from (by (with_reducible repeat (first | apply Kd.S_alloc | apply Kd.S_drewN | apply Kd.S_drew)); exact Kd.S_mono HO_5.out (fun k_ hk => ⟨trivial, fun e_ => hk e_⟩))); obtain ⟨oki17, ce17, hcl17, hM17, hcc17, hfr17, hoki17, hH17⟩ := Kd.S_elem HX17.out [] (x20_1 : Int) (of_decide_eq_true (by first | (with_reducible assumption) | assumption)) (by have h_ : (x20_1 : Int) < ((x5_1.length : Int) : Int) := of_decide_eq_true (by first | (with_reducible assumption) | assumption); first | exact h_ | (have e_ := (Kd.S_reads' HO_5.out).1; omega) | simpa using h_); obtain ⟨ve17_0, rfl, ge17_0⟩ := hM17; have HP17 := Kd.S_seg hH17 (of_decide_eq_true (by first | (with_reducible assumption) | assumption)) (by have h_ : (x20_1 : Int) < ((x5_1.length : Int) : Int) := of_decide_eq_true (by first | (with_reducible assumption) | assumption); first | exact h_ | (have e_ := (Kd.S_reads' HO_5.out).1; omega) | simpa using h_) (seg := [(.slice Am212 y211.length cm212)]) (j := 0) (show 1 ≤ 1 from by decide) (x' := y211) (Kd.M_row (Kd.R_mono (Kd.R_tight rfl (Kd.R_mono (ok' := fun k_ => ((fun _ => True)) k_ ∧ k_ ≠ go14) (Kd.R_apart' (HO213.out) (Kd.S_typed HO_5.out) (by decide)) (fun k_ hk => ⟨trivial, fun e_ => (hk.2) (by rw [e_]; rfl)⟩))) (fun _ h_ => Or.inr (h_)))) (fun _ hk => hk) (fun k_ hk_ => ((Kd.R_mono (ok' := fun k_ => ((fun _ => True)) k_ ∧ k_ ≠ go14) (Kd.R_apart' (HO213.out) (Kd.S_typed HO_5.out) (by decide)) (fun k_ hk => ⟨trivial, fun e_ => (hk.2) (by rw [e_]; rfl)⟩))).1 k_ hk_.symm); have hx17_0 := hcc17 0 _ rfl; (try simp only [show ((Kd.slice 3 (Kd.int .i64))).sz = 1 from rfl, Nat.mul_one, Nat.add_zero] at hx17_0); have hf17_0 := hfr17 0; (try simp only [show ((Kd.slice 3 (Kd.int .i64))).sz = 1 from rfl, Nat.mul_one, Nat.add_zero] at hf17_0); clear hcl17 hcc17 hfr17 hoki17 hH17; (try simp only [show ((Kd.slice 3 (Kd.int .i64))).sz = 1 from rfl, Nat.mul_one, Nat.add_zero] at HP17)) | ((with_reducible refine gate_store (t := 75) (p := 28) rfl ?_); refine store_event (t := 75) (p := 28) (v := ?vo_w18) (w1 := (w15.setCell ⟨go14, (x20_1 : Int).toNat, none⟩ ((.slice Am212 y211.length cm212)))) ?hg ?ho ?hn ?hr ?_; (case ho => rfl); (case hg => rfl); (case hn => rfl); (case hr => first | (go_simp; done) | (go_simp; rfl)); intro w18 hw; have hg : w15.grownBy w18 (some go14) := (by rw [hw]; exact HP17.2); have hp_ : Kd.S (Kd.slice 3 (Kd.int .i64)) 75 w18 w.heap.size (fun _ => True) (.slice (some ⟨go14, 0, none⟩) x5_1.length co8) y214 := (by rw [hw, Ny214.out]; exact HP17.1); clear HP17; replace HO_5 := Aside0.mk (hp_); replace HB := Aside0.mk ((by rw [hw]; exact below_set (HB.out) GB14.out : Below w.heap.size w w18)); clear HO213; clear hg hw hp_))
          (try simp only [← hl5_1])
          go_roundg k1
          case measure => have := HK1.out; omega
          case rel => exact ⟨(y214), (wrap64 (x20_1 + 1)), (by first | rfl | (simp; done) | (simp [*]; done)), H', ⟨by have := HK1.out; omega⟩, ⟨by (try simp only [hl5_1]); (with_reducible repeat (first | apply Kd.S_alloc | apply Kd.S_drewN | apply Kd.S_drew)); exact HO_5.out⟩, ⟨hB⟩⟩
         ·rw [if_neg c13] at H
          exact absurd H (by simp)
        ·rw [if_neg c12] at H
         exact absurd H (by simp)
       ·rw [if_neg c11] at H
        exact absurd H (by simp)
      ·rw [if_neg c10] at H
       exact absurd H (by simp)
     ·rw [if_neg c9] at H
      have c9b0 : decide (x20_1 < (y208.length : Int)) = false := decide_eq_false c9
      (try (have c9b0m := c9b0; simp only [hl5_1] at c9b0m))
      clear c9
      replace H := Option.bind_eq_some_iff.mp H
      obtain ⟨t215, A190, H⟩ := H
      try dsimp only at H
      have A19 := Aside0.mk A190
      clear A190
      have H' := Aside0.mk H
      clear H
      go_wp2_with (first | ((with_reducible refine gate_callee (f := 78) rfl ?_); refine goC (N := some 31) Tryd.func78 #[.int .u16 a1] rfl ?_; (with_reducible refine (impl_listed.calls k1 a1 t215 _ A19.out).mono ?_); rintro e w20 ⟨v216, rfl, ho0, hb⟩; refine ⟨_, rfl, ?_⟩; have HO217 := Aside0.mk (Kd.R_lower ho0 (below_size hB)); replace HO_5 := Aside0.mk (Kd.S_elder' (sU HO_5) (Kd.R_base ho0) hb); replace HB := hS HB hb; (try clear hb); (try clear hb2); (try clear hk); (try clear hi); (try clear ho0); obtain ⟨Ao21, co21, eo21⟩ := Kd.R_slice HO217.out; subst eo21))
      go_loopg [33] k1 (fun kq v33 w' => ∃ (x5_2 : List (List Int)) (x31_2 : List Int) (x33_2 : Int), v33 = .int .i64 x33_2 ∧ Aside0 (impl_table_countRows.l1 kq l0 x5_2 x31_2 (t215.length : Int) x33_2 = some r) ∧ Aside0 (kq ≤ k1) ∧ Aside0 (Kd.S (Kd.slice 3 (Kd.int .i64)) 75 w' w.heap.size (fun k_ => some k_ ≠ ((.slice Ao21 t215.length co21) : Value).ownBlock) (.slice Ao8 x5_1.length co8) x5_2) ∧ Aside0 (Kd.R (Kd.int .i64) 3 w' w.heap.size (fun _ => True) (.slice Ao21 t215.length co21) x31_2) ∧ Aside0 (Below w.heap.size w w'))
      case atStart => exact ⟨(x5_1), (t215), (0), (by first | rfl | (simp; done) | (simp [*]; done)), H', ⟨Nat.le_refl _⟩, ⟨by (try simp only [hl5_1]); (with_reducible repeat (first | apply Kd.S_alloc | apply Kd.S_drewN | apply Kd.S_drew)); exact Kd.S_mono HO_5.out (fun _ hk => hk.2)⟩, ⟨by (try simp only [hl5_1]); (with_reducible repeat (first | apply Kd.R_alloc | apply Kd.R_drewN | apply Kd.R_drew)); exact HO217.out⟩, ⟨hB⟩⟩
      case round =>
       clear H'
       try clear c1
       try clear p1
       try clear q1
       try clear hx1
       try clear p2
       try clear c4
       try clear c4b0
       try clear c4b1
       try clear c5
       try clear c5b0
       try clear c5b1
       try clear p6
       try clear c7
       try clear c8
       try clear c9
       try clear c9b0
       try clear c10
       try clear c10b0
       try clear c10b1
       try clear c11
       try clear c11b0
       try clear c11b1
       try clear c12
       try clear c12b0
       try clear c13
       try clear c13b0
       try clear c14
       try clear p14
       try clear q14
       try clear hx14
       try clear hf14
       try clear c17
       try clear hx17
       try clear hf17
       try clear hx14_0
       try clear hx17_0
       try clear p14
       try clear p2
       try clear p6
       try clear q14
       obtain ⟨x5_2, x31_2, x33_2, rfl, HA, HK2, HO_5, HO_31, HB⟩ := hrel
       have hl5_2 := (Kd.S_reads' HO_5.out).1
       rw [hl5_2] at HO_5
       (try simp only [hl5_2])
       (try simp only [hl5_2] at HO_31)
       have hl31_2 := (Kd.R_reads' HO_31.out).1
       rw [hl31_2] at HO_31
       (try simp only [hl31_2])
       (try simp only [hl31_2] at HO_5)
       cases gk with
       | zero => exact absurd HA.out (by simp [impl_table_countRows.l1])
       | succ k2 =>
        have H := HA.out
        clear HA
        simp only [impl_table_countRows.l1] at H
        by_cases c22 : x33_2 < (t215.length : Int)
        ·rw [if_pos c22] at H
         have c22b0 : decide (x33_2 < (t215.length : Int)) = true := decide_eq_true c22
         (try (have c22b0m := c22b0; simp only [hl5_1] at c22b0m))
         (try (have c22b0m := c22b0; simp only [hl5_2] at c22b0m))
         (try (have c22b0m := c22b0; simp only [hl31_2] at c22b0m))
         clear c22
         by_cases c23 : 0 ≤ x33_2
         ·rw [if_pos c23] at H
          have c23b0 : decide (0 ≤ x33_2) = true := decide_eq_true c23
          clear c23
          by_cases c24 : x33_2 < (x31_2.length : Int)
          ·rw [if_pos c24] at H
           have c24b0 : decide (x33_2 < (x31_2.length : Int)) = true := decide_eq_true c24
           (try (have c24b0m := c24b0; simp only [hl5_1] at c24b0m))
           (try (have c24b0m := c24b0; simp only [hl5_2] at c24b0m))
           (try (have c24b0m := c24b0; simp only [hl31_2] at c24b0m))
           clear c24
           by_cases c25 : 0 ≤ (rd x31_2 x33_2)
           ·rw [if_pos c25] at H
            have c25b0 := eq_true c25
            have c25b1 : decide (0 ≤ (rd x31_2 x33_2)) = true := decide_eq_true c25
            clear c25
            obtain ⟨ji26, hji26⟩ : ∃ j_ : Int, (shl .i64 1 (rd x31_2 x33_2)) = j_ := ⟨_, rfl⟩
            replace H : (if 0 ≤ (ji26) then (if (ji26) < (x5_2.length : Int) then (if (rd x31_2 x33_2) < ((impl_table_countRows.rdR x5_2 (ji26)).length : Int) then (impl_table_countRows.l1 k2 l0 (x5_2.set ((ji26) : Int).toNat ((impl_table_countRows.rdR x5_2 (ji26)).set ((rd x31_2 x33_2) : Int).toNat 1)) x31_2 (t215.length : Int) (wrap64 (x33_2 + 1))) else (none)) else (none)) else (none)) = some r := by first | (rw [hji26] at H; exact H) | (simp only [hji26] at H ⊢; exact H)
            have hji26_ : (IntKind.i64.wrap (1 * 2 ^ min (rd x31_2 x33_2).toNat 64)) = ji26 := hji26
            have hji26z : (rd x31_2 x33_2) ≤ 64 → (IntKind.i64.wrap (1 * 2 ^ (rd x31_2 x33_2).toNat)) = ji26 := shl_small hji26
            have hji26u : (IntKind.i64.wrap (2 ^ min (rd x31_2 x33_2).toNat 64)) = ji26 := by have h_ := hji26_; rw [Int.one_mul] at h_; exact h_
            have hji26v : (rd x31_2 x33_2) ≤ 64 → (IntKind.i64.wrap (2 ^ (rd x31_2 x33_2).toNat)) = ji26 := fun hle_ => by have h_ := hji26z hle_; rw [Int.one_mul] at h_; exact h_
            have hji26y : (wrap64 (1 * 2 ^ min (rd x31_2 x33_2).toNat 64)) = ji26 := (i64_w _).symm.trans hji26_
            have hji26x : (rd x31_2 x33_2) ≤ 64 → (wrap64 (1 * 2 ^ (rd x31_2 x33_2).toNat)) = ji26 := fun h_ => (i64_w _).symm.trans (hji26z h_)
            by_cases c27 : 0 ≤ (ji26)
            ·rw [if_pos c27] at H
             have c27b0 : decide (0 ≤ (ji26)) = true := decide_eq_true c27
             clear c27
             by_cases c28 : (ji26) < (x5_2.length : Int)
             ·rw [if_pos c28] at H
              have c28b0 : decide ((ji26) < (x5_2.length : Int)) = true := decide_eq_true c28
              (try (have c28b0m := c28b0; simp only [hl5_1] at c28b0m))
              (try (have c28b0m := c28b0; simp only [hl5_2] at c28b0m))
              (try (have c28b0m := c28b0; simp only [hl31_2] at c28b0m))
              clear c28
              by_cases c29 : (rd x31_2 x33_2) < ((impl_table_countRows.rdR x5_2 (ji26)).length : Int)
              ·rw [if_pos c29] at H
               have c29b0 : decide ((rd x31_2 x33_2) < ((impl_table_countRows.rdR x5_2 (ji26)).length : Int)) = true := decide_eq_true c29
               (try (have c29b0m := c29b0; simp only [hl5_1] at c29b0m))
               (try (have c29b0m := c29b0; simp only [hl5_2] at c29b0m))
               (try (have c29b0m := c29b0; simp only [hl31_2] at c29b0m))
               clear c29
               obtain ⟨y220, hy220⟩ : ∃ y_ : List Int, y_ = ((impl_table_countRows.rdR x5_2 (ji26)).set ((rd x31_2 x33_2) : Int).toNat 1) := ⟨_, rfl⟩
               replace H : (impl_table_countRows.l1 k2 l0 (x5_2.set ((ji26) : Int).toNat y220) x31_2 (t215.length : Int) (wrap64 (x33_2 + 1))) = some r := by first | (rw [hy220]; with_reducible exact H) | (have H2_ := (Option.bind_some _ _).symm.trans H; rw [hy220]; with_reducible exact H2_) | (have H2_ := (Option.bind_some _ _).symm.trans H; with_reducible exact H2_) | with_reducible exact H | (rw [hy220]; exact H) | exact H
               have Ny220 := Aside0.mk hy220
               clear hy220
               obtain ⟨y222, hy222⟩ : ∃ y_ : List (List Int), y_ = (x5_2.set ((ji26) : Int).toNat y220) := ⟨_, rfl⟩
               replace H : (impl_table_countRows.l1 k2 l0 y222 x31_2 (t215.length : Int) (wrap64 (x33_2 + 1))) = some r := by first | (rw [hy222]; with_reducible exact H) | (have H2_ := (Option.bind_some _ _).symm.trans H; rw [hy222]; with_reducible exact H2_) | (have H2_ := (Option.bind_some _ _).symm.trans H; with_reducible exact H2_) | with_reducible exact H | (rw [hy222]; exact H) | exact H
               have Ny222 := Aside0.mk hy222
               clear hy222
               have H' := Aside0.mk H
               clear H
               have p218 : 0 ≤ (x33_2 : Int) := of_decide_eq_true (by first | (with_reducible assumption) | assumption)
               have q218 : x33_2 < (x31_2.length : Int) := of_decide_eq_true (by first | (with_reducible assumption) | assumption)
               obtain ⟨ad218, e218, hx218_0⟩ := Kd.at_int (Kd.R_reads' HO_31.out).2.2 x33_2 p218 q218
               cases e218
               replace p218 := eq_true p218
               replace q218 := eq_true q218
               have p219 : 0 ≤ ((ji26) : Int) := of_decide_eq_true (by first | (with_reducible assumption) | assumption)
               have q219 : (ji26) < (x5_2.length : Int) := of_decide_eq_true (by first | (with_reducible assumption) | assumption)
               obtain ⟨ad219, A219_0, c219_0, e219, hx219_0, hl219_0, hi219_0⟩ := impl_table_countRows.atR (Kd.S_reads' HO_5.out).2.2 (ji26) p219 q219
               cases e219
               obtain ⟨ce219, hce219, hMe219, hcc219⟩ := Kd.S_get HO_5.out [] (ji26) p219 (by first | exact q219 | exact of_decide_eq_true (by first | (with_reducible assumption) | assumption) | (have e_ := (Kd.S_reads' HO_5.out).1; omega))
               obtain ⟨ve219_0, rfl, ge219_0⟩ := hMe219
               have hv219_0 := hcc219 0 _ rfl
               rw [Nat.add_zero, show ((Kd.slice 3 (Kd.int .i64))).sz = 1 from rfl, Nat.mul_one] at hv219_0
               replace hv219_0 := Option.some.inj (hv219_0.symm.trans hx219_0)
               rw [hv219_0] at ge219_0
               have HL219_0 := Aside0.mk (show Kd.R (Kd.int .i64) 3 _ _ _ _ (impl_table_countRows.rdR x5_2 (ji26)) from ge219_0)
               clear hv219_0 ge219_0
               have HX219_0 := Aside0.mk hx219_0
               clear hcc219 hce219
               have HR219_0 := Aside0.mk hi219_0
               have HC219_0 := Aside0.mk hl219_0
               clear hi219_0 hl219_0
               replace p219 := eq_true p219
               replace q219 := eq_true q219
               have p30 : 0 ≤ ((rd x31_2 x33_2) : Int) := of_decide_eq_true (by first | (with_reducible assumption) | assumption)
               have q30 : ((rd x31_2 x33_2) : Int) < (((impl_table_countRows.rdR x5_2 (ji26)).length : Int) : Int) := of_decide_eq_true (by first | (with_reducible assumption) | assumption)
               obtain ⟨go30, co30, eo30, gb30, gl30, cl30, HG30⟩ := Kd.R_form HL219_0.out (by omega)
               (first | cases eo30 | (injection eo30 with ea_ en_ ec_; (first | subst ea_ | (injection ea_ with ea_; subst ea_)); subst ec_; clear en_))
               have GB30 := Aside0.mk gb30
               have GG30 := Aside0.mk HG30
               clear gb30 gl30 HG30
               obtain ⟨hx30_0, hf30_0⟩ := Kd.R_celln 0 HL219_0.out ((rd x31_2 x33_2) : Int) p30 q30
               replace p30 := eq_true p30
               replace q30 := eq_true q30
               have hq31 : ((ji26) : Int) < (x5_2.length : Int) := (by have h_ : ((ji26) : Int) < ((x5_2.length : Int) : Int) := of_decide_eq_true (by first | (with_reducible assumption) | assumption); first | exact h_ | (have e_ := (Kd.S_reads' HO_5.out).1; omega) | simpa only [List.length_set, List.length_set] using h_)
               obtain ⟨oki31, ce31, hcl31, hM31, hcc31, hok31, hbk31⟩ := Kd.S_borrow HO_5.out [] ((ji26) : Int) (of_decide_eq_true (by first | (with_reducible assumption) | assumption)) (by first | exact hq31 | exact of_decide_eq_true (by first | (with_reducible assumption) | assumption))
               obtain ⟨ve31_0, rfl, ge31_0⟩ := hM31
               have hv31 := hcc31 0 _ rfl
               rw [Nat.add_zero, show ((Kd.slice 3 (Kd.int .i64))).sz = 1 from rfl, Nat.mul_one] at hv31
               replace hv31 := Option.some.inj (hv31.symm.trans HX219_0.out)
               subst hv31
               clear hcc31 hcl31
               replace ge31_0 := (show Kd.R (Kd.int .i64) 3 _ _ _ _ (impl_table_countRows.rdR x5_2 (ji26)) from ge31_0)
               have HP31 := Kd.R_putg ge31_0 ((rd x31_2 x33_2) : Int) 1
               go_wp2_with (first | ((with_reducible refine gate_store (t := 3) (p := 43) rfl ?_); refine store_event (t := 3) (p := 43) (v := ?vo_w32) (w1 := (wr.setCell ⟨go30, ((rd x31_2 x33_2) : Int).toNat, none⟩ (.int .i64 1))) ?hg ?ho ?hn ?hr ?_; (case ho => rfl); (case hg => rfl); (case hn => rfl); (case hr => first | (go_simp; done) | (go_simp; rfl)); intro w32 hw; have hg : wr.grownBy w32 (some go30) := (by rw [hw]; exact HP31.2); have hz_ : Kd.R (Kd.int .i64) 3 w32 w.heap.size oki31 (.slice (some ⟨go30, 0, none⟩) (impl_table_countRows.rdR x5_2 (ji26)).length c219_0) y220 := (by rw [hw, Ny220.out]; exact HP31.1); have hp_ : Kd.S (Kd.slice 3 (Kd.int .i64)) 75 w32 w.heap.size (fun k_ => some k_ ≠ (.slice (some ad218) x31_2.length co21 : Value).ownBlock) (.slice (some ad219) x5_2.length co8) y222 := (by rw [Ny222.out]; exact hbk31 hg (fun k_ e_ => by injection e_ with e_; subst e_; exact ge31_0.1 _ rfl) (Kd.M_row hz_)); have hm_ := Kd.R_mono hz_ hok31; clear HP31 hbk31; have HL236 := Aside0.mk (hm_); have HC221 := Aside0.mk ((Kd.R_reads' hm_).2.1); replace HO_5 := Aside0.mk (hp_); replace HO_31 := Aside0.mk (Kd.R_grown1 (rU HO_31) rfl hg ((HL219_0.out.1 _ rfl).1)); replace HB := Aside0.mk ((by rw [hw]; exact below_set (HB.out) GB30.out : Below w.heap.size w w32)); clear HL219_0; clear hg hw hp_ hz_ hm_ hok31))
               (try simp only [← hl5_2, ← hl31_2])
               go_roundg k2
               case measure => have := HK1.out; have := HK2.out; omega
               case rel => exact ⟨(y222), (x31_2), (wrap64 (x33_2 + 1)), (by first | rfl | (simp; done) | (simp [*]; done)), H', ⟨by have := HK1.out; have := HK2.out; omega⟩, ⟨by (try simp only [hl5_1]); (try simp only [hl5_2]); (try simp only [hl31_2]); (with_reducible repeat (first | apply Kd.S_alloc | apply Kd.S_drewN | apply Kd.S_drew)); exact HO_5.out⟩, ⟨by (try simp only [hl5_1]); (try simp only [hl5_2]); (try simp only [hl31_2]); (with_reducible repeat (first | apply Kd.R_alloc | apply Kd.R_drewN | apply Kd.R_drew)); exact HO_31.out⟩, ⟨hB⟩⟩
              ·rw [if_neg c29] at H
               exact absurd H (by simp)
             ·rw [if_neg c28] at H
              exact absurd H (by simp)
            ·rw [if_neg c27] at H
             exact absurd H (by simp)
           ·rw [if_neg c25] at H
            exact absurd H (by simp)
          ·rw [if_neg c24] at H
           exact absurd H (by simp)
         ·rw [if_neg c23] at H
          exact absurd H (by simp)
        ·rw [if_neg c22] at H
         have c22b0 : decide (x33_2 < (t215.length : Int)) = false := decide_eq_false c22
         (try (have c22b0m := c22b0; simp only [hl5_1] at c22b0m))
         (try (have c22b0m := c22b0; simp only [hl5_2] at c22b0m))
         (try (have c22b0m := c22b0; simp only [hl31_2] at c22b0m))
         clear c22
         have H' := Aside0.mk H
         clear H
         go_wp2
         go_loopg [47] k2 (fun kq v47 w' => ∃ (x5_3 : List (List Int)) (x47_3 : Int), v47 = .int .i64 x47_3 ∧ Aside0 (impl_table_countRows.l2 kq l0 x5_3 (x5_2.length : Int) x47_3 = some r) ∧ Aside0 (kq ≤ k2) ∧ Aside0 (Kd.S (Kd.slice 3 (Kd.int .i64)) 75 w' w.heap.size (fun _ => True) (.slice Ao8 x5_2.length co8) x5_3) ∧ Aside0 (Below w.heap.size w w'))
         case atStart => exact ⟨(x5_2), (0), (by first | rfl | (simp; done) | (simp [*]; done)), H', ⟨Nat.le_refl _⟩, ⟨by (try simp only [hl5_1]); (try simp only [hl5_2]); (try simp only [hl31_2]); (with_reducible repeat (first | apply Kd.S_alloc | apply Kd.S_drewN | apply Kd.S_drew)); exact Kd.S_mono HO_5.out (fun _ hk => trivial)⟩, ⟨hB⟩⟩
         case round =>
          clear H'
          try clear c1
          try clear p1
          try clear q1
          try clear hx1
          try clear c2
          try clear p2
          try clear q2
          try clear hx2
          try clear c3
          try clear p3
          try clear q3
          try clear hx3
          try clear hf3
          try clear c4
          try clear c4b0
          try clear c4b1
          try clear c5
          try clear c5b0
          try clear c5b1
          try clear p6
          try clear c7
          try clear c8
          try clear c9
          try clear c9b0
          try clear c10
          try clear c10b0
          try clear c10b1
          try clear c11
          try clear c11b0
          try clear c11b1
          try clear c12
          try clear c12b0
          try clear c13
          try clear c13b0
          try clear c14
          try clear p14
          try clear q14
          try clear hx14
          try clear hf14
          try clear c17
          try clear hx17
          try clear hf17
          try clear c21
          try clear p21
          try clear q21
          try clear hx21
          try clear c22
          try clear c22b0
          try clear c23
          try clear c23b0
          try clear c24
          try clear c24b0
          try clear c25
          try clear c25b0
          try clear c25b1
          try clear c27
          try clear c27b0
          try clear c28
          try clear c28b0
          try clear c29
          try clear c29b0
          try clear p30
          try clear q30
          try clear hx30
          try clear hf30
          try clear c31
          try clear q31
          try clear hx14_0
          try clear hx17_0
          try clear hx218_0
          try clear hx219_0
          try clear hx30_0
          try clear p1
          try clear p14
          try clear p2
          try clear p218
          try clear p219
          try clear p30
          try clear p6
          try clear q1
          try clear q14
          try clear q218
          try clear q219
          try clear q30
          obtain ⟨x5_3, x47_3, rfl, HA, HK3, HO_5, HB⟩ := hrel
          have hl5_3 := (Kd.S_reads' HO_5.out).1
          rw [hl5_3] at HO_5
          (try simp only [hl5_3])
          cases gk with
          | zero => exact absurd HA.out (by simp [impl_table_countRows.l2])
          | succ k3 =>
           have H := HA.out
           clear HA
           simp only [impl_table_countRows.l2] at H
           by_cases c33 : x47_3 < (x5_2.length : Int)
           ·rw [if_pos c33] at H
            have c33b0 : decide (x47_3 < (x5_2.length : Int)) = true := decide_eq_true c33
            (try (have c33b0m := c33b0; simp only [hl5_1] at c33b0m))
            (try (have c33b0m := c33b0; simp only [hl5_2] at c33b0m))
            (try (have c33b0m := c33b0; simp only [hl31_2] at c33b0m))
            (try (have c33b0m := c33b0; simp only [hl5_3] at c33b0m))
            clear c33
            by_cases c34 : 0 ≤ x47_3
            ·rw [if_pos c34] at H
             have c34b0 : decide (0 ≤ x47_3) = true := decide_eq_true c34
             clear c34
             by_cases c35 : x47_3 < (x5_3.length : Int)
             ·rw [if_pos c35] at H
              have c35b0 : decide (x47_3 < (x5_3.length : Int)) = true := decide_eq_true c35
              (try (have c35b0m := c35b0; simp only [hl5_1] at c35b0m))
              (try (have c35b0m := c35b0; simp only [hl5_2] at c35b0m))
              (try (have c35b0m := c35b0; simp only [hl31_2] at c35b0m))
              (try (have c35b0m := c35b0; simp only [hl5_3] at c35b0m))
              clear c35
              have H' := Aside0.mk H
              clear H
              have p224 : 0 ≤ (x47_3 : Int) := of_decide_eq_true (by first | (with_reducible assumption) | assumption)
              have q224 : x47_3 < (x5_3.length : Int) := of_decide_eq_true (by first | (with_reducible assumption) | assumption)
              obtain ⟨ad224, A224_0, c224_0, e224, hx224_0, hl224_0, hi224_0⟩ := impl_table_countRows.atR (Kd.S_reads' HO_5.out).2.2 x47_3 p224 q224
              cases e224
              obtain ⟨ce224, hce224, hMe224, hcc224⟩ := Kd.S_get HO_5.out [] x47_3 p224 (by first | exact q224 | exact of_decide_eq_true (by first | (with_reducible assumption) | assumption) | (have e_ := (Kd.S_reads' HO_5.out).1; omega))
              obtain ⟨ve224_0, rfl, ge224_0⟩ := hMe224
              have hv224_0 := hcc224 0 _ rfl
              rw [Nat.add_zero, show ((Kd.slice 3 (Kd.int .i64))).sz = 1 from rfl, Nat.mul_one] at hv224_0
              replace hv224_0 := Option.some.inj (hv224_0.symm.trans hx224_0)
              rw [hv224_0] at ge224_0
              have HL224_0 := Aside0.mk (show Kd.R (Kd.int .i64) 3 _ _ _ _ (impl_table_countRows.rdR x5_3 x47_3) from ge224_0)
              clear hv224_0 ge224_0
              have HX224_0 := Aside0.mk hx224_0
              have XQ224 := Aside0.mk (And.intro p224 q224)
              clear hcc224 hce224
              have HR224_0 := Aside0.mk hi224_0
              have HC224_0 := Aside0.mk hl224_0
              clear hi224_0 hl224_0
              replace p224 := eq_true p224
              replace q224 := eq_true q224
              go_wp2
              go_loopg [55] k3 (fun kq v55 w' => ∃ (x5_4 : List (List Int)) (x55_4 : Int), v55 = .int .i64 x55_4 ∧ Aside0 (impl_table_countRows.l3 kq l0 x5_4 x47_3 (x5_2.length : Int) x47_3 (impl_table_countRows.rdR x5_3 x47_3) ((impl_table_countRows.rdR x5_3 x47_3).length : Int) x55_4 = some r) ∧ Aside0 (kq ≤ k3) ∧ Aside0 (Kd.S (Kd.slice 3 (Kd.int .i64)) 75 w' w.heap.size (fun _ => True) (.slice (some ad224) x5_3.length co8) x5_4) ∧ Aside0 (Below w.heap.size w w') ∧ Aside0 (w'.cell? (ad224.add x47_3.toNat) = some (.slice A224_0 (impl_table_countRows.rdR x5_3 x47_3).length c224_0)))
              case atStart => exact ⟨(x5_3), (0), (by first | rfl | (simp; done) | (simp [*]; done)), H', ⟨Nat.le_refl _⟩, ⟨by (try simp only [hl5_1]); (try simp only [hl5_2]); (try simp only [hl31_2]); (try simp only [hl5_3]); (with_reducible repeat (first | apply Kd.S_alloc | apply Kd.S_drewN | apply Kd.S_drew)); exact HO_5.out⟩, ⟨hB⟩, HX224_0⟩
              case round =>
               clear H'
               try clear c1
               try clear p1
               try clear q1
               try clear hx1
               try clear c2
               try clear p2
               try clear q2
               try clear hx2
               try clear c3
               try clear p3
               try clear q3
               try clear hx3
               try clear hf3
               try clear c4
               try clear c4b0
               try clear c4b1
               try clear c5
               try clear c5b0
               try clear c5b1
               try clear p6
               try clear c7
               try clear c8
               try clear c9
               try clear c9b0
               try clear c10
               try clear c10b0
               try clear c10b1
               try clear c11
               try clear c11b0
               try clear c11b1
               try clear c12
               try clear c12b0
               try clear c13
               try clear c13b0
               try clear c14
               try clear p14
               try clear q14
               try clear hx14
               try clear hf14
               try clear c17
               try clear hx17
               try clear hf17
               try clear c21
               try clear p21
               try clear q21
               try clear hx21
               try clear c22
               try clear c22b0
               try clear p22
               try clear q22
               try clear hx22
               try clear c23
               try clear c23b0
               try clear c24
               try clear c24b0
               try clear c25
               try clear c25b0
               try clear c25b1
               try clear c27
               try clear c27b0
               try clear c28
               try clear c28b0
               try clear c29
               try clear c29b0
               try clear p30
               try clear q30
               try clear hx30
               try clear hf30
               try clear c31
               try clear q31
               try clear c33
               try clear c33b0
               try clear c34
               try clear c34b0
               try clear c35
               try clear c35b0
               try clear hx14_0
               try clear hx17_0
               try clear hx218_0
               try clear hx219_0
               try clear hx224_0
               try clear hx30_0
               try clear p1
               try clear p14
               try clear p2
               try clear p21
               try clear p218
               try clear p219
               try clear p224
               try clear p3
               try clear p30
               try clear p6
               try clear q1
               try clear q14
               try clear q2
               try clear q21
               try clear q218
               try clear q219
               try clear q224
               try clear q3
               try clear q30
               try clear q31
               obtain ⟨x5_4, x55_4, rfl, HA, HK4, HO_5, HB, HV⟩ := hrel
               have hl5_4 := (Kd.S_reads' HO_5.out).1
               rw [hl5_4] at HO_5
               (try simp only [hl5_4])
               cases gk with
               | zero => exact absurd HA.out (by simp [impl_table_countRows.l3])
               | succ k4 =>
                have H := HA.out
                clear HA
                simp only [impl_table_countRows.l3] at H
                by_cases c36 : x55_4 < ((impl_table_countRows.rdR x5_3 x47_3).length : Int)
                ·rw [if_pos c36] at H
                 have c36b0 : decide (x55_4 < ((impl_table_countRows.rdR x5_3 x47_3).length : Int)) = true := decide_eq_true c36
                 (try (have c36b0m := c36b0; simp only [hl5_1] at c36b0m))
                 (try (have c36b0m := c36b0; simp only [hl5_2] at c36b0m))
                 (try (have c36b0m := c36b0; simp only [hl31_2] at c36b0m))
                 (try (have c36b0m := c36b0; simp only [hl5_3] at c36b0m))
                 (try (have c36b0m := c36b0; simp only [hl5_4] at c36b0m))
                 clear c36
                 by_cases c37 : 0 ≤ x55_4
                 ·rw [if_pos c37] at H
                  have c37b0 : decide (0 ≤ x55_4) = true := decide_eq_true c37
                  clear c37
                  by_cases c38 : x55_4 < ((impl_table_countRows.rdR x5_3 x47_3).length : Int)
                  ·rw [if_pos c38] at H
                   have c38b0 : decide (x55_4 < ((impl_table_countRows.rdR x5_3 x47_3).length : Int)) = true := decide_eq_true c38
                   (try (have c38b0m := c38b0; simp only [hl5_1] at c38b0m))
                   (try (have c38b0m := c38b0; simp only [hl5_2] at c38b0m))
                   (try (have c38b0m := c38b0; simp only [hl31_2] at c38b0m))
                   (try (have c38b0m := c38b0; simp only [hl5_3] at c38b0m))
                   (try (have c38b0m := c38b0; simp only [hl5_4] at c38b0m))
                   clear c38
                   by_cases c39 : (rd (impl_table_countRows.rdR x5_4 x47_3) x55_4) = 0
                   ·rw [if_pos c39] at H
                    have c39b0 : ((rd (impl_table_countRows.rdR x5_4 x47_3) x55_4) == 0) = true := beq_iff_eq.mpr c39
                    have c39b1 : ((rd (impl_table_countRows.rdR x5_4 x47_3) x55_4) != 0) = false := bne_eq_false_iff_eq.mpr c39
                    clear c39
                    have H' := Aside0.mk H
                    clear H
                    have p225 : 0 ≤ (x55_4 : Int) := of_decide_eq_true (by first | (with_reducible assumption) | assumption)
                    have q225 : x55_4 < ((impl_table_countRows.rdR x5_3 x47_3).length : Int) := of_decide_eq_true (by first | (with_reducible assumption) | assumption)
                    obtain ⟨ce225, hce225, hMe225, hcc225⟩ := Kd.S_get HO_5.out [] x47_3 XQ224.out.1 (by have e_ := XQ224.out.2; have h_ := hl5_4; omega)
                    obtain ⟨ve225, rfl, ge225⟩ := hMe225
                    have hv225 := hcc225 0 _ rfl
                    rw [Nat.add_zero, show ((Kd.slice 3 (Kd.int .i64))).sz = 1 from rfl, Nat.mul_one] at hv225
                    replace hv225 := Option.some.inj (hv225.symm.trans HV.out)
                    rw [hv225] at ge225
                    clear hv225 hcc225 hce225
                    have gr225 := Kd.R_reads' (show Kd.R (Kd.int .i64) 3 _ _ _ _ (impl_table_countRows.rdR x5_4 x47_3) from ge225)
                    have gc225 := gr225.2.2
                    have gn225 := gr225.1
                    obtain ⟨ad225, e225, hx225_0⟩ := Kd.at_int gc225 x55_4 p225 (by rw [← gn225]; exact q225)
                    clear ge225 gr225 gc225 gn225
                    cases e225
                    replace p225 := eq_true p225
                    replace q225 := eq_true q225
                    go_wp2
                    (try simp only [← hl5_4])
                    go_roundg k4
                    case measure => have := HK1.out; have := HK2.out; have := HK3.out; have := HK4.out; omega
                    case rel => exact ⟨(x5_4), (wrap64 (x55_4 + 1)), (by first | rfl | (simp; done) | (simp [*]; done)), H', ⟨by have := HK1.out; have := HK2.out; have := HK3.out; have := HK4.out; omega⟩, ⟨by (try simp only [hl5_1]); (try simp only [hl5_2]); (try simp only [hl31_2]); (try simp only [hl5_3]); (try simp only [hl5_4]); (with_reducible repeat (first | apply Kd.S_alloc | apply Kd.S_drewN | apply Kd.S_drew)); exact HO_5.out⟩, ⟨hB⟩, ⟨by first | exact HV.out | (simpa using HV.out)⟩⟩
                   ·rw [if_neg c39] at H
                    have c39b0 : ((rd (impl_table_countRows.rdR x5_4 x47_3) x55_4) == 0) = false := beq_eq_false_iff_ne.mpr c39
                    have c39b1 : ((rd (impl_table_countRows.rdR x5_4 x47_3) x55_4) != 0) = true := bne_iff_ne.mpr c39
                    by_cases c40 : x55_4 < (l0.length : Int)
                    ·rw [if_pos c40] at H
                     have c40b0 : decide (x55_4 < (l0.length : Int)) = true := decide_eq_true c40
                     (try (have c40b0m := c40b0; simp only [hl5_1] at c40b0m))
                     (try (have c40b0m := c40b0; simp only [hl5_2] at c40b0m))
                     (try (have c40b0m := c40b0; simp only [hl31_2] at c40b0m))
                     (try (have c40b0m := c40b0; simp only [hl5_3] at c40b0m))
                     (try (have c40b0m := c40b0; simp only [hl5_4] at c40b0m))
                     clear c40
                     replace H := Option.bind_eq_some_iff.mp H
                     obtain ⟨t227, A410, H⟩ := H
                     try dsimp only at H
                     have A41 := Aside0.mk A410
                     clear A410
                     have H' := Aside0.mk H
                     clear H
                     have p225 : 0 ≤ (x55_4 : Int) := of_decide_eq_true (by first | (with_reducible assumption) | assumption)
                     have q225 : x55_4 < ((impl_table_countRows.rdR x5_3 x47_3).length : Int) := of_decide_eq_true (by first | (with_reducible assumption) | assumption)
                     obtain ⟨ce225, hce225, hMe225, hcc225⟩ := Kd.S_get HO_5.out [] x47_3 XQ224.out.1 (by have e_ := XQ224.out.2; have h_ := hl5_4; omega)
                     obtain ⟨ve225, rfl, ge225⟩ := hMe225
                     have hv225 := hcc225 0 _ rfl
                     rw [Nat.add_zero, show ((Kd.slice 3 (Kd.int .i64))).sz = 1 from rfl, Nat.mul_one] at hv225
                     replace hv225 := Option.some.inj (hv225.symm.trans HV.out)
                     rw [hv225] at ge225
                     clear hv225 hcc225 hce225
                     have gr225 := Kd.R_reads' (show Kd.R (Kd.int .i64) 3 _ _ _ _ (impl_table_countRows.rdR x5_4 x47_3) from ge225)
                     have gc225 := gr225.2.2
                     have gn225 := gr225.1
                     obtain ⟨ad225, e225, hx225_0⟩ := Kd.at_int gc225 x55_4 p225 (by rw [← gn225]; exact q225)
                     clear ge225 gr225 gc225 gn225
                     cases e225
                     replace p225 := eq_true p225
                     replace q225 := eq_true q225
                     have p226 : 0 ≤ (x55_4 : Int) := of_decide_eq_true (by first | (with_reducible assumption) | assumption)
                     have q226 : x55_4 < (l0.length : Int) := of_decide_eq_true (by first | (with_reducible assumption) | assumption)
                     obtain ⟨ad226, e226, hx226_0⟩ := Kd.at_int HR0.out x55_4 p226 q226
                     cases e226
                     replace hx226_0 := (HB.out.cell (World.block_lt_of_cell? w _ hx226_0)).trans hx226_0
                     replace p226 := eq_true p226
                     replace q226 := eq_true q226
                     go_wp2_with (first | ((with_reducible refine gate_callee (f := 78) rfl ?_); refine goC (N := some 69) Tryd.func78 #[.int .u16 (Go.bits .andNot .u16 (rd l0 x55_4) (IntKind.u16.wrap (x47_3)))] rfl ?_; (with_reducible refine (impl_listed.calls k4 (Go.bits .andNot .u16 (rd l0 x55_4) (IntKind.u16.wrap (x47_3))) t227 _ A41.out).mono ?_); rintro e w42 ⟨v228, rfl, ho0, hb⟩; refine ⟨_, rfl, ?_⟩; have HO229 := Aside0.mk (Kd.R_lower ho0 (below_size hB)); replace HO_5 := Aside0.mk (Kd.S_elder' (sU HO_5) (Kd.R_base ho0) hb); have HV1 := Aside0.mk (pw_cell_below hb HV.out); replace HB := hS HB hb; (try clear hb); (try clear hb2); (try clear hk); (try clear hi); (try clear ho0); obtain ⟨Ao43, co43, eo43⟩ := Kd.R_slice HO229.out; subst eo43))
                     go_loopg [71] k4 (fun kq v71 w' => ∃ (x5_5 : List (List Int)) (x69_5 : List Int) (x71_5 : Int), v71 = .int .i64 x71_5 ∧ Aside0 (impl_table_countRows.l4 kq l0 x5_5 x47_3 (rd (impl_table_countRows.rdR x5_4 x47_3) x55_4) (x5_2.length : Int) x47_3 (impl_table_countRows.rdR x5_3 x47_3) ((impl_table_countRows.rdR x5_3 x47_3).length : Int) x55_4 x69_5 (t227.length : Int) x71_5 = some r) ∧ Aside0 (kq ≤ k4) ∧ Aside0 (Kd.S (Kd.slice 3 (Kd.int .i64)) 75 w' w.heap.size (fun k_ => some k_ ≠ ((.slice Ao43 t227.length co43) : Value).ownBlock) (.slice (some ad224) x5_4.length co8) x5_5) ∧ Aside0 (Kd.R (Kd.int .i64) 3 w' w.heap.size (fun _ => True) (.slice Ao43 t227.length co43) x69_5) ∧ Aside0 (Below w.heap.size w w') ∧ Aside0 (w'.cell? (ad224.add x47_3.toNat) = some (.slice (some ad225) (impl_table_countRows.rdR x5_3 x47_3).length c224_0)))
                     case atStart => exact ⟨(x5_4), (t227), (0), (by first | rfl | (simp; done) | (simp [*]; done)), H', ⟨Nat.le_refl _⟩, ⟨by (try simp only [hl5_1]); (try simp only [hl5_2]); (try simp only [hl31_2]); (try simp only [hl5_3]); (try simp only [hl5_4]); (with_reducible repeat (first | apply Kd.S_alloc | apply Kd.S_drewN | apply Kd.S_drew)); exact Kd.S_mono HO_5.out (fun _ hk => hk.2)⟩, ⟨by (try simp only [hl5_1]); (try simp only [hl5_2]); (try simp only [hl31_2]); (try simp only [hl5_3]); (try simp only [hl5_4]); (with_reducible repeat (first | apply Kd.R_alloc | apply Kd.R_drewN | apply Kd.R_drew)); exact HO229.out⟩, ⟨hB⟩, HV1⟩
                     case round =>
                      clear H'
                      try clear c1
                      try clear p1
                      try clear q1
                      try clear hx1
                      try clear c2
                      try clear p2
                      try clear q2
                      try clear hx2
                      try clear c3
                      try clear p3
                      try clear q3
                      try clear hx3
                      try clear hf3
                      try clear c4
                      try clear c4b0
                      try clear c4b1
                      try clear c5
                      try clear c5b0
                      try clear c5b1
                      try clear p6
                      try clear c7
                      try clear c8
                      try clear c9
                      try clear c9b0
                      try clear c10
                      try clear c10b0
                      try clear c10b1
                      try clear c11
                      try clear c11b0
                      try clear c11b1
                      try clear c12
                      try clear c12b0
                      try clear c13
                      try clear c13b0
                      try clear c14
                      try clear p14
                      try clear q14
                      try clear hx14
                      try clear hf14
                      try clear c17
                      try clear hx17
                      try clear hf17
                      try clear c21
                      try clear p21
                      try clear q21
                      try clear hx21
                      try clear c22
                      try clear c22b0
                      try clear p22
                      try clear q22
                      try clear hx22
                      try clear c23
                      try clear c23b0
                      try clear c24
                      try clear c24b0
                      try clear c25
                      try clear c25b0
                      try clear c25b1
                      try clear c27
                      try clear c27b0
                      try clear c28
                      try clear c28b0
                      try clear c29
                      try clear c29b0
                      try clear p30
                      try clear q30
                      try clear hx30
                      try clear hf30
                      try clear c31
                      try clear q31
                      try clear c33
                      try clear c33b0
                      try clear c34
                      try clear c34b0
                      try clear c35
                      try clear c35b0
                      try clear c36
                      try clear c36b0
                      try clear c37
                      try clear c37b0
                      try clear c38
                      try clear c38b0
                      try clear c39
                      try clear c39b0
                      try clear c39b1
                      try clear c40
                      try clear c40b0
                      try clear hx14_0
                      try clear hx17_0
                      try clear hx218_0
                      try clear hx219_0
                      try clear hx224_0
                      try clear hx225_0
                      try clear hx226_0
                      try clear hx30_0
                      try clear p1
                      try clear p14
                      try clear p2
                      try clear p21
                      try clear p218
                      try clear p219
                      try clear p22
                      try clear p224
                      try clear p225
                      try clear p226
                      try clear p3
                      try clear p30
                      try clear p6
                      try clear q1
                      try clear q14
                      try clear q2
                      try clear q21
                      try clear q218
                      try clear q219
                      try clear q22
                      try clear q224
                      try clear q225
                      try clear q226
                      try clear q3
                      try clear q30
                      try clear q31
                      obtain ⟨x5_5, x69_5, x71_5, rfl, HA, HK5, HO_5, HO_69, HB, HV2⟩ := hrel
                      have hl5_5 := (Kd.S_reads' HO_5.out).1
                      rw [hl5_5] at HO_5
                      (try simp only [hl5_5])
                      (try simp only [hl5_5] at HO_69)
                      have hl69_5 := (Kd.R_reads' HO_69.out).1
                      rw [hl69_5] at HO_69
                      (try simp only [hl69_5])
                      (try simp only [hl69_5] at HO_5)
                      cases gk with
                      | zero => exact absurd HA.out (by simp [impl_table_countRows.l4])
                      | succ k5 =>
                       have H := HA.out
                       clear HA
                       simp only [impl_table_countRows.l4] at H
                       by_cases c44 : x71_5 < (t227.length : Int)
                       ·rw [if_pos c44] at H
                        have c44b0 : decide (x71_5 < (t227.length : Int)) = true := decide_eq_true c44
                        (try (have c44b0m := c44b0; simp only [hl5_1] at c44b0m))
                        (try (have c44b0m := c44b0; simp only [hl5_2] at c44b0m))
                        (try (have c44b0m := c44b0; simp only [hl31_2] at c44b0m))
                        (try (have c44b0m := c44b0; simp only [hl5_3] at c44b0m))
                        (try (have c44b0m := c44b0; simp only [hl5_4] at c44b0m))
                        (try (have c44b0m := c44b0; simp only [hl5_5] at c44b0m))
                        (try (have c44b0m := c44b0; simp only [hl69_5] at c44b0m))
                        clear c44
                        by_cases c45 : 0 ≤ x71_5
                        ·rw [if_pos c45] at H
                         have c45b0 : decide (0 ≤ x71_5) = true := decide_eq_true c45
                         clear c45
                         by_cases c46 : x71_5 < (x69_5.length : Int)
                         ·rw [if_pos c46] at H
                          have c46b0 : decide (x71_5 < (x69_5.length : Int)) = true := decide_eq_true c46
                          (try (have c46b0m := c46b0; simp only [hl5_1] at c46b0m))
                          (try (have c46b0m := c46b0; simp only [hl5_2] at c46b0m))
                          (try (have c46b0m := c46b0; simp only [hl31_2] at c46b0m))
                          (try (have c46b0m := c46b0; simp only [hl5_3] at c46b0m))
                          (try (have c46b0m := c46b0; simp only [hl5_4] at c46b0m))
                          (try (have c46b0m := c46b0; simp only [hl5_5] at c46b0m))
                          (try (have c46b0m := c46b0; simp only [hl69_5] at c46b0m))
                          clear c46
                          by_cases c47 : 0 ≤ (rd x69_5 x71_5)
                          ·rw [if_pos c47] at H
                           have c47b0 := eq_true c47
                           have c47b1 : decide (0 ≤ (rd x69_5 x71_5)) = true := decide_eq_true c47
                           clear c47
                           obtain ⟨ji48, hji48⟩ : ∃ j_ : Int, (shl .i64 1 (rd x69_5 x71_5)) = j_ := ⟨_, rfl⟩
                           replace H : (if 0 ≤ (Go.bits .or .i64 x47_3 (ji48)) then (if (Go.bits .or .i64 x47_3 (ji48)) < (x5_5.length : Int) then (if (rd x69_5 x71_5) < ((impl_table_countRows.rdR x5_5 (Go.bits .or .i64 x47_3 (ji48))).length : Int) then (impl_table_countRows.l4 k5 l0 (x5_5.set ((Go.bits .or .i64 x47_3 (ji48)) : Int).toNat ((impl_table_countRows.rdR x5_5 (Go.bits .or .i64 x47_3 (ji48))).set ((rd x69_5 x71_5) : Int).toNat (wrap64 ((rd (impl_table_countRows.rdR x5_5 (Go.bits .or .i64 x47_3 (ji48))) (rd x69_5 x71_5)) + (rd (impl_table_countRows.rdR x5_4 x47_3) x55_4))))) x47_3 (rd (impl_table_countRows.rdR x5_4 x47_3) x55_4) (x5_2.length : Int) x47_3 (impl_table_countRows.rdR x5_3 x47_3) ((impl_table_countRows.rdR x5_3 x47_3).length : Int) x55_4 x69_5 (t227.length : Int) (wrap64 (x71_5 + 1))) else (none)) else (none)) else (none)) = some r := by first | (rw [hji48] at H; exact H) | (simp only [hji48] at H ⊢; exact H)
                           have hji48_ : (IntKind.i64.wrap (1 * 2 ^ min (rd x69_5 x71_5).toNat 64)) = ji48 := hji48
                           have hji48z : (rd x69_5 x71_5) ≤ 64 → (IntKind.i64.wrap (1 * 2 ^ (rd x69_5 x71_5).toNat)) = ji48 := shl_small hji48
                           have hji48u : (IntKind.i64.wrap (2 ^ min (rd x69_5 x71_5).toNat 64)) = ji48 := by have h_ := hji48_; rw [Int.one_mul] at h_; exact h_
                           have hji48v : (rd x69_5 x71_5) ≤ 64 → (IntKind.i64.wrap (2 ^ (rd x69_5 x71_5).toNat)) = ji48 := fun hle_ => by have h_ := hji48z hle_; rw [Int.one_mul] at h_; exact h_
                           have hji48y : (wrap64 (1 * 2 ^ min (rd x69_5 x71_5).toNat 64)) = ji48 := (i64_w _).symm.trans hji48_
                           have hji48x : (rd x69_5 x71_5) ≤ 64 → (wrap64 (1 * 2 ^ (rd x69_5 x71_5).toNat)) = ji48 := fun h_ => (i64_w _).symm.trans (hji48z h_)
                           by_cases c49 : 0 ≤ (Go.bits .or .i64 x47_3 (ji48))
                           ·rw [if_pos c49] at H
                            have c49b0 : decide (0 ≤ (Go.bits .or .i64 x47_3 (ji48))) = true := decide_eq_true c49
                            clear c49
                            by_cases c50 : (Go.bits .or .i64 x47_3 (ji48)) < (x5_5.length : Int)
                            ·rw [if_pos c50] at H
                             have c50b0 : decide ((Go.bits .or .i64 x47_3 (ji48)) < (x5_5.length : Int)) = true := decide_eq_true c50
                             (try (have c50b0m := c50b0; simp only [hl5_1] at c50b0m))
                             (try (have c50b0m := c50b0; simp only [hl5_2] at c50b0m))
                             (try (have c50b0m := c50b0; simp only [hl31_2] at c50b0m))
                             (try (have c50b0m := c50b0; simp only [hl5_3] at c50b0m))
                             (try (have c50b0m := c50b0; simp only [hl5_4] at c50b0m))
                             (try (have c50b0m := c50b0; simp only [hl5_5] at c50b0m))
                             (try (have c50b0m := c50b0; simp only [hl69_5] at c50b0m))
                             clear c50
                             by_cases c51 : (rd x69_5 x71_5) < ((impl_table_countRows.rdR x5_5 (Go.bits .or .i64 x47_3 (ji48))).length : Int)
                             ·rw [if_pos c51] at H
                              have c51b0 : decide ((rd x69_5 x71_5) < ((impl_table_countRows.rdR x5_5 (Go.bits .or .i64 x47_3 (ji48))).length : Int)) = true := decide_eq_true c51
                              (try (have c51b0m := c51b0; simp only [hl5_1] at c51b0m))
                              (try (have c51b0m := c51b0; simp only [hl5_2] at c51b0m))
                              (try (have c51b0m := c51b0; simp only [hl31_2] at c51b0m))
                              (try (have c51b0m := c51b0; simp only [hl5_3] at c51b0m))
                              (try (have c51b0m := c51b0; simp only [hl5_4] at c51b0m))
                              (try (have c51b0m := c51b0; simp only [hl5_5] at c51b0m))
                              (try (have c51b0m := c51b0; simp only [hl69_5] at c51b0m))
                              clear c51
                              obtain ⟨y233, hy233⟩ : ∃ y_ : List Int, y_ = ((impl_table_countRows.rdR x5_5 (Go.bits .or .i64 x47_3 (ji48))).set ((rd x69_5 x71_5) : Int).toNat (wrap64 ((rd (impl_table_countRows.rdR x5_5 (Go.bits .or .i64 x47_3 (ji48))) (rd x69_5 x71_5)) + (rd (impl_table_countRows.rdR x5_4 x47_3) x55_4)))) := ⟨_, rfl⟩
                              replace H : (impl_table_countRows.l4 k5 l0 (x5_5.set ((Go.bits .or .i64 x47_3 (ji48)) : Int).toNat y233) x47_3 (rd (impl_table_countRows.rdR x5_4 x47_3) x55_4) (x5_2.length : Int) x47_3 (impl_table_countRows.rdR x5_3 x47_3) ((impl_table_countRows.rdR x5_3 x47_3).length : Int) x55_4 x69_5 (t227.length : Int) (wrap64 (x71_5 + 1))) = some r := by first | (rw [hy233]; with_reducible exact H) | (have H2_ := (Option.bind_some _ _).symm.trans H; rw [hy233]; with_reducible exact H2_) | (have H2_ := (Option.bind_some _ _).symm.trans H; with_reducible exact H2_) | with_reducible exact H | (rw [hy233]; exact H) | exact H
                              have Ny233 := Aside0.mk hy233
                              clear hy233
                              obtain ⟨y235, hy235⟩ : ∃ y_ : List (List Int), y_ = (x5_5.set ((Go.bits .or .i64 x47_3 (ji48)) : Int).toNat y233) := ⟨_, rfl⟩
                              replace H : (impl_table_countRows.l4 k5 l0 y235 x47_3 (rd (impl_table_countRows.rdR x5_4 x47_3) x55_4) (x5_2.length : Int) x47_3 (impl_table_countRows.rdR x5_3 x47_3) ((impl_table_countRows.rdR x5_3 x47_3).length : Int) x55_4 x69_5 (t227.length : Int) (wrap64 (x71_5 + 1))) = some r := by first | (rw [hy235]; with_reducible exact H) | (have H2_ := (Option.bind_some _ _).symm.trans H; rw [hy235]; with_reducible exact H2_) | (have H2_ := (Option.bind_some _ _).symm.trans H; with_reducible exact H2_) | with_reducible exact H | (rw [hy235]; exact H) | exact H
                              have Ny235 := Aside0.mk hy235
                              clear hy235
                              have H' := Aside0.mk H
                              clear H
                              have p230 : 0 ≤ (x71_5 : Int) := of_decide_eq_true (by first | (with_reducible assumption) | assumption)
                              have q230 : x71_5 < (x69_5.length : Int) := of_decide_eq_true (by first | (with_reducible assumption) | assumption)
                              obtain ⟨ad230, e230, hx230_0⟩ := Kd.at_int (Kd.R_reads' HO_69.out).2.2 x71_5 p230 q230
                              cases e230
                              replace p230 := eq_true p230
                              replace q230 := eq_true q230
                              have p231 : 0 ≤ ((Go.bits .or .i64 x47_3 (ji48)) : Int) := of_decide_eq_true (by first | (with_reducible assumption) | assumption)
                              have q231 : (Go.bits .or .i64 x47_3 (ji48)) < (x5_5.length : Int) := of_decide_eq_true (by first | (with_reducible assumption) | assumption)
                              obtain ⟨ad231, A231_0, c231_0, e231, hx231_0, hl231_0, hi231_0⟩ := impl_table_countRows.atR (Kd.S_reads' HO_5.out).2.2 (Go.bits .or .i64 x47_3 (ji48)) p231 q231
                              obtain rfl : ad224 = ad231 := (by injection e231)
                              obtain ⟨ce231, hce231, hMe231, hcc231⟩ := Kd.S_get HO_5.out [] (Go.bits .or .i64 x47_3 (ji48)) p231 (by first | exact q231 | exact of_decide_eq_true (by first | (with_reducible assumption) | assumption) | (have e_ := (Kd.S_reads' HO_5.out).1; omega))
                              obtain ⟨ve231_0, rfl, ge231_0⟩ := hMe231
                              have hv231_0 := hcc231 0 _ rfl
                              rw [Nat.add_zero, show ((Kd.slice 3 (Kd.int .i64))).sz = 1 from rfl, Nat.mul_one] at hv231_0
                              replace hv231_0 := Option.some.inj (hv231_0.symm.trans hx231_0)
                              rw [hv231_0] at ge231_0
                              have HL231_0 := Aside0.mk (show Kd.R (Kd.int .i64) 3 _ _ _ _ (impl_table_countRows.rdR x5_5 (Go.bits .or .i64 x47_3 (ji48))) from ge231_0)
                              clear hv231_0 ge231_0
                              have HX231_0 := Aside0.mk hx231_0
                              clear hcc231 hce231
                              have HR231_0 := Aside0.mk hi231_0
                              have HC231_0 := Aside0.mk hl231_0
                              clear hi231_0 hl231_0
                              replace p231 := eq_true p231
                              replace q231 := eq_true q231
                              have p232 : 0 ≤ ((rd x69_5 x71_5) : Int) := of_decide_eq_true (by first | (with_reducible assumption) | assumption)
                              have q232 : (rd x69_5 x71_5) < ((impl_table_countRows.rdR x5_5 (Go.bits .or .i64 x47_3 (ji48))).length : Int) := of_decide_eq_true (by first | (with_reducible assumption) | assumption)
                              obtain ⟨ad232, e232, hx232_0⟩ := Kd.at_int (by repeat (first | (with_reducible exact HR231_0.out) | (with_reducible refine Kd.C_alloc ?_ _) | (with_reducible refine Kd.C_drewN ?_ _) | (with_reducible refine Kd.C_drew ?_) | exact HR231_0.out)) (rd x69_5 x71_5) p232 q232
                              cases e232
                              replace p232 := eq_true p232
                              replace q232 := eq_true q232
                              have p52 : 0 ≤ ((rd x69_5 x71_5) : Int) := of_decide_eq_true (by first | (with_reducible assumption) | assumption)
                              have q52 : ((rd x69_5 x71_5) : Int) < (((impl_table_countRows.rdR x5_5 (Go.bits .or .i64 x47_3 (ji48))).length : Int) : Int) := of_decide_eq_true (by first | (with_reducible assumption) | assumption)
                              obtain ⟨go52, co52, eo52, gb52, gl52, cl52, HG52⟩ := Kd.R_form HL231_0.out (by omega)
                              (first | cases eo52 | (injection eo52 with ea_ en_ ec_; (first | subst ea_ | (injection ea_ with ea_; subst ea_)); subst ec_; clear en_))
                              have GB52 := Aside0.mk gb52
                              have GG52 := Aside0.mk HG52
                              clear gb52 gl52 HG52
                              (first | simp only [add_plain] at hx232_0 | skip)
                              obtain ⟨hx52_0, hf52_0⟩ := Kd.R_celln 0 HL231_0.out ((rd x69_5 x71_5) : Int) p52 q52
                              replace p52 := eq_true p52
                              replace q52 := eq_true q52
                              have hq53 : ((Go.bits .or .i64 x47_3 (ji48)) : Int) < (x5_5.length : Int) := (by have h_ : ((Go.bits .or .i64 x47_3 (ji48)) : Int) < ((x5_5.length : Int) : Int) := of_decide_eq_true (by first | (with_reducible assumption) | assumption); first | exact h_ | (have e_ := (Kd.S_reads' HO_5.out).1; omega) | simpa only [List.length_set, List.length_set] using h_)
                              obtain ⟨oki53, ce53, hcl53, hM53, hcc53, hok53, hbk53⟩ := Kd.S_borrow HO_5.out [] ((Go.bits .or .i64 x47_3 (ji48)) : Int) (of_decide_eq_true (by first | (with_reducible assumption) | assumption)) (by first | exact hq53 | exact of_decide_eq_true (by first | (with_reducible assumption) | assumption))
                              obtain ⟨ve53_0, rfl, ge53_0⟩ := hM53
                              have hv53 := hcc53 0 _ rfl
                              rw [Nat.add_zero, show ((Kd.slice 3 (Kd.int .i64))).sz = 1 from rfl, Nat.mul_one] at hv53
                              replace hv53 := Option.some.inj (hv53.symm.trans HX231_0.out)
                              subst hv53
                              clear hcc53 hcl53
                              replace ge53_0 := (show Kd.R (Kd.int .i64) 3 _ _ _ _ (impl_table_countRows.rdR x5_5 (Go.bits .or .i64 x47_3 (ji48))) from ge53_0)
                              have HP53 := Kd.R_putg ge53_0 ((rd x69_5 x71_5) : Int) (wrap64 ((rd (impl_table_countRows.rdR x5_5 (Go.bits .or .i64 x47_3 (ji48))) (rd x69_5 x71_5)) + (rd (impl_table_countRows.rdR x5_4 x47_3) x55_4)))
                              go_wp2_with (first | ((with_reducible refine gate_store (t := 3) (p := 87) rfl ?_); refine store_event (t := 3) (p := 87) (v := ?vo_w54) (w1 := (wr.setCell ⟨go52, ((rd x69_5 x71_5) : Int).toNat, none⟩ (.int .i64 (wrap64 ((rd (impl_table_countRows.rdR x5_5 (Go.bits .or .i64 x47_3 (ji48))) (rd x69_5 x71_5)) + (rd (impl_table_countRows.rdR x5_4 x47_3) x55_4)))))) ?hg ?ho ?hn ?hr ?_; (case ho => rfl); (case hg => rfl); (case hn => rfl); (case hr => first | (go_simp; done) | (go_simp; rfl)); intro w54 hw; have hg : wr.grownBy w54 (some go52) := (by rw [hw]; exact HP53.2); have hz_ : Kd.R (Kd.int .i64) 3 w54 w.heap.size oki53 (.slice (some ⟨go52, 0, none⟩) (impl_table_countRows.rdR x5_5 (Go.bits .or .i64 x47_3 (ji48))).length c231_0) y233 := (by rw [hw, Ny233.out]; exact HP53.1); have hp_ : Kd.S (Kd.slice 3 (Kd.int .i64)) 75 w54 w.heap.size (fun k_ => some k_ ≠ (.slice (some ad230) x69_5.length co43 : Value).ownBlock) (.slice (some ad224) x5_5.length co8) y235 := (by rw [Ny235.out]; exact hbk53 hg (fun k_ e_ => by injection e_ with e_; subst e_; exact ge53_0.1 _ rfl) (Kd.M_row hz_)); have hm_ := Kd.R_mono hz_ hok53; have hn_ : ad224.block ≠ go52 := (fun e_ => (hok53 go52 (ge53_0.1 _ rfl)).2 (by rw [← e_]; rfl)); have HV3 := Aside0.mk (show w54.cell? (ad224.add x47_3.toNat) = some (.slice (some ad225) (impl_table_countRows.rdR x5_3 x47_3).length c224_0) from (by rw [hw, cell_far (p := ⟨go52, ((rd x69_5 x71_5) : Int).toNat, none⟩) (by rw [impl_table_countRows.add_block]; exact hn_)]; exact HV2.out)); clear hn_; clear HP53 hbk53; have HL237 := Aside0.mk (hm_); have HC234 := Aside0.mk ((Kd.R_reads' hm_).2.1); replace HO_5 := Aside0.mk (hp_); replace HO_69 := Aside0.mk (Kd.R_grown1 (rU HO_69) rfl hg ((HL231_0.out.1 _ rfl).1)); replace HB := Aside0.mk ((by rw [hw]; exact below_set (HB.out) GB52.out : Below w.heap.size w w54)); clear HL231_0; clear hg hw hp_ hz_ hm_ hok53))
                              (try simp only [← hl5_5, ← hl69_5])
                              go_roundg k5
                              case measure => have := HK1.out; have := HK2.out; have := HK3.out; have := HK4.out; have := HK5.out; omega
                              case rel => exact ⟨(y235), (x69_5), (wrap64 (x71_5 + 1)), (by first | rfl | (simp; done) | (simp [*]; done)), H', ⟨by have := HK1.out; have := HK2.out; have := HK3.out; have := HK4.out; have := HK5.out; omega⟩, ⟨by (try simp only [hl5_1]); (try simp only [hl5_2]); (try simp only [hl31_2]); (try simp only [hl5_3]); (try simp only [hl5_4]); (try simp only [hl5_5]); (try simp only [hl69_5]); (with_reducible repeat (first | apply Kd.S_alloc | apply Kd.S_drewN | apply Kd.S_drew)); exact HO_5.out⟩, ⟨by (try simp only [hl5_1]); (try simp only [hl5_2]); (try simp only [hl31_2]); (try simp only [hl5_3]); (try simp only [hl5_4]); (try simp only [hl5_5]); (try simp only [hl69_5]); (with_reducible repeat (first | apply Kd.R_alloc | apply Kd.R_drewN | apply Kd.R_drew)); exact HO_69.out⟩, ⟨hB⟩, ⟨by first | exact HV3.out | (simpa using HV3.out)⟩⟩
                             ·rw [if_neg c51] at H
                              exact absurd H (by simp)
                            ·rw [if_neg c50] at H
                             exact absurd H (by simp)
                           ·rw [if_neg c49] at H
                            exact absurd H (by simp)
                          ·rw [if_neg c47] at H
                           exact absurd H (by simp)
                         ·rw [if_neg c46] at H
                          exact absurd H (by simp)
                        ·rw [if_neg c45] at H
                         exact absurd H (by simp)
                       ·rw [if_neg c44] at H
                        have c44b0 : decide (x71_5 < (t227.length : Int)) = false := decide_eq_false c44
                        (try (have c44b0m := c44b0; simp only [hl5_1] at c44b0m))
                        (try (have c44b0m := c44b0; simp only [hl5_2] at c44b0m))
                        (try (have c44b0m := c44b0; simp only [hl31_2] at c44b0m))
                        (try (have c44b0m := c44b0; simp only [hl5_3] at c44b0m))
                        (try (have c44b0m := c44b0; simp only [hl5_4] at c44b0m))
                        (try (have c44b0m := c44b0; simp only [hl5_5] at c44b0m))
                        (try (have c44b0m := c44b0; simp only [hl69_5] at c44b0m))
                        clear c44
                        have H' := Aside0.mk H
                        clear H
                        go_wp2
                        (try simp only [← hl5_4, ← hl5_5, ← hl69_5])
                        go_roundg k5
                        case measure => have := HK1.out; have := HK2.out; have := HK3.out; have := HK4.out; have := HK5.out; omega
                        case rel => exact ⟨(x5_5), (wrap64 (x55_4 + 1)), (by first | rfl | (simp; done) | (simp [*]; done)), H', ⟨by have := HK1.out; have := HK2.out; have := HK3.out; have := HK4.out; have := HK5.out; omega⟩, ⟨by (try simp only [hl5_1]); (try simp only [hl5_2]); (try simp only [hl31_2]); (try simp only [hl5_3]); (try simp only [hl5_4]); (try simp only [hl5_5]); (try simp only [hl69_5]); (with_reducible repeat (first | apply Kd.S_alloc | apply Kd.S_drewN | apply Kd.S_drew)); exact Kd.S_mono HO_5.out (fun _ hk => trivial)⟩, ⟨hB⟩, ⟨by first | exact HV2.out | (simpa using HV2.out)⟩⟩
                    ·rw [if_neg c40] at H
                     exact absurd H (by simp)
                  ·rw [if_neg c38] at H
                   exact absurd H (by simp)
                 ·rw [if_neg c37] at H
                  exact absurd H (by simp)
                ·rw [if_neg c36] at H
                 have c36b0 : decide (x55_4 < ((impl_table_countRows.rdR x5_3 x47_3).length : Int)) = false := decide_eq_false c36
                 (try (have c36b0m := c36b0; simp only [hl5_1] at c36b0m))
                 (try (have c36b0m := c36b0; simp only [hl5_2] at c36b0m))
                 (try (have c36b0m := c36b0; simp only [hl31_2] at c36b0m))
                 (try (have c36b0m := c36b0; simp only [hl5_3] at c36b0m))
                 (try (have c36b0m := c36b0; simp only [hl5_4] at c36b0m))
                 clear c36
                 have H' := Aside0.mk H
                 clear H
                 go_wp2
                 (try simp only [← hl5_3, ← hl5_4])
                 go_roundg k4
                 case measure => have := HK1.out; have := HK2.out; have := HK3.out; have := HK4.out; omega
                 case rel => exact ⟨(x5_4), (wrap64 (x47_3 + 1)), (by first | rfl | (simp; done) | (simp [*]; done)), H', ⟨by have := HK1.out; have := HK2.out; have := HK3.out; have := HK4.out; omega⟩, ⟨by (try simp only [hl5_1]); (try simp only [hl5_2]); (try simp only [hl31_2]); (try simp only [hl5_3]); (try simp only [hl5_4]); (with_reducible repeat (first | apply Kd.S_alloc | apply Kd.S_drewN | apply Kd.S_drew)); exact HO_5.out⟩, ⟨hB⟩⟩
             ·rw [if_neg c35] at H
              exact absurd H (by simp)
            ·rw [if_neg c34] at H
             exact absurd H (by simp)
           ·rw [if_neg c33] at H
            have c33b0 : decide (x47_3 < (x5_2.length : Int)) = false := decide_eq_false c33
            (try (have c33b0m := c33b0; simp only [hl5_1] at c33b0m))
            (try (have c33b0m := c33b0; simp only [hl5_2] at c33b0m))
            (try (have c33b0m := c33b0; simp only [hl31_2] at c33b0m))
            (try (have c33b0m := c33b0; simp only [hl5_3] at c33b0m))
            clear c33
            obtain ⟨ji55, hji55⟩ : ∃ j_ : Int, (wrap64 ((x5_3.length : Int) - 1)) = j_ := ⟨_, rfl⟩
            replace H : (if 0 ≤ (ji55) then (if (ji55) < (x5_3.length : Int) then (some (impl_table_countRows.rdR x5_3 (ji55))) else (none)) else (none)) = some r := by first | (rw [hji55] at H; exact H) | (simp only [hji55] at H ⊢; exact H)
            have hji55w : (IntKind.i64.wrap ((x5_3.length : Int) - 1)) = ji55 := (i64_w _).trans hji55
            by_cases c56 : 0 ≤ (ji55)
            ·rw [if_pos c56] at H
             have c56b0 : decide (0 ≤ (ji55)) = true := decide_eq_true c56
             clear c56
             by_cases c57 : (ji55) < (x5_3.length : Int)
             ·rw [if_pos c57] at H
              have c57b0 : decide ((ji55) < (x5_3.length : Int)) = true := decide_eq_true c57
              (try (have c57b0m := c57b0; simp only [hl5_1] at c57b0m))
              (try (have c57b0m := c57b0; simp only [hl5_2] at c57b0m))
              (try (have c57b0m := c57b0; simp only [hl31_2] at c57b0m))
              (try (have c57b0m := c57b0; simp only [hl5_3] at c57b0m))
              clear c57
              obtain rfl := Option.some.inj H
              have p223 : 0 ≤ ((ji55) : Int) := of_decide_eq_true (by first | (with_reducible assumption) | assumption)
              have q223 : (ji55) < (x5_3.length : Int) := of_decide_eq_true (by first | (with_reducible assumption) | assumption)
              obtain ⟨ad223, A223_0, c223_0, e223, hx223_0, hl223_0, hi223_0⟩ := impl_table_countRows.atR (Kd.S_reads' HO_5.out).2.2 (ji55) p223 q223
              cases e223
              obtain ⟨ce223, hce223, hMe223, hcc223⟩ := Kd.S_get HO_5.out [] (ji55) p223 (by first | exact q223 | exact of_decide_eq_true (by first | (with_reducible assumption) | assumption) | (have e_ := (Kd.S_reads' HO_5.out).1; omega))
              obtain ⟨ve223_0, rfl, ge223_0⟩ := hMe223
              have hv223_0 := hcc223 0 _ rfl
              rw [Nat.add_zero, show ((Kd.slice 3 (Kd.int .i64))).sz = 1 from rfl, Nat.mul_one] at hv223_0
              replace hv223_0 := Option.some.inj (hv223_0.symm.trans hx223_0)
              rw [hv223_0] at ge223_0
              have HL223_0 := Aside0.mk (show Kd.R (Kd.int .i64) 3 _ _ _ _ (impl_table_countRows.rdR x5_3 (ji55)) from ge223_0)
              clear hv223_0 ge223_0
              have HX223_0 := Aside0.mk hx223_0
              clear hcc223 hce223
              have HR223_0 := Aside0.mk hi223_0
              have HC223_0 := Aside0.mk hl223_0
              clear hi223_0 hl223_0
              replace p223 := eq_true p223
              replace q223 := eq_true q223
              go_wp2
              go_ret
              exact ⟨_, by first | rfl | (simp [errW_none, errW_some] <;> rfl) | (simp only [← hji3, ← hji55]; first | rfl | (simp [errW_none, errW_some] <;> rfl)) | (simp [*, errW_none, errW_some] <;> rfl), by (with_reducible repeat (first | apply Kd.R_alloc | apply Kd.R_drewN | apply Kd.R_drew)); exact Kd.R_mono HL223_0.out (fun _ hk => trivial), hB⟩
             ·rw [if_neg c57] at H
              exact absurd H (by simp)
            ·rw [if_neg c56] at H
             exact absurd H (by simp)
  ·rw [if_neg c5] at H
   exact absurd H (by simp)
 ·rw [if_neg c4] at H
  exact absurd H (by simp)

end Go.Proofs.YtjpfbkkikcpmhaaDoor.PFnExactCountRows
