-- Of this session's own program wip/gen/gen.py (it drives the kit's print): contracts of the functions that the law reaches.
import Derived.Shelf.Slices.Reverse
import Derived.Test.YtjpfbkkikcpmhaaPFnExactMendAllx0
import Derived.Test.YtjpfbkkikcpmhaaPFnExactMendAllx7
namespace Go.Proofs.Ytjpfbkkikcpmhaa.PFnExactMendAll
open Go.RowKit Go.Proofs.YtjpfbkkikcpmhaaW.PrintWords Go.Proofs.YtjpfbkkikcpmhaaW.PrintLast Go.Proofs.YtjpfbkkikcpmhaaW.PrintMore Go.Proofs.Ytjpfbkkikcpmhaa.Base
attribute [local go_sem] max2_int min2_int max_two min_two max_three min_three max_four min_four   -- for this text's walks alone
set_option linter.unusedVariables false
set_option linter.unusedSimpArgs false

/-! ### impl_bit: function 39 -/
def impl_bit.f (a0 : Bool) : Option (Int) := if a0 = true then (some 1) else (some 0)
set_option maxHeartbeats 8000000 in
set_option maxRecDepth 100000 in
theorem impl_bit.calls (a0 : Bool) (r : Int) (w : World) (h : impl_bit.f a0 = some r) :
  Calls Try.prog 39 #[.bool a0] w fun e w' => e = .returned (.int .i64 r) ∧ Drawn0 w w' := by
 have H : (if a0 = true then (some 1) else (some 0)) = some r := h
 clear h
 by_cases c2 : a0 = true
 ·subst c2
  have H1 : (some 1) = some r := by rw [if_pos rfl] at H; exact H
  clear H
  have H := H1
  clear H1
  obtain rfl := Option.some.inj H
  go_enter Try.func39, Try.ntmps39
  go_wp2
  go_ret
  exact ⟨by first | rfl | (simp; done) | (simp [*]; done), by repeat (first | exact Drawn0.refl _ | apply Drawn0.step)⟩
 ·replace c2 := Bool.eq_false_iff.mpr c2
  subst c2
  have H1 : (some 0) = some r := by rw [if_neg (show ¬ (false = true) by decide)] at H; exact H
  clear H
  have H := H1
  clear H1
  obtain rfl := Option.some.inj H
  go_enter Try.func39, Try.ntmps39
  go_wp2
  go_ret
  exact ⟨by first | rfl | (simp; done) | (simp [*]; done), by repeat (first | exact Drawn0.refl _ | apply Drawn0.step)⟩

/-! ### impl_table_has: function 40 -/
def impl_table_has.f (l0 : List Int) (a1 : Int) (a2 : Int) : Option (Bool) := if 0 ≤ a1 then (if a1 < (l0.length : Int) then (if 0 ≤ a2 then (some ((Go.bits .and .u16 (shr .u16 (rd l0 a1) a2) 1) == 1)) else (none)) else (none)) else (none)
set_option maxHeartbeats 8000000 in
set_option maxRecDepth 100000 in
theorem impl_table_has.calls (A0 : Option Addr) (c0 : Nat) (l0 : List Int) (a1 : Int) (a2 : Int) (r : Bool) (w : World) (hr0 : Kd.C (Kd.int .u16) w A0 l0.length l0) (hc0 : l0.length ≤ c0) (h : impl_table_has.f l0 a1 a2 = some r) :
  Calls Try.prog 40 #[.slice A0 l0.length c0, .int .i64 a1, .int .i64 a2] w fun e w' => e = .returned (.bool r) ∧ Drawn0 w w' := by
 have HR0 := Aside0.mk hr0
 have HC0 := Aside0.mk hc0
 clear hr0 hc0
 have H : (if 0 ≤ a1 then (if a1 < (l0.length : Int) then (if 0 ≤ a2 then (some ((Go.bits .and .u16 (shr .u16 (rd l0 a1) a2) 1) == 1)) else (none)) else (none)) else (none)) = some r := h
 clear h
 by_cases c4 : 0 ≤ a1
 ·rw [if_pos c4] at H
  have c4b0 : decide (0 ≤ a1) = true := decide_eq_true c4
  clear c4
  by_cases c5 : a1 < (l0.length : Int)
  ·rw [if_pos c5] at H
   have c5b0 : decide (a1 < (l0.length : Int)) = true := decide_eq_true c5
   clear c5
   by_cases c6 : 0 ≤ a2
   ·rw [if_pos c6] at H
    have c6b0 := eq_true c6
    have c6b1 : decide (0 ≤ a2) = true := decide_eq_true c6
    clear c6
    obtain ⟨ji7, hji7⟩ : ∃ j_ : Int, (shr .u16 (rd l0 a1) a2) = j_ := ⟨_, rfl⟩
    replace H : (some ((Go.bits .and .u16 (ji7) 1) == 1)) = some r := by first | (rw [hji7] at H; exact H) | (simp only [hji7] at H ⊢; exact H)
    have hji7_ : ((rd l0 a1) / 2 ^ min a2.toNat 16) = ji7 := hji7
    have hji7z : a2 ≤ 16 → ((rd l0 a1) / 2 ^ a2.toNat) = ji7 := shr_small hji7
    obtain rfl := Option.some.inj H
    have p250 : 0 ≤ (a1 : Int) := of_decide_eq_true (by first | (with_reducible assumption) | assumption)
    have q250 : a1 < (l0.length : Int) := of_decide_eq_true (by first | (with_reducible assumption) | assumption)
    obtain ⟨ad250, e250, hx250_0⟩ := Kd.at_int HR0.out a1 p250 q250
    cases e250
    replace p250 := eq_true p250
    replace q250 := eq_true q250
    go_enter Try.func40, Try.ntmps40
    go_wp2
    go_ret
    exact ⟨by first | rfl | (simp; done) | (simp only [← hji7] <;> (first | rfl | simp)) | (simp [*]; done), by repeat (first | exact Drawn0.refl _ | apply Drawn0.step)⟩
   ·rw [if_neg c6] at H
    exact absurd H (by simp)
  ·rw [if_neg c5] at H
   exact absurd H (by simp)
 ·rw [if_neg c4] at H
  exact absurd H (by simp)

/-! ### impl_table_strangers: function 27 -/
def impl_table_strangers.l0 : Nat → List Int → List Int → Int → List Int → Int → Int → Option (Int)
 | 0, _, _, _, _, _, _ => none
 | k + 1, x0, x1, x5, x8, x9, x10 => if x10 < x9 then (if 0 ≤ x10 then (if x10 < (x8.length : Int) then (if (x1.length : Int) = 0 then (none) else (if 0 ≤ (Int.tmod (wrap64 (x10 + 1)) (x1.length : Int)) then (if (Int.tmod (wrap64 (x10 + 1)) (x1.length : Int)) < (x1.length : Int) then ((impl_table_has.f x0 (rd x8 x10) (rd x1 (Int.tmod (wrap64 (x10 + 1)) (x1.length : Int)))).bind fun t253 => ((impl_bit.f (!t253)).bind fun t254 => (impl_table_strangers.l0 k x0 x1 (wrap64 (x5 + t254)) x8 x9 (wrap64 (x10 + 1))))) else (none)) else (none))) else (none)) else (none)) else (some x5)
def impl_table_strangers.f (k : Nat) (l0 : List Int) (l1 : List Int) : Option (Int) := impl_table_strangers.l0 k l0 l1 0 l1 (l1.length : Int) 0
theorem impl_table_strangers.mono_l : ∀ k, (∀ y0 y1 y2 y3 y4 y5, LeO (impl_table_strangers.l0 k y0 y1 y2 y3 y4 y5) (impl_table_strangers.l0 (k + 1) y0 y1 y2 y3 y4 y5))
 | 0 => fun _ _ _ _ _ _ r h => by simp [impl_table_strangers.l0] at h
 | k + 1 => by
  have ih0 := impl_table_strangers.mono_l k
  ·intro y0 y1 y2 y3 y4 y5
   unfold impl_table_strangers.l0
   repeat' first
   | (with_reducible exact ih0 _ _ _ _ _ _)
   | (with_reducible exact LeO.refl _)
   | (with_reducible exact LeO.none _)
   | (with_reducible refine LeO.ite ?_ ?_)
   | (with_reducible refine LeO.bind ?_ (fun _ => ?_))
   | exact ih0 _ _ _ _ _ _
   | exact LeO.none _
   | refine LeO.ite ?_ ?_
   | refine LeO.bind ?_ (fun _ => ?_)
theorem impl_table_strangers.mono : ∀ a0 a1 k, LeO (impl_table_strangers.f k a0 a1) (impl_table_strangers.f (k + 1) a0 a1) := by
 intro a0 a1 k
 have ih0 := impl_table_strangers.mono_l k
 unfold impl_table_strangers.f
 repeat' first
   | (with_reducible exact ih0 _ _ _ _ _ _)
   | (with_reducible exact LeO.refl _)
   | (with_reducible exact LeO.none _)
   | (with_reducible refine LeO.ite ?_ ?_)
   | (with_reducible refine LeO.bind ?_ (fun _ => ?_))
   | exact ih0 _ _ _ _ _ _
   | exact LeO.none _
   | refine LeO.ite ?_ ?_
   | refine LeO.bind ?_ (fun _ => ?_)
set_option maxHeartbeats 8000000 in
set_option maxRecDepth 100000 in
theorem impl_table_strangers.calls (k : Nat) (A0 : Option Addr) (c0 : Nat) (l0 : List Int) (A1 : Option Addr) (c1 : Nat) (l1 : List Int) (r : Int) (w : World) (hr0 : Kd.C (Kd.int .u16) w A0 l0.length l0) (hc0 : l0.length ≤ c0) (hr1 : Kd.C (Kd.int .i64) w A1 l1.length l1) (hc1 : l1.length ≤ c1) (h : impl_table_strangers.f k l0 l1 = some r) :
  Calls Try.prog 27 #[.slice A0 l0.length c0, .slice A1 l1.length c1] w fun e w' => e = .returned (.int .i64 r) ∧ Drawn0 w w' := by
 have HR0 := Aside0.mk hr0
 have HC0 := Aside0.mk hc0
 clear hr0 hc0
 have HR1 := Aside0.mk hr1
 have HC1 := Aside0.mk hc1
 clear hr1 hc1
 have H : (impl_table_strangers.l0 k l0 l1 0 l1 (l1.length : Int) 0) = some r := h
 clear h
 have H' := Aside0.mk H
 clear H
 go_enter Try.func27, Try.ntmps27
 go_wp2
 go_loopg [5, 10] k (fun kq v5 v10 w' => ∃ (x5_1 : Int) (x10_1 : Int), v5 = .int .i64 x5_1 ∧ v10 = .int .i64 x10_1 ∧ Aside0 (impl_table_strangers.l0 kq l0 l1 x5_1 l1 (l1.length : Int) x10_1 = some r) ∧ Aside0 (kq ≤ k) ∧ Drawn0 w w')
 case atStart => exact ⟨(0), (0), (by first | rfl | (simp; done) | (simp [*]; done)), (by first | rfl | (simp; done) | (simp [*]; done)), H', ⟨Nat.le_refl _⟩, by repeat (first | exact Drawn0.refl _ | apply Drawn0.step)⟩
 case round =>
  clear H'
  try clear c1
  try clear c2
  try clear p2
  obtain ⟨x5_1, x10_1, rfl, rfl, HA, HK1, ⟨m1, rfl⟩⟩ := hrel
  cases gk with
  | zero => exact absurd HA.out (by simp [impl_table_strangers.l0])
  | succ k1 =>
   have H := HA.out
   clear HA
   simp only [impl_table_strangers.l0] at H
   by_cases c3 : x10_1 < (l1.length : Int)
   ·rw [if_pos c3] at H
    have c3b0 : decide (x10_1 < (l1.length : Int)) = true := decide_eq_true c3
    clear c3
    by_cases c4 : 0 ≤ x10_1
    ·rw [if_pos c4] at H
     have c4b0 : decide (0 ≤ x10_1) = true := decide_eq_true c4
     clear c4
     by_cases c5 : x10_1 < (l1.length : Int)
     ·rw [if_pos c5] at H
      have c5b0 : decide (x10_1 < (l1.length : Int)) = true := decide_eq_true c5
      clear c5
      by_cases c6 : (l1.length : Int) = 0
      ·rw [if_pos c6] at H
       exact absurd H (by simp)
      ·rw [if_neg c6] at H
       have c6b0 : ((l1.length : Int) == 0) = false := beq_eq_false_iff_ne.mpr c6
       have c6b1 : ((l1.length : Int) != 0) = true := bne_iff_ne.mpr c6
       have c6b2 : ¬ (l1 = []) := fun h_ => c6 (by rw [h_]; rfl)
       obtain ⟨ji7, hji7⟩ : ∃ j_ : Int, (Int.tmod (wrap64 (x10_1 + 1)) (l1.length : Int)) = j_ := ⟨_, rfl⟩
       replace H : (if 0 ≤ (ji7) then (if (ji7) < (l1.length : Int) then ((impl_table_has.f l0 (rd l1 x10_1) (rd l1 (ji7))).bind fun t253 => ((impl_bit.f (!t253)).bind fun t254 => (impl_table_strangers.l0 k1 l0 l1 (wrap64 (x5_1 + t254)) l1 (l1.length : Int) (wrap64 (x10_1 + 1))))) else (none)) else (none)) = some r := by first | (rw [hji7] at H; exact H) | (simp only [hji7] at H ⊢; exact H)
       by_cases c8 : 0 ≤ (ji7)
       ·rw [if_pos c8] at H
        have c8b0 : decide (0 ≤ (ji7)) = true := decide_eq_true c8
        clear c8
        by_cases c9 : (ji7) < (l1.length : Int)
        ·rw [if_pos c9] at H
         have c9b0 : decide ((ji7) < (l1.length : Int)) = true := decide_eq_true c9
         clear c9
         replace H := Option.bind_eq_some_iff.mp H
         obtain ⟨t253, A100, H⟩ := H
         try dsimp only at H
         have A10 := Aside0.mk A100
         clear A100
         replace H := Option.bind_eq_some_iff.mp H
         obtain ⟨t254, A110, H⟩ := H
         try dsimp only at H
         have A11 := Aside0.mk A110
         clear A110
         have H' := Aside0.mk H
         clear H
         have p251 : 0 ≤ (x10_1 : Int) := of_decide_eq_true (by first | (with_reducible assumption) | assumption)
         have q251 : x10_1 < (l1.length : Int) := of_decide_eq_true (by first | (with_reducible assumption) | assumption)
         obtain ⟨ad251, e251, hx251_0⟩ := Kd.at_int HR1.out x10_1 p251 q251
         cases e251
         replace p251 := eq_true p251
         replace q251 := eq_true q251
         have p252 : 0 ≤ ((ji7) : Int) := of_decide_eq_true (by first | (with_reducible assumption) | assumption)
         have q252 : (ji7) < (l1.length : Int) := of_decide_eq_true (by first | (with_reducible assumption) | assumption)
         obtain ⟨ad252, e252, hx252_0⟩ := Kd.at_int HR1.out (ji7) p252 q252
         obtain rfl : ad251 = ad252 := (by injection e252)
         replace p252 := eq_true p252
         replace q252 := eq_true q252
         go_wp2_with (first | ((with_reducible refine gate_callee (f := 40) rfl ?_); refine goesL_ (some 26) rfl rfl Try.func40 (by kernel_rfl) rfl #[.slice A0 l0.length c0, .int .i64 (rd l1 x10_1), .int .i64 (rd l1 (ji7))] rfl (by (try simp only [List.map_toArray, List.map_cons, List.map_nil]); first | done | (simp only [hji7]; rfl) | rfl | (simp only [List.length_drop, List.length_take]; rfl)) ?_; (with_reducible refine (impl_table_has.calls _ _ l0 (rd l1 x10_1) (rd l1 (ji7)) t253 _ ?side1 ?side2 A10.out).mono ?_); (case side1 => exact cS HR0.out); (case side2 => exact HC0.out); rintro e w' ⟨rfl, ⟨nd, rfl⟩⟩; refine ⟨_, rfl, ?_⟩) | ((with_reducible refine gate_callee (f := 39) rfl ?_); refine goC (N := some 28) Try.func39 #[.bool (!t253)] rfl ?_; (with_reducible refine (impl_bit.calls (!t253) t254 _ A11.out).mono ?_); rintro e w' ⟨rfl, ⟨nd, rfl⟩⟩; refine ⟨_, rfl, ?_⟩))
         go_roundg k1
         case measure => have := HK1.out; omega
         case rel => exact ⟨(wrap64 (x5_1 + t254)), (wrap64 (x10_1 + 1)), (by first | rfl | (simp; done) | (simp [*]; done)), (by first | rfl | (simp; done) | (simp [*]; done)), H', ⟨by have := HK1.out; omega⟩, by repeat (first | exact Drawn0.refl _ | apply Drawn0.step)⟩
        ·rw [if_neg c9] at H
         exact absurd H (by simp)
       ·rw [if_neg c8] at H
        exact absurd H (by simp)
     ·rw [if_neg c5] at H
      exact absurd H (by simp)
    ·rw [if_neg c4] at H
     exact absurd H (by simp)
   ·rw [if_neg c3] at H
    have c3b0 : decide (x10_1 < (l1.length : Int)) = false := decide_eq_false c3
    clear c3
    obtain rfl := Option.some.inj H
    go_wp2
    go_ret
    exact ⟨by first | rfl | (simp; done) | (simp [*]; done), by repeat (first | exact Drawn0.refl _ | apply Drawn0.step)⟩

/-! ### slices_Clone_int_int: function 33 (a text of this session's own) -/

def slices_Clone_int_int.f (l0 : List (Int)) : Option (List (Int)) := if l0.length < 17592186044416 then some l0 else none
set_option maxHeartbeats 8000000 in
set_option maxRecDepth 100000 in
theorem slices_Clone_int_int.calls (A0 : Option Addr) (c0 : Nat) (l0 : List (Int)) (r : List (Int)) (w : World) (hr0 : Kd.C (Kd.int .i64) w A0 l0.length l0) (hc0 : l0.length ≤ c0) (h : slices_Clone_int_int.f l0 = some r) :
    Calls Try.prog 33 #[.slice A0 l0.length c0] w fun e w' => ∃ v0_ : Value, e = .returned (v0_) ∧ Kd.R (Kd.int .i64) 3 w' w.heap.size (fun _ => True) v0_ r ∧ Below w.heap.size w w' := by
  unfold slices_Clone_int_int.f at h
  by_cases c2 : l0.length < 17592186044416
  · rw [if_pos c2] at h
    obtain rfl := Option.some.inj h
    have heq := fun (w : World) (n : Nat) => Go.Lib.run_eql_slice_nil (P := Try.prog) w 25 3 A0 n c0 0 0 Try.underlying25
    cases A0 with
    | none =>
      obtain rfl : l0 = [] := by
        rcases l0 with _ | ⟨x, l⟩
        · rfl
        · obtain ⟨_, h, _⟩ := hr0.2.2 (by simp); cases h
      clear hr0 h c2
      go_enter Try.func33, Try.ntmps33
      go_wp2
      go_ret
      exact ⟨_, rfl, Kd.R_nil _ _ _ _ _, Below.refl _ _⟩
    | some ad =>
      have HR0 := Aside0.mk hr0
      have LM := Aside0.mk c2
      have HB := Aside0.mk (Below.refl w.heap.size w)
      have NL := Aside0.mk (List.nil_append l0)
      clear hr0 hc0 h c2
      go_enter Try.func33, Try.ntmps33
      go_wp2_with (first | ((with_reducible refine gate_dst (N := 5) rfl ?_); refine Kd.R_lit (Kd.int .i64) _ 3 ?hg (N := 5) ?hd (xs := ([] : List (Int))) (inner := []) (ok := fun _ => True) (okp := fun _ => True) ?hr ?hp (fun _ hk => hk) trivial (Below.refl _ _) (Nat.le_refl _) (by simp) ?_; (case hd => rfl); (case hg => rfl); (case hr => first | (go_simp; done) | (go_simp; rfl)); (case hp => exact (Reps.none _ _)); intro v132 w3 ho4 hb hg_ hnew_; clear hg_ hnew_; have n0_ := Aside0.mk (Kd.R_lower ho4 (below_size (by repeat (first | (with_reducible first | exact HB.out | apply below_alloc | apply pw_below_drewN | apply below_drew1) | exact HB.out)))); have n1_ := Aside0.mk (below_step (by repeat (first | (with_reducible first | exact HB.out | apply below_alloc | apply pw_below_drewN | apply below_drew1) | exact HB.out)) hb); clear HB; have HO133 := n0_; have HB := n1_; clear n0_ n1_; clear hb ho4) | ((with_reducible refine gate_builtin (b := .append) (xs := #[.tmp 5, .tmp 6]) rfl ?_); at_builtin; refine Kd.R_append_rows (Kd.int .i64) (Rr := (Kd.int .i64).K w3) (w0 := w) w.heap.size rfl (.tmp 5) (.tmp 6) 25 3 (.int .i64 0) 8 rfl Try.underlying25 info3 rfl (by decide) (by omega) v132 [] l0 _ _ _ (fun _ => True) (fun _ => False) rfl rfl ?aO ?aR ?aK (fun _ h => h.elim) ?aF ?aB ?aS ?aL ?_; (case aR => repeat (first | exact (Kd.C_below HR0.out HB.out) | (with_reducible refine Kd.C_alloc ?_ _) | (with_reducible refine Kd.C_drewN ?_ _) | (with_reducible refine Kd.C_drew ?_))); (case aK => exact (fun _ _ h => h)); (case aB => exact (by repeat (first | (with_reducible first | exact HB.out | apply below_alloc | apply pw_below_drewN | apply below_drew1) | exact HB.out))); (case aF => exact (fun _ _ => trivial)); (case aO => exact (by (with_reducible repeat (first | apply Kd.R_alloc | apply Kd.R_drewN | apply Kd.R_drew)); exact HO133.out)); (case aS => exact (below_size (by repeat (first | (with_reducible first | exact HB.out | apply below_alloc | apply pw_below_drewN | apply below_drew1) | exact HB.out)))); (case aL => have := LM.out; simp only [List.length_nil]; omega); intro v135 w5 ho hb hg hat; rw [NL.out] at ho; have n0_ := Aside0.mk (hb); have n1_ := Aside0.mk (ho); clear HB; clear HO133; have HB := n0_; have HO136 := n1_; clear n0_ n1_; clear ho hb hg hat))
      go_ret
      exact ⟨_, rfl, by (with_reducible repeat (first | apply Kd.R_alloc | apply Kd.R_drewN | apply Kd.R_drew)); exact HO136.out, by repeat (first | (with_reducible first | exact HB.out | apply below_alloc | apply pw_below_drewN | apply below_drew1) | exact HB.out)⟩
  · rw [if_neg c2] at h; cases h

/-! ### impl_turned: function 43 (a text of this session's own) -/
-- WANTS Derived.Shelf.Slices.Reverse

def impl_turned.f (l0 : List Int) (a1 a2 : Int) : Option (List Int) := (slices_Clone_int_int.f l0).bind fun q => if 0 ≤ a1 then (if a1 < wrap64 (a2 + 1) then (if wrap64 (a2 + 1) ≤ (q.length : Int) then some (q.take a1.toNat ++ ((q.drop a1.toNat).take ((wrap64 (a2 + 1)).toNat - a1.toNat)).reverse ++ q.drop (wrap64 (a2 + 1)).toNat) else none) else none) else none
section
open Go.Sort Go.Shelf
def impl_turned.rv_ren : Go.Shelf.Ren := ⟨fun | 112 => 55 | n => n, fun | 28 => 25 | 3 => 3 | 4 => 4 | 0 => 0 | n => n, fun | n => n⟩
theorem impl_turned.rv : Go.Proofs.Lays.n112 Try.prog impl_turned.rv_ren := {
  mixed := by kernel_rfl
  f112 := Try.func55.trans (congrArg some (by kernel_rfl))
  t0 := Try.underlying0
  a0 := Try.isAgg0
  z0 := Try.sizeOf0
  v0 := Try.zeroValue0
  t3 := Try.underlying3
  a3 := Try.isAgg3
  z3 := Try.sizeOf3
  v3 := Try.zeroValue3
  t4 := Try.underlying4
  a4 := Try.isAgg4
  z4 := Try.sizeOf4
  v4 := Try.zeroValue4
  t28 := Try.underlying25
  a28 := Try.isAgg25
  z28 := Try.sizeOf25
  v28 := Try.zeroValue25 }
/-- A cut of an own row lies where it lies. -/
theorem impl_turned.cut {w : World} {base g n cap i m : Nat} {q : List Int} (ho : w.ownsRow base 3 1 (.slice (some ⟨g, 0, none⟩) n cap) n (encs (Value.int .i64) q)) (hn : q.length = n) (him : i ≤ m) (hm : m ≤ n) : Holds (Value.int .i64) w g i ((q.drop i).take (m - i)).toArray := by
  intro j hj
  rcases ho.2 with ⟨e, _⟩ | ⟨g', cap', cur, e, hg, hb, h1, h2, h3, h4⟩
  · cases e
  injection e with e _ _
  injection e with e
  injection e with e
  subst e
  have hjl : j < m - i := by simp at hj; omega
  refine ⟨?_, by simp [World.frozen?, hb]⟩
  have h5 : (cur.toList.take (n * 1))[i + j]? = (encs (Value.int .i64) q)[i + j]? := by rw [h4]
  rw [List.getElem?_take_of_lt (by omega)] at h5
  simp only [World.cell?, hb]
  simp only [Option.isSome_none, Bool.false_eq_true, if_false]
  rw [← Array.getElem?_toList, h5]
  have hq : i + j < q.length := by omega
  have e1 : ((q.drop i).take (m - i)).toArray[j]! = q[i + j] := by
    rw [getElem!_pos _ j hj]
    simp
  rw [e1]
  simp [encs, hq]
/-- .. and it is written there. -/
theorem impl_turned.put {w : World} {base g n cap i m k : Nat} {q zs : List Int} (ho : w.ownsRow base 3 1 (.slice (some ⟨g, 0, none⟩) n cap) n (encs (Value.int .i64) q)) (hn : q.length = n) (him : i ≤ m) (hm : m ≤ n) (hz : zs.length = m - i) :
    (putRow (Value.int .i64) (Sort.ahead w k) g i zs.toArray).ownsRow base 3 1 (.slice (some ⟨g, 0, none⟩) n cap) n (encs (Value.int .i64) (q.take i ++ zs ++ q.drop m)) ∧ w.grownBy (putRow (Value.int .i64) (Sort.ahead w k) g i zs.toArray) (some g) := by
  rcases ho.2 with ⟨e, _⟩ | ⟨g', cap', cur, e, hg, hb, h1, h2, h3, h4⟩
  · cases e
  injection e with e e0 e1
  injection e with e
  injection e with e
  subst e
  subst e1
  have hb2 : (putRow (Value.int .i64) (Sort.ahead w k) g i zs.toArray).heap[g]? = some (.cells (putCells (Value.int .i64) i zs.toArray cur) 3 (0, 0)) := by
    simp [putRow, mapBlock, Sort.ahead, Array.getElem?_modify, hb, onCells]
  refine ⟨⟨?_, .inr ⟨g, cap, _, rfl, hg, hb2, h1, h2, by simp [putCells, h3], ?_⟩⟩, rfl, rfl, rfl, by simp [putRow, mapBlock, Sort.ahead], fun k' hk hne => ?_⟩
  · simp [encs]; omega
  · have hs : n ≤ cur.size := by omega
    apply List.ext_getElem?
    intro j
    by_cases hj : j < n
    · rw [List.getElem?_take_of_lt (by omega), Array.getElem?_toList]
      have h5 : (cur.toList.take (n * 1))[j]? = (encs (Value.int .i64) q)[j]? := by rw [h4]
      rw [List.getElem?_take_of_lt (by omega), Array.getElem?_toList] at h5
      have hjs : j < cur.size := by omega
      have hjq : j < q.length := by omega
      have e6 : (putCells (Value.int .i64) i zs.toArray cur)[j]? = some (if i ≤ j ∧ j < i + zs.length then Value.int .i64 zs.toArray[j - i]! else cur[j]) := by
        simp [putCells, hjs]
      rw [e6]
      have e7 : cur[j] = Value.int .i64 q[j] := by
        rw [Array.getElem?_eq_getElem hjs] at h5
        simp [encs, hjq] at h5
        exact h5
      have ht : (q.take i).length = i := by simp; omega
      simp only [encs, List.getElem?_map]
      by_cases c1 : j < i
      · rw [if_neg (by omega), e7, List.append_assoc, List.getElem?_append_left (by omega), List.getElem?_take_of_lt c1, List.getElem?_eq_getElem hjq]
        rfl
      · by_cases c2 : j < i + zs.length
        · have hz2 : j - i < zs.length := by omega
          rw [if_pos ⟨by omega, c2⟩, List.append_assoc, List.getElem?_append_right (by omega), ht, List.getElem?_append_left hz2, List.getElem?_eq_getElem hz2]
          simp [hz2]
        · rw [if_neg (by omega), e7, List.append_assoc, List.getElem?_append_right (by omega), ht, List.getElem?_append_right (by omega), List.getElem?_drop, show m + (j - i - zs.length) = j from by omega, List.getElem?_eq_getElem hjq]
          rfl
    · rw [List.getElem?_take_eq_none (by omega), List.getElem?_eq_none]
      simp [encs]; omega
  · have : g ≠ k' := fun e => hne (by rw [e])
    simp [putRow, mapBlock, Sort.ahead, Array.getElem?_modify, this]
/-- An own row that is not empty. -/
theorem impl_turned.form {w : World} {base n : Nat} {v : Value} {xs : List Value} (ho : w.ownsRow base 3 1 v n xs) (hn : 0 < n) : ∃ g cap, v = .slice (some ⟨g, 0, none⟩) n cap ∧ base ≤ g ∧ n ≤ cap := by
  rcases ho.2 with ⟨_, e⟩ | ⟨g, cap, cur, e, hg, hb, h1, h2, h3, h4⟩
  · omega
  · exact ⟨g, cap, e, hg, h1⟩
end
set_option maxHeartbeats 4000000 in
set_option maxRecDepth 100000 in
theorem impl_turned.calls (A0 : Option Addr) (c0 : Nat) (l0 : List Int) (a1 a2 : Int) (r : List Int) (w : World) (hr0 : Kd.C (Kd.int .i64) w A0 l0.length l0) (hc0 : l0.length ≤ c0) (h : impl_turned.f l0 a1 a2 = some r) :
    Calls Try.prog 43 #[.slice A0 l0.length c0, .int .i64 a1, .int .i64 a2] w fun e w' => ∃ v0_ : Value, e = .returned (v0_) ∧ Kd.R (Kd.int .i64) 3 w' w.heap.size (fun _ => True) v0_ r ∧ Below w.heap.size w w' := by
  unfold impl_turned.f at h
  replace h := Option.bind_eq_some_iff.mp h
  obtain ⟨q, hq, h⟩ := h
  by_cases d0 : 0 ≤ a1
  · rw [if_pos d0] at h
    by_cases d1 : a1 < wrap64 (a2 + 1)
    · rw [if_pos d1] at h
      by_cases d2 : wrap64 (a2 + 1) ≤ (q.length : Int)
      · rw [if_pos d2] at h
        obtain rfl := Option.some.inj h
        obtain ⟨i, rfl⟩ : ∃ i : Nat, a1 = i := ⟨a1.toNat, by omega⟩
        obtain ⟨m, hm⟩ : ∃ m : Nat, wrap64 (a2 + 1) = (m : Int) := ⟨(wrap64 (a2 + 1)).toNat, by omega⟩
        rw [hm] at d1 d2
        simp only [hm, Int.toNat_natCast]
        have HQ := Aside0.mk hq
        have HR := Aside0.mk hr0
        have HC := Aside0.mk hc0
        have D1 := Aside0.mk (show i < m by omega)
        have D2 := Aside0.mk (show m ≤ q.length by omega)
        clear hq hr0 hc0 h d0 d1 d2
        go_enter Try.func43, Try.ntmps43
        go_wp2_with (first
          | ((with_reducible refine gate_callee (f := 33) rfl ?_); refine goC (N := some 9) Try.func33 #[.slice A0 l0.length c0] rfl ?_; refine (slices_Clone_int_int.calls A0 c0 l0 q _ HR.out HC.out HQ.out).mono ?_; rintro e w1 ⟨v, rfl, ho, hb⟩; refine ⟨_, rfl, ?_⟩; have HO := Aside0.mk (Kd.own_of_R ho); have HB := Aside0.mk hb; clear ho hb; obtain ⟨g, cap, ev, hgb, hcap⟩ := impl_turned.form HO.out (Nat.lt_of_lt_of_le (Nat.zero_lt_of_lt D1.out) D2.out); subst ev; have HG := Aside0.mk hgb; have HK := Aside0.mk hcap; clear hgb hcap; have e0 : (0 ≤ (i : Int)) = True := eq_true (by omega); have e1 : ((i : Int) ≤ (m : Int)) = True := eq_true (by have := D1.out; omega); have e2 : ((m : Int) ≤ (cap : Int)) = True := eq_true (by have := D2.out; have := HK.out; omega); have e3 : (cap = i) = False := eq_false (by have := D1.out; have := D2.out; have := HK.out; omega))
          | ((with_reducible refine gate_callee (f := 55) rfl ?_); refine goC (N := some 15) Try.func55 #[.slice (some ⟨g, i, none⟩) (m - i) (cap - i)] rfl ?_; have cR := Any.slices_Reverse_int impl_turned.rv g i (cap - i) ((q.drop i).take (m - i)) _ (impl_turned.cut HO.out rfl (Nat.le_of_lt D1.out) D2.out) (by simp; have := (Kd.R_of_own (h1 := fun _ => rfl) (ok := fun _ => True) HO.out (fun _ _ => trivial)); have := (Kd.R_reads' this).2.2.2.1; omega); rw [show ((q.drop i).take (m - i)).length = m - i from by (have := D2.out; simp; omega)] at cR; refine cR.mono ?_; clear cR; rintro e w2 ⟨rfl, nn, rfl⟩; refine ⟨_, rfl, ?_⟩; have HP := Aside0.mk (impl_turned.put (k := nn) (zs := ((q.drop i).take (m - i)).reverse) HO.out rfl (Nat.le_of_lt D1.out) D2.out (by (have := D2.out; simp; omega))))
        )
        go_ret
        refine ⟨_, rfl, ?_, HB.out.grown HP.out.2 HB.out.size (fun k e => by cases e; exact HG.out)⟩
        refine Kd.R_of_own (enc := Value.int .i64) (h1 := fun _ => rfl) ?_ (fun _ _ => trivial)
        have hl : (q.take i ++ ((q.drop i).take (m - i)).reverse ++ q.drop m).length = q.length := by (have := D1.out; have := D2.out; simp; omega)
        rw [hl]
        exact HP.out.1
      · rw [if_neg d2] at h; cases h
    · rw [if_neg d1] at h; cases h
  · rw [if_neg d0] at h; cases h

/-! ### impl_table_mended: function 30 -/
mutual
def impl_table_mended.l0 : Nat → List Int → List Int → Int → Int → Int → Option (List Int × Bool)
 | 0, _, _, _, _, _ => none
 | k + 1, x0, x1, x6, x14, x15 => if x15 < x14 then (impl_table_mended.l1 k x0 x1 x6 x15 x15 x14 x15) else (some (([] : List Int), false))
def impl_table_mended.l1 : Nat → List Int → List Int → Int → Int → Int → Int → Int → Option (List Int × Bool)
 | 0, _, _, _, _, _, _, _ => none
 | k + 1, x0, x1, x6, x7, x8, x14, x15 => if x8 < (x1.length : Int) then ((impl_turned.f x1 x7 x8).bind fun t256 => ((impl_table_strangers.f k x0 t256).bind fun t259 => (if t259 < x6 then (some (t256, true)) else (impl_table_mended.l1 k x0 x1 x6 x7 (wrap64 (x8 + 1)) x14 x15)))) else (impl_table_mended.l0 k x0 x1 x6 x14 (wrap64 (x15 + 1)))
end
def impl_table_mended.f (k : Nat) (l0 : List Int) (l1 : List Int) : Option (List Int × Bool) := (impl_table_strangers.f k l0 l1).bind fun t255 => (impl_table_mended.l0 k l0 l1 t255 (l1.length : Int) 0)
theorem impl_table_mended.mono_l : ∀ k, (∀ y0 y1 y2 y3 y4, LeO (impl_table_mended.l0 k y0 y1 y2 y3 y4) (impl_table_mended.l0 (k + 1) y0 y1 y2 y3 y4)) ∧ (∀ y0 y1 y2 y3 y4 y5 y6, LeO (impl_table_mended.l1 k y0 y1 y2 y3 y4 y5 y6) (impl_table_mended.l1 (k + 1) y0 y1 y2 y3 y4 y5 y6))
 | 0 => ⟨fun _ _ _ _ _ r h => by simp [impl_table_mended.l0] at h, fun _ _ _ _ _ _ _ r h => by simp [impl_table_mended.l1] at h⟩
 | k + 1 => by
  obtain ⟨ih0, ih1⟩ := impl_table_mended.mono_l k
  refine ⟨?_, ?_⟩
  ·intro y0 y1 y2 y3 y4
   unfold impl_table_mended.l0
   repeat' first
   | (with_reducible exact ih0 _ _ _ _ _)
   | (with_reducible exact ih1 _ _ _ _ _ _ _)
   | (with_reducible exact impl_table_strangers.mono _ _ _)
   | (with_reducible exact LeO.refl _)
   | (with_reducible exact LeO.none _)
   | (with_reducible refine LeO.ite ?_ ?_)
   | (with_reducible refine LeO.bind ?_ (fun _ => ?_))
   | exact ih0 _ _ _ _ _
   | exact ih1 _ _ _ _ _ _ _
   | exact impl_table_strangers.mono _ _ _
   | exact LeO.none _
   | refine LeO.ite ?_ ?_
   | refine LeO.bind ?_ (fun _ => ?_)
  ·intro y0 y1 y2 y3 y4 y5 y6
   unfold impl_table_mended.l1
   repeat' first
   | (with_reducible exact ih0 _ _ _ _ _)
   | (with_reducible exact ih1 _ _ _ _ _ _ _)
   | (with_reducible exact impl_table_strangers.mono _ _ _)
   | (with_reducible exact LeO.refl _)
   | (with_reducible exact LeO.none _)
   | (with_reducible refine LeO.ite ?_ ?_)
   | (with_reducible refine LeO.bind ?_ (fun _ => ?_))
   | exact ih0 _ _ _ _ _
   | exact ih1 _ _ _ _ _ _ _
   | exact impl_table_strangers.mono _ _ _
   | exact LeO.none _
   | refine LeO.ite ?_ ?_
   | refine LeO.bind ?_ (fun _ => ?_)
theorem impl_table_mended.mono : ∀ a0 a1 k, LeO (impl_table_mended.f k a0 a1) (impl_table_mended.f (k + 1) a0 a1) := by
 intro a0 a1 k
 obtain ⟨ih0, ih1⟩ := impl_table_mended.mono_l k
 unfold impl_table_mended.f
 repeat' first
   | (with_reducible exact ih0 _ _ _ _ _)
   | (with_reducible exact ih1 _ _ _ _ _ _ _)
   | (with_reducible exact impl_table_strangers.mono _ _ _)
   | (with_reducible exact LeO.refl _)
   | (with_reducible exact LeO.none _)
   | (with_reducible refine LeO.ite ?_ ?_)
   | (with_reducible refine LeO.bind ?_ (fun _ => ?_))
   | exact ih0 _ _ _ _ _
   | exact ih1 _ _ _ _ _ _ _
   | exact impl_table_strangers.mono _ _ _
   | exact LeO.none _
   | refine LeO.ite ?_ ?_
   | refine LeO.bind ?_ (fun _ => ?_)
set_option maxHeartbeats 8000000 in
set_option maxRecDepth 100000 in
theorem impl_table_mended.calls (k : Nat) (A0 : Option Addr) (c0 : Nat) (l0 : List Int) (A1 : Option Addr) (c1 : Nat) (l1 : List Int) (r1 : List Int) (r2 : Bool) (w : World) (hr0 : Kd.C (Kd.int .u16) w A0 l0.length l0) (hc0 : l0.length ≤ c0) (hr1 : Kd.C (Kd.int .i64) w A1 l1.length l1) (hc1 : l1.length ≤ c1) (h : impl_table_mended.f k l0 l1 = some (r1, r2)) :
  Calls Try.prog 30 #[.slice A0 l0.length c0, .slice A1 l1.length c1] w fun e w' => ∃ v0_ : Value, e = .returned (.tuple #[v0_, .bool r2]) ∧ Kd.R (Kd.int .i64) 3 w' w.heap.size (fun _ => True) v0_ r1 ∧ Below w.heap.size w w' := by
 have HR0 := Aside0.mk hr0
 have HC0 := Aside0.mk hc0
 clear hr0 hc0
 have HR1 := Aside0.mk hr1
 have HC1 := Aside0.mk hc1
 clear hr1 hc1
 have HB := Aside0.mk (Below.refl w.heap.size w)
 have H : ((impl_table_strangers.f k l0 l1).bind fun t255 => (impl_table_mended.l0 k l0 l1 t255 (l1.length : Int) 0)) = some (r1, r2) := h
 clear h
 replace H := Option.bind_eq_some_iff.mp H
 obtain ⟨t255, A30, H⟩ := H
 try dsimp only at H
 have A3 := Aside0.mk A30
 clear A30
 have H' := Aside0.mk H
 clear H
 go_enter Try.func30, Try.ntmps30
 go_wp2_with (first | ((with_reducible refine gate_callee (f := 27) rfl ?_); refine goC (N := some 12) Try.func27 #[.slice A0 l0.length c0, .slice A1 l1.length c1] rfl ?_; (with_reducible refine (impl_table_strangers.calls k _ _ l0 _ _ l1 t255 _ ?side1 ?side2 ?side3 ?side4 A3.out).mono ?_); (case side1 => exact cS HR0.out); (case side2 => exact HC0.out); (case side3 => exact cS HR1.out); (case side4 => exact HC1.out); rintro e w' ⟨rfl, ⟨nd, rfl⟩⟩; refine ⟨_, rfl, ?_⟩))
 go_loopg [15] k (fun kq v15 w' => ∃ (x15_1 : Int), v15 = .int .i64 x15_1 ∧ Aside0 (impl_table_mended.l0 kq l0 l1 t255 (l1.length : Int) x15_1 = some (r1, r2)) ∧ Aside0 (kq ≤ k) ∧ Aside0 (Below w.heap.size w w'))
 case atStart => exact ⟨(0), (by first | rfl | (simp; done) | (simp [*]; done)), H', ⟨Nat.le_refl _⟩, ⟨hB⟩⟩
 case round =>
  clear H'
  try clear c1
  try clear c2
  try clear p2
  try clear c3
  obtain ⟨x15_1, rfl, HA, HK1, HB⟩ := hrel
  cases gk with
  | zero => exact absurd HA.out (by simp [impl_table_mended.l0])
  | succ k1 =>
   have H := HA.out
   clear HA
   simp only [impl_table_mended.l0] at H
   by_cases c4 : x15_1 < (l1.length : Int)
   ·rw [if_pos c4] at H
    have c4b0 : decide (x15_1 < (l1.length : Int)) = true := decide_eq_true c4
    clear c4
    have H' := Aside0.mk H
    clear H
    go_wp2
    go_loopg [8] k1 (fun kq v8 w' => ∃ (x8_2 : Int), v8 = .int .i64 x8_2 ∧ Aside0 (impl_table_mended.l1 kq l0 l1 t255 x15_1 x8_2 (l1.length : Int) x15_1 = some (r1, r2)) ∧ Aside0 (kq ≤ k1) ∧ Aside0 (Below w.heap.size w w'))
    case atStart => exact ⟨(x15_1), (by first | rfl | (simp; done) | (simp [*]; done)), H', ⟨Nat.le_refl _⟩, ⟨hB⟩⟩
    case round =>
     clear H'
     try clear c1
     try clear c2
     try clear p2
     try clear c3
     try clear c4
     try clear c4b0
     try clear p2
     obtain ⟨x8_2, rfl, HA, HK2, HB⟩ := hrel
     cases gk with
     | zero => exact absurd HA.out (by simp [impl_table_mended.l1])
     | succ k2 =>
      have H := HA.out
      clear HA
      simp only [impl_table_mended.l1] at H
      by_cases c5 : x8_2 < (l1.length : Int)
      ·rw [if_pos c5] at H
       have c5b0 : decide (x8_2 < (l1.length : Int)) = true := decide_eq_true c5
       clear c5
       replace H := Option.bind_eq_some_iff.mp H
       obtain ⟨t256, A60, H⟩ := H
       try dsimp only at H
       have A6 := Aside0.mk A60
       clear A60
       replace H := Option.bind_eq_some_iff.mp H
       obtain ⟨t259, A70, H⟩ := H
       try dsimp only at H
       have A7 := Aside0.mk A70
       clear A70
       by_cases c8 : t259 < t255
       ·rw [if_pos c8] at H
        have c8b0 : decide (t259 < t255) = true := decide_eq_true c8
        clear c8
        simp only [Option.some.injEq, Prod.mk.injEq] at H
        obtain ⟨rfl, rfl⟩ := H
        go_wp2_with (first | ((with_reducible refine gate_callee (f := 43) rfl ?_); refine goC (N := some 28) Try.func43 #[.slice A1 l1.length c1, .int .i64 x15_1, .int .i64 x8_2] rfl ?_; (with_reducible refine (impl_turned.calls _ _ l1 x15_1 x8_2 t256 _ ?side1 ?side2 A6.out).mono ?_); (case side1 => exact cS (Kd.C_below HR1.out HB.out)); (case side2 => exact HC1.out); rintro e w9 ⟨v257, rfl, ho0, hb⟩; refine ⟨_, rfl, ?_⟩; have HO258 := Aside0.mk (Kd.R_lower ho0 (below_size hB)); replace HB := hS HB hb; (try clear hb); (try clear hb2); (try clear hk); (try clear hi); (try clear ho0); obtain ⟨Ao10, co10, eo10⟩ := Kd.R_slice HO258.out; subst eo10) | ((with_reducible refine gate_callee (f := 27) rfl ?_); refine goC (N := some 31) Try.func27 #[.slice A0 l0.length c0, .slice Ao10 t256.length co10] rfl ?_; (with_reducible refine (impl_table_strangers.calls k2 _ _ l0 _ _ t256 t259 _ ?side1 ?side2 ?side3 ?side4 A7.out).mono ?_); (case side1 => exact cS (Kd.C_below HR0.out HB.out)); (case side2 => exact HC0.out); (case side3 => exact cS (Kd.R_reads' HO258.out).2.2); (case side4 => exact (Kd.R_reads' HO258.out).2.1); rintro e w' ⟨rfl, ⟨nd, rfl⟩⟩; refine ⟨_, rfl, ?_⟩))
        go_ret2
        exact ⟨_, by first | rfl | (simp [errW_none, errW_some] <;> rfl) | (simp [*, errW_none, errW_some] <;> rfl), rU HO258, hB⟩
       ·rw [if_neg c8] at H
        have c8b0 : decide (t259 < t255) = false := decide_eq_false c8
        clear c8
        have H' := Aside0.mk H
        clear H
        go_wp2_with (first | ((with_reducible refine gate_callee (f := 43) rfl ?_); refine goC (N := some 28) Try.func43 #[.slice A1 l1.length c1, .int .i64 x15_1, .int .i64 x8_2] rfl ?_; (with_reducible refine (impl_turned.calls _ _ l1 x15_1 x8_2 t256 _ ?side1 ?side2 A6.out).mono ?_); (case side1 => exact cS (Kd.C_below HR1.out HB.out)); (case side2 => exact HC1.out); rintro e w11 ⟨v257, rfl, ho0, hb⟩; refine ⟨_, rfl, ?_⟩; have HO258 := Aside0.mk (Kd.R_lower ho0 (below_size hB)); replace HB := hS HB hb; (try clear hb); (try clear hb2); (try clear hk); (try clear hi); (try clear ho0); obtain ⟨Ao12, co12, eo12⟩ := Kd.R_slice HO258.out; subst eo12) | ((with_reducible refine gate_callee (f := 27) rfl ?_); refine goC (N := some 31) Try.func27 #[.slice A0 l0.length c0, .slice Ao12 t256.length co12] rfl ?_; (with_reducible refine (impl_table_strangers.calls k2 _ _ l0 _ _ t256 t259 _ ?side1 ?side2 ?side3 ?side4 A7.out).mono ?_); (case side1 => exact cS (Kd.C_below HR0.out HB.out)); (case side2 => exact HC0.out); (case side3 => exact cS (Kd.R_reads' HO258.out).2.2); (case side4 => exact (Kd.R_reads' HO258.out).2.1); rintro e w' ⟨rfl, ⟨nd, rfl⟩⟩; refine ⟨_, rfl, ?_⟩))
        go_roundg k2
        case measure => have := HK1.out; have := HK2.out; omega
        case rel => exact ⟨(wrap64 (x8_2 + 1)), (by first | rfl | (simp; done) | (simp [*]; done)), H', ⟨by have := HK1.out; have := HK2.out; omega⟩, ⟨hB⟩⟩
      ·rw [if_neg c5] at H
       have c5b0 : decide (x8_2 < (l1.length : Int)) = false := decide_eq_false c5
       clear c5
       have H' := Aside0.mk H
       clear H
       go_wp2
       go_roundg k2
       case measure => have := HK1.out; have := HK2.out; omega
       case rel => exact ⟨(wrap64 (x15_1 + 1)), (by first | rfl | (simp; done) | (simp [*]; done)), H', ⟨by have := HK1.out; have := HK2.out; omega⟩, ⟨hB⟩⟩
   ·rw [if_neg c4] at H
    have c4b0 : decide (x15_1 < (l1.length : Int)) = false := decide_eq_false c4
    clear c4
    simp only [Option.some.injEq, Prod.mk.injEq] at H
    obtain ⟨rfl, rfl⟩ := H
    go_wp2
    go_ret2
    exact ⟨_, by first | rfl | (simp [errW_none, errW_some] <;> rfl) | (simp [*, errW_none, errW_some] <;> rfl), by first | exact Kd.R_nil _ _ _ _ _ | exact Kd.N_nil _ _ _ _ _ | exact Kd.V_nil _ _ _ _ _ | exact Kd.Q_nil _ _ _ _ _ | exact Kd.S_nil _ _ _ _ _, hB⟩

/-! ### impl_MendAll: function 19 -/
def impl_MendAll.l0 : Nat → List Int → List Int → Int → Option (List Int × Int × Bool)
 | 0, _, _, _ => none
 | k + 1, x7, x8, x9 => (impl_table_mended.f k x7 x8).bind fun bt268 => (if bt268.2 = true then (impl_MendAll.l0 k x7 bt268.1 (wrap64 (x9 + 1))) else (some (x8, x9, true)))
def impl_MendAll.f (k : Nat) (a0_0 : Int) (l0_1 : List (S62)) (l1 : List Int) : Option (List Int × Int × Bool) := (impl_areSeats.f k a0_0 l0_1 l1 3).bind fun t261 => (if t261 = true then ((impl_Party_table.f k a0_0 l0_1).bind fun t262 => ((slices_Clone_int_int.f l1).bind fun t265 => (impl_MendAll.l0 k t262 t265 0))) else (some (([] : List Int), 0, false)))
theorem impl_MendAll.mono_l : ∀ k, (∀ y0 y1 y2, LeO (impl_MendAll.l0 k y0 y1 y2) (impl_MendAll.l0 (k + 1) y0 y1 y2))
 | 0 => fun _ _ _ r h => by simp [impl_MendAll.l0] at h
 | k + 1 => by
  have ih0 := impl_MendAll.mono_l k
  ·intro y0 y1 y2
   unfold impl_MendAll.l0
   repeat' first
   | (with_reducible exact ih0 _ _ _)
   | (with_reducible exact impl_Party_table.mono _ _ _)
   | (with_reducible exact impl_areSeats.mono _ _ _ _ _)
   | (with_reducible exact impl_table_mended.mono _ _ _)
   | (with_reducible exact LeO.refl _)
   | (with_reducible exact LeO.none _)
   | (with_reducible refine LeO.ite ?_ ?_)
   | (with_reducible refine LeO.bind ?_ (fun _ => ?_))
   | exact ih0 _ _ _
   | exact impl_Party_table.mono _ _ _
   | exact impl_areSeats.mono _ _ _ _ _
   | exact impl_table_mended.mono _ _ _
   | exact LeO.none _
   | refine LeO.ite ?_ ?_
   | refine LeO.bind ?_ (fun _ => ?_)
theorem impl_MendAll.mono : ∀ a0 a1 a2 k, LeO (impl_MendAll.f k a0 a1 a2) (impl_MendAll.f (k + 1) a0 a1 a2) := by
 intro a0 a1 a2 k
 have ih0 := impl_MendAll.mono_l k
 unfold impl_MendAll.f
 repeat' first
   | (with_reducible exact ih0 _ _ _)
   | (with_reducible exact impl_Party_table.mono _ _ _)
   | (with_reducible exact impl_areSeats.mono _ _ _ _ _)
   | (with_reducible exact impl_table_mended.mono _ _ _)
   | (with_reducible exact LeO.refl _)
   | (with_reducible exact LeO.none _)
   | (with_reducible refine LeO.ite ?_ ?_)
   | (with_reducible refine LeO.bind ?_ (fun _ => ?_))
   | exact ih0 _ _ _
   | exact impl_Party_table.mono _ _ _
   | exact impl_areSeats.mono _ _ _ _ _
   | exact impl_table_mended.mono _ _ _
   | exact LeO.none _
   | refine LeO.ite ?_ ?_
   | refine LeO.bind ?_ (fun _ => ?_)
set_option maxHeartbeats 8000000 in
set_option maxRecDepth 100000 in
theorem impl_MendAll.calls (k : Nat) (a0_0 : Int) (A0_1 : Option Addr) (c0_1 : Nat) (l0_1 : List (S62)) (A1 : Option Addr) (c1 : Nat) (l1 : List Int) (r1 : List Int) (r2 : Int) (r3 : Bool) (w : World) (hr0_1 : Kd.C k62 w A0_1 l0_1.length l0_1) (hc0_1 : l0_1.length ≤ c0_1) (hr1 : Kd.C (Kd.int .i64) w A1 l1.length l1) (hc1 : l1.length ≤ c1) (h : impl_MendAll.f k a0_0 l0_1 l1 = some (r1, r2, r3)) :
  Calls Try.prog 19 #[.agg #[.int .i64 a0_0, .slice A0_1 l0_1.length c0_1], .slice A1 l1.length c1] w fun e w' => ∃ v0_ : Value, e = .returned (.tuple #[v0_, .int .i64 r2, .bool r3]) ∧ Kd.R (Kd.int .i64) 3 w' w.heap.size (fun _ => True) v0_ r1 ∧ Below w.heap.size w w' := by
 have hu31 := Try.underlying31
 have HR0_1 := Aside0.mk hr0_1
 have HC0_1 := Aside0.mk hc0_1
 clear hr0_1 hc0_1
 have HR1 := Aside0.mk hr1
 have HC1 := Aside0.mk hc1
 clear hr1 hc1
 have HB := Aside0.mk (Below.refl w.heap.size w)
 have H : ((impl_areSeats.f k a0_0 l0_1 l1 3).bind fun t261 => (if t261 = true then ((impl_Party_table.f k a0_0 l0_1).bind fun t262 => ((slices_Clone_int_int.f l1).bind fun t265 => (impl_MendAll.l0 k t262 t265 0))) else (some (([] : List Int), 0, false)))) = some (r1, r2, r3) := h
 clear h
 replace H := Option.bind_eq_some_iff.mp H
 obtain ⟨t261, A30, H⟩ := H
 try dsimp only at H
 have A3 := Aside0.mk A30
 clear A30
 by_cases c4 : t261 = true
 ·subst c4
  rw [if_pos rfl] at H
  replace H := Option.bind_eq_some_iff.mp H
  obtain ⟨t262, A50, H⟩ := H
  try dsimp only at H
  have A5 := Aside0.mk A50
  clear A50
  replace H := Option.bind_eq_some_iff.mp H
  obtain ⟨t265, A60, H⟩ := H
  try dsimp only at H
  have A6 := Aside0.mk A60
  clear A60
  have H' := Aside0.mk H
  clear H
  go_enter Try.func19, Try.ntmps19
  go_wp2_with (first | ((with_reducible refine gate_dst (N := 2) rfl ?_); refine bxE 2 #[.int .i64 a0_0, .slice A0_1 l0_1.length c0_1] 31 rfl ?_; intro gb260 hg w7 hbox hb; have BK260 := Aside0.mk (hbox); have GW260 := gS HB hg; have GE260 := gS HB hg; replace HB := hS HB hb; clear hb hbox hg; have hcz8_0 := cz BK260 0; have hcz8_1 := cz BK260 1; have hfz8_0 := fz BK260 0; have hfz8_1 := fz BK260 1) | ((with_reducible refine gate_callee (f := 25) rfl ?_); refine goC (N := some 14) Try.func25 #[.agg #[.int .i64 a0_0, .slice A0_1 l0_1.length c0_1], .slice A1 l1.length c1, .int .i64 3] rfl ?_; (with_reducible refine (impl_areSeats.calls k a0_0 _ _ l0_1 _ _ l1 3 true _ ?side1 ?side2 ?side3 ?side4 A3.out).mono ?_); (case side1 => exact cS (Kd.C_below HR0_1.out HB.out)); (case side2 => exact HC0_1.out); (case side3 => exact cS (Kd.C_below HR1.out HB.out)); (case side4 => exact HC1.out); rintro e w9 ⟨rfl, hb⟩; refine ⟨_, rfl, ?_⟩; replace BK260 := bS BK260 hb; replace HB := hS HB hb; (try clear hb); (try clear hb2); (try clear hk); (try clear hi); have hcz10_0 := cz BK260 0; have hcz10_1 := cz BK260 1; have hfz10_0 := fz BK260 0; have hfz10_1 := fz BK260 1) | ((with_reducible refine gate_callee (f := 26) rfl ?_); refine goC (N := some 17) Try.func26 #[.agg #[.int .i64 a0_0, .slice A0_1 l0_1.length c0_1]] rfl ?_; (with_reducible refine (impl_Party_table.calls k a0_0 _ _ l0_1 t262 _ ?side1 ?side2 A5.out).mono ?_); (case side1 => exact cS (Kd.C_below HR0_1.out HB.out)); (case side2 => exact HC0_1.out); rintro e w11 ⟨v263, rfl, ho0, hb⟩; refine ⟨_, rfl, ?_⟩; have HO264 := Aside0.mk (Kd.R_lower ho0 (below_size hB)); replace BK260 := bS BK260 hb; replace HB := hS HB hb; (try clear hb); (try clear hb2); (try clear hk); (try clear hi); (try clear ho0)) | ((with_reducible refine gate_callee (f := 33) rfl ?_); refine goC (N := some 19) Try.func33 #[.slice A1 l1.length c1] rfl ?_; (with_reducible refine (slices_Clone_int_int.calls _ _ l1 t265 _ ?side1 ?side2 A6.out).mono ?_); (case side1 => exact cS (Kd.C_below HR1.out HB.out)); (case side2 => exact HC1.out); rintro e w12 ⟨v266, rfl, ho0, hb⟩; refine ⟨_, rfl, ?_⟩; have HO267 := Aside0.mk (Kd.R_lower ho0 (below_size hB)); replace HO264 := Aside0.mk (Kd.R_below (rU HO264) hb); replace BK260 := bS BK260 hb; replace HB := hS HB hb; (try clear hb); (try clear hb2); (try clear hk); (try clear hi); (try clear ho0)))
  go_loopg [8, 9] k (fun kq v8 v9 w' => ∃ (x8_1 : List Int) (x9_1 : Int), v9 = .int .i64 x9_1 ∧ Aside0 (impl_MendAll.l0 kq t262 x8_1 x9_1 = some (r1, r2, r3)) ∧ Aside0 (kq ≤ k) ∧ Aside0 (Kd.R (Kd.int .u16) 66 w' w.heap.size (fun _ => True) v263 t262) ∧ Aside0 (Kd.R (Kd.int .i64) 3 w' w.heap.size (fun _ => True) v8 x8_1) ∧ Aside0 (w'.heap[gb260]? = some (.cells #[.int .i64 a0_0, (.slice A0_1 l0_1.length c0_1)] 31 (0, 0))) ∧ Aside0 (Below w.heap.size w w'))
  case atStart => exact ⟨(t265), (0), (by first | rfl | (simp; done) | (simp [*]; done)), H', ⟨Nat.le_refl _⟩, ⟨rU HO264⟩, ⟨rU HO267⟩, ⟨bK⟩, ⟨hB⟩⟩
  case round =>
   clear H'
   try clear c1
   try clear c2
   try clear p2
   try clear c3
   try clear c4
   try clear hcz10_0
   try clear hcz10_1
   try clear hcz8_0
   try clear hcz8_1
   try clear hfz10_0
   try clear hfz10_1
   try clear hfz8_0
   try clear hfz8_1
   obtain ⟨x8_1, x9_1, rfl, HA, HK1, HO_7, HO_8, BK260, HB⟩ := hrel
   cases gk with
   | zero => exact absurd HA.out (by simp [impl_MendAll.l0])
   | succ k1 =>
    have H := HA.out
    clear HA
    simp only [impl_MendAll.l0] at H
    replace H := Option.bind_eq_some_iff.mp H
    obtain ⟨⟨t268, t269⟩, A130, H⟩ := H
    try dsimp only at H
    have A13 := Aside0.mk A130
    clear A130
    by_cases c14 : t269 = true
    ·subst c14
     rw [if_pos rfl] at H
     have H' := Aside0.mk H
     clear H
     obtain ⟨Ao15, co15, eo15⟩ := Kd.R_slice HO_7.out
     subst eo15
     obtain ⟨Ao16, co16, eo16⟩ := Kd.R_slice HO_8.out
     subst eo16
     go_wp2_with (first | ((with_reducible refine gate_callee (f := 30) rfl ?_); refine goC (N := some 23) Try.func30 #[.slice Ao15 t262.length co15, .slice Ao16 x8_1.length co16] rfl ?_; (with_reducible refine (impl_table_mended.calls k1 _ _ t262 _ _ x8_1 t268 true _ ?side1 ?side2 ?side3 ?side4 A13.out).mono ?_); (case side1 => exact cS (Kd.R_reads' HO_7.out).2.2); (case side2 => exact (Kd.R_reads' HO_7.out).2.1); (case side3 => exact cS (Kd.R_reads' HO_8.out).2.2); (case side4 => exact (Kd.R_reads' HO_8.out).2.1); rintro e w17 ⟨v270, rfl, ho0, hb⟩; refine ⟨_, rfl, ?_⟩; have HO271 := Aside0.mk (Kd.R_lower (Kd.R_new' ho0 (Kd.R_lt (rU HO_8))) (below_size hB)); replace HO_7 := Aside0.mk (Kd.R_below (rU HO_7) hb); replace HO_8 := Aside0.mk (Kd.R_elder' (rU HO_8) (Kd.R_base ho0) hb); replace BK260 := bS BK260 hb; replace HB := hS HB hb; (try clear hb); (try clear hb2); (try clear hk); (try clear hi); (try clear ho0)))
     go_roundg k1
     case measure => have := HK1.out; omega
     case rel => exact ⟨(t268), (wrap64 (x9_1 + 1)), (by first | rfl | (simp; done) | (simp [*]; done)), H', ⟨by have := HK1.out; omega⟩, ⟨rU HO_7⟩, ⟨by (with_reducible repeat (first | apply Kd.R_alloc | apply Kd.R_drewN | apply Kd.R_drew)); exact Kd.R_mono HO271.out (fun _ hk => trivial)⟩, ⟨bK⟩, ⟨hB⟩⟩
    ·replace c14 := Bool.eq_false_iff.mpr c14
     subst c14
     rw [if_neg (show ¬ (false = true) by decide)] at H
     simp only [Option.some.injEq, Prod.mk.injEq] at H
     obtain ⟨rfl, rfl, rfl⟩ := H
     obtain ⟨Ao18, co18, eo18⟩ := Kd.R_slice HO_7.out
     subst eo18
     obtain ⟨Ao19, co19, eo19⟩ := Kd.R_slice HO_8.out
     subst eo19
     go_wp2_with (first | ((with_reducible refine gate_callee (f := 30) rfl ?_); refine goC (N := some 23) Try.func30 #[.slice Ao18 t262.length co18, .slice Ao19 x8_1.length co19] rfl ?_; (with_reducible refine (impl_table_mended.calls k1 _ _ t262 _ _ x8_1 t268 false _ ?side1 ?side2 ?side3 ?side4 A13.out).mono ?_); (case side1 => exact cS (Kd.R_reads' HO_7.out).2.2); (case side2 => exact (Kd.R_reads' HO_7.out).2.1); (case side3 => exact cS (Kd.R_reads' HO_8.out).2.2); (case side4 => exact (Kd.R_reads' HO_8.out).2.1); rintro e w20 ⟨v270, rfl, ho0, hb⟩; refine ⟨_, rfl, ?_⟩; have HO271 := Aside0.mk (Kd.R_lower (Kd.R_new' ho0 (Kd.R_lt (rU HO_8))) (below_size hB)); replace HO_7 := Aside0.mk (Kd.R_below (rU HO_7) hb); replace HO_8 := Aside0.mk (Kd.R_elder' (rU HO_8) (Kd.R_base ho0) hb); replace BK260 := bS BK260 hb; replace HB := hS HB hb; (try clear hb); (try clear hb2); (try clear hk); (try clear hi); (try clear ho0)))
     go_ret3
     exact ⟨_, by first | rfl | (simp [errW_none, errW_some] <;> rfl) | (simp [*, errW_none, errW_some] <;> rfl), by (with_reducible repeat (first | apply Kd.R_alloc | apply Kd.R_drewN | apply Kd.R_drew)); exact Kd.R_mono HO_8.out (fun _ hk => trivial), hB⟩
 ·replace c4 := Bool.eq_false_iff.mpr c4
  subst c4
  rw [if_neg (show ¬ (false = true) by decide)] at H
  simp only [Option.some.injEq, Prod.mk.injEq] at H
  obtain ⟨rfl, rfl, rfl⟩ := H
  go_enter Try.func19, Try.ntmps19
  go_wp2_with (first | ((with_reducible refine gate_dst (N := 2) rfl ?_); refine bxE 2 #[.int .i64 a0_0, .slice A0_1 l0_1.length c0_1] 31 rfl ?_; intro gb260 hg w21 hbox hb; have BK260 := Aside0.mk (hbox); have GW260 := gS HB hg; have GE260 := gS HB hg; replace HB := hS HB hb; clear hb hbox hg; have hcz22_0 := cz BK260 0; have hcz22_1 := cz BK260 1; have hfz22_0 := fz BK260 0; have hfz22_1 := fz BK260 1) | ((with_reducible refine gate_callee (f := 25) rfl ?_); refine goC (N := some 14) Try.func25 #[.agg #[.int .i64 a0_0, .slice A0_1 l0_1.length c0_1], .slice A1 l1.length c1, .int .i64 3] rfl ?_; (with_reducible refine (impl_areSeats.calls k a0_0 _ _ l0_1 _ _ l1 3 false _ ?side1 ?side2 ?side3 ?side4 A3.out).mono ?_); (case side1 => exact cS (Kd.C_below HR0_1.out HB.out)); (case side2 => exact HC0_1.out); (case side3 => exact cS (Kd.C_below HR1.out HB.out)); (case side4 => exact HC1.out); rintro e w23 ⟨rfl, hb⟩; refine ⟨_, rfl, ?_⟩; replace BK260 := bS BK260 hb; replace HB := hS HB hb; (try clear hb); (try clear hb2); (try clear hk); (try clear hi)))
  go_ret3
  exact ⟨_, by first | rfl | (simp [errW_none, errW_some] <;> rfl) | (simp [*, errW_none, errW_some] <;> rfl), by first | exact Kd.R_nil _ _ _ _ _ | exact Kd.N_nil _ _ _ _ _ | exact Kd.V_nil _ _ _ _ _ | exact Kd.Q_nil _ _ _ _ _ | exact Kd.S_nil _ _ _ _ _, hB⟩

end Go.Proofs.Ytjpfbkkikcpmhaa.PFnExactMendAll
