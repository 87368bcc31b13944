-- Of this session's own program wip/gen/gen.py (it drives the kit's print): contracts of the functions that the law reaches.
import Derived.Test.YtjpfbkkikcpmhaaDoorPFnExactAllApartx0
import Derived.Test.YtjpfbkkikcpmhaaDoorPFnExactAllApartx4
namespace Go.Proofs.YtjpfbkkikcpmhaaDoor.PFnExactAllApart
open Go.RowKit Go.Proofs.YtjpfbkkikcpmhaaDoorW.PrintWords Go.Proofs.YtjpfbkkikcpmhaaDoorW.PrintLast Go.Proofs.YtjpfbkkikcpmhaaDoorW.PrintMore Go.Proofs.YtjpfbkkikcpmhaaDoor.Base
attribute [local go_sem] max2_int min2_int max_two min_two max_three min_three max_four min_four   -- for this text's walks alone
set_option linter.unusedVariables false
set_option linter.unusedSimpArgs false

/-! ### spec_grGroups: function 99 (a text of this session's own) -/
def spec_grGroups.f (k : Nat) (l0 : List (List Bool)) : Option (List (List Int)) := spec_grLook.f k l0 [] 0 []
theorem spec_grGroups.mono : ∀ a0 k, LeO (spec_grGroups.f k a0) (spec_grGroups.f (k + 1) a0) := fun a0 k => (spec_grLook.mono_l k).2 a0 [] 0 []
set_option maxHeartbeats 4000000 in
set_option maxRecDepth 100000 in
theorem spec_grGroups.calls (k : Nat) (A0 : Option Addr) (c0 : Nat) (l0 : List (List Bool)) (r : List (List Int)) (w : World) (hr0 : Kd.C (Kd.slice 4 Kd.bool) w A0 l0.length l0) (hc0 : l0.length ≤ c0) (h : spec_grGroups.f k l0 = some r) :
    Calls Tryd.prog 99 #[.slice A0 l0.length c0] w fun e w' => ∃ v0_ : Value, e = .returned (v0_) ∧ Kd.N (Kd.slice 3 (Kd.int .i64)) 75 w' w.heap.size (fun k_ => w.heap.size ≤ k_) v0_ r ∧ Below w.heap.size w w' := by
  have hF : Kd.F (Kd.slice 4 Kd.bool) w (fun k => k < w.heap.size) A0 l0.length l0 := Kd.C_F (Kd.heap_slice _ Kd.heap_bool) hr0
  have HF := Aside0.mk hF
  have HH := Aside0.mk h
  clear hr0 h hF
  go_enter Tryd.func99, Tryd.ntmps99
  go_wp2_with (first
    | ((with_reducible refine gate_dst (N := 3) rfl ?_); refine box_event ?hg (N := 3) ?hd (cs := #[.slice none 0 0]) (t := 58) ?hr ?_; (case hd => rfl); (case hg => rfl); (case hr => first | (go_simp; done) | (go_simp; rfl)); intro gb hg w3 hbox hb; have HB := Aside0.mk hb; have BK := Aside0.mk hbox; have HG := Aside0.mk hg; clear hb hbox hg)
    | (go_at_call 131; refine (spec_grLook.calls k A0 c0 l0 none 0 [] 0 gb (.slice none 0 0) [] r _ w.heap.size (Kd.F_mono (Kd.F_below HF.out HB.out) (fun k_ hk => ⟨by have := HG.out; omega, by simp [Value.ownBlock]⟩)) hc0 (Kd.F_nil _ _ _) (Nat.le_refl _) ⟨BK.out, Kd.N_nil _ _ _ _ _, Below.refl _ _, fun _ _ _ => rfl, .inl rfl⟩ (by have := HG.out; omega) HB.out.size HH.out).mono ?_; rintro e w4 ⟨rfl, v4, s4⟩; have S4 := Aside0.mk s4; clear s4; obtain ⟨A4, c4, rfl⟩ := Kd.N_slice S4.out.row; have hs4 : w4.cell? ⟨gb, 0, none⟩ = some (.slice A4 r.length c4) := (blk_cell S4.out.box 0).trans rfl))
  go_ret
  exact ⟨_, rfl, Kd.N_mono S4.out.row (fun _ hk => hk.2), HB.out.trans S4.out.below⟩

/-! ### spec_l1Has: function 144 -/
def spec_l1Has.l0 : Nat → Int → List Int → Int → Int → Option (Bool)
 | 0, _, _, _, _ => none
 | k + 1, x1, x7, x8, x9 => if x9 < x8 then (if 0 ≤ x9 then (if x9 < (x7.length : Int) then (if (rd x7 x9) = x1 then (some true) else (spec_l1Has.l0 k x1 x7 x8 (wrap64 (x9 + 1)))) else (none)) else (none)) else (some false)
def spec_l1Has.f (k : Nat) (l0 : List Int) (a1 : Int) : Option (Bool) := spec_l1Has.l0 k a1 l0 (l0.length : Int) 0
theorem spec_l1Has.mono_l : ∀ k, (∀ y0 y1 y2 y3, LeO (spec_l1Has.l0 k y0 y1 y2 y3) (spec_l1Has.l0 (k + 1) y0 y1 y2 y3))
 | 0 => fun _ _ _ _ r h => by simp [spec_l1Has.l0] at h
 | k + 1 => by
  have ih0 := spec_l1Has.mono_l k
  ·intro y0 y1 y2 y3
   unfold spec_l1Has.l0
   repeat' first
   | (with_reducible exact ih0 _ _ _ _)
   | (with_reducible exact LeO.refl _)
   | (with_reducible exact LeO.none _)
   | (with_reducible refine LeO.ite ?_ ?_)
   | (with_reducible refine LeO.bind ?_ (fun _ => ?_))
   | exact ih0 _ _ _ _
   | exact LeO.none _
   | refine LeO.ite ?_ ?_
   | refine LeO.bind ?_ (fun _ => ?_)
theorem spec_l1Has.mono : ∀ a0 a1 k, LeO (spec_l1Has.f k a0 a1) (spec_l1Has.f (k + 1) a0 a1) := by
 intro a0 a1 k
 have ih0 := spec_l1Has.mono_l k
 unfold spec_l1Has.f
 repeat' first
   | (with_reducible exact ih0 _ _ _ _)
   | (with_reducible exact LeO.refl _)
   | (with_reducible exact LeO.none _)
   | (with_reducible refine LeO.ite ?_ ?_)
   | (with_reducible refine LeO.bind ?_ (fun _ => ?_))
   | exact ih0 _ _ _ _
   | exact LeO.none _
   | refine LeO.ite ?_ ?_
   | refine LeO.bind ?_ (fun _ => ?_)
set_option maxHeartbeats 8000000 in
set_option maxRecDepth 100000 in
theorem spec_l1Has.calls (k : Nat) (A0 : Option Addr) (c0 : Nat) (l0 : List Int) (a1 : Int) (r : Bool) (w : World) (hr0 : Kd.C (Kd.int .i64) w A0 l0.length l0) (hc0 : l0.length ≤ c0) (h : spec_l1Has.f k l0 a1 = some r) :
  Calls Tryd.prog 144 #[.slice A0 l0.length c0, .int .i64 a1] w fun e w' => e = .returned (.bool r) ∧ Drawn0 w w' := by
 have HR0 := Aside0.mk hr0
 have HC0 := Aside0.mk hc0
 clear hr0 hc0
 have H : (spec_l1Has.l0 k a1 l0 (l0.length : Int) 0) = some r := h
 clear h
 have H' := Aside0.mk H
 clear H
 go_enter Tryd.func144, Tryd.ntmps144
 go_wp2
 go_loopg [9] k (fun kq v9 w' => ∃ (x9_1 : Int), v9 = .int .i64 x9_1 ∧ Aside0 (spec_l1Has.l0 kq a1 l0 (l0.length : Int) x9_1 = some r) ∧ Aside0 (kq ≤ k) ∧ Drawn0 w w')
 case atStart => exact ⟨(0), (by first | rfl | (simp; done) | (simp [*]; done)), H', ⟨Nat.le_refl _⟩, by repeat (first | exact Drawn0.refl _ | apply Drawn0.step)⟩
 case round =>
  clear H'
  try clear c1
  try clear p2
  obtain ⟨x9_1, rfl, HA, HK1, ⟨m1, rfl⟩⟩ := hrel
  cases gk with
  | zero => exact absurd HA.out (by simp [spec_l1Has.l0])
  | succ k1 =>
   have H := HA.out
   clear HA
   simp only [spec_l1Has.l0] at H
   by_cases c3 : x9_1 < (l0.length : Int)
   ·rw [if_pos c3] at H
    have c3b0 : decide (x9_1 < (l0.length : Int)) = true := decide_eq_true c3
    clear c3
    by_cases c4 : 0 ≤ x9_1
    ·rw [if_pos c4] at H
     have c4b0 : decide (0 ≤ x9_1) = true := decide_eq_true c4
     clear c4
     by_cases c5 : x9_1 < (l0.length : Int)
     ·rw [if_pos c5] at H
      have c5b0 : decide (x9_1 < (l0.length : Int)) = true := decide_eq_true c5
      clear c5
      by_cases c6 : (rd l0 x9_1) = a1
      ·rw [if_pos c6] at H
       have c6b0 : ((rd l0 x9_1) == a1) = true := beq_iff_eq.mpr c6
       have c6b1 : ((rd l0 x9_1) != a1) = false := bne_eq_false_iff_eq.mpr c6
       clear c6
       obtain rfl := Option.some.inj H
       have p178 : 0 ≤ (x9_1 : Int) := of_decide_eq_true (by first | (with_reducible assumption) | assumption)
       have q178 : x9_1 < (l0.length : Int) := of_decide_eq_true (by first | (with_reducible assumption) | assumption)
       obtain ⟨ad178, e178, hx178_0⟩ := Kd.at_int HR0.out x9_1 p178 q178
       cases e178
       replace p178 := eq_true p178
       replace q178 := eq_true q178
       go_wp2
       go_ret
       exact ⟨by first | rfl | (simp; done) | (simp [*]; done), by repeat (first | exact Drawn0.refl _ | apply Drawn0.step)⟩
      ·rw [if_neg c6] at H
       have c6b0 : ((rd l0 x9_1) == a1) = false := beq_eq_false_iff_ne.mpr c6
       have c6b1 : ((rd l0 x9_1) != a1) = true := bne_iff_ne.mpr c6
       have H' := Aside0.mk H
       clear H
       have p178 : 0 ≤ (x9_1 : Int) := of_decide_eq_true (by first | (with_reducible assumption) | assumption)
       have q178 : x9_1 < (l0.length : Int) := of_decide_eq_true (by first | (with_reducible assumption) | assumption)
       obtain ⟨ad178, e178, hx178_0⟩ := Kd.at_int HR0.out x9_1 p178 q178
       cases e178
       replace p178 := eq_true p178
       replace q178 := eq_true q178
       go_wp2
       go_roundg k1
       case measure => have := HK1.out; omega
       case rel => exact ⟨(wrap64 (x9_1 + 1)), (by first | rfl | (simp; done) | (simp [*]; done)), H', ⟨by have := HK1.out; omega⟩, by repeat (first | exact Drawn0.refl _ | apply Drawn0.step)⟩
     ·rw [if_neg c5] at H
      exact absurd H (by simp)
    ·rw [if_neg c4] at H
     exact absurd H (by simp)
   ·rw [if_neg c3] at H
    have c3b0 : decide (x9_1 < (l0.length : Int)) = false := decide_eq_false c3
    clear c3
    obtain rfl := Option.some.inj H
    go_wp2
    go_ret
    exact ⟨by first | rfl | (simp; done) | (simp [*]; done), by repeat (first | exact Drawn0.refl _ | apply Drawn0.step)⟩

/-! ### spec_grFull: function 124 -/
def spec_grFull.l0 : Nat → List (List Bool) → List Int → Int → Int → Option (Bool)
 | 0, _, _, _, _ => none
 | k + 1, x0, x1, x7, x8 => if x8 < x7 then ((spec_l1Has.f k x1 x8).bind fun t179 => (if t179 = true then (spec_grFull.l0 k x0 x1 x7 (wrap64 (x8 + 1))) else ((spec_grJoins.f k x0 x1 x8).bind fun t180 => (if t180 = true then (some false) else (spec_grFull.l0 k x0 x1 x7 (wrap64 (x8 + 1))))))) else (some true)
def spec_grFull.f (k : Nat) (l0 : List (List Bool)) (l1 : List Int) : Option (Bool) := spec_grFull.l0 k l0 l1 (l0.length : Int) 0
theorem spec_grFull.mono_l : ∀ k, (∀ y0 y1 y2 y3, LeO (spec_grFull.l0 k y0 y1 y2 y3) (spec_grFull.l0 (k + 1) y0 y1 y2 y3))
 | 0 => fun _ _ _ _ r h => by simp [spec_grFull.l0] at h
 | k + 1 => by
  have ih0 := spec_grFull.mono_l k
  ·intro y0 y1 y2 y3
   unfold spec_grFull.l0
   repeat' first
   | (with_reducible exact ih0 _ _ _ _)
   | (with_reducible exact spec_grJoins.mono _ _ _ _)
   | (with_reducible exact spec_l1Has.mono _ _ _)
   | (with_reducible exact LeO.refl _)
   | (with_reducible exact LeO.none _)
   | (with_reducible refine LeO.ite ?_ ?_)
   | (with_reducible refine LeO.bind ?_ (fun _ => ?_))
   | exact ih0 _ _ _ _
   | exact spec_grJoins.mono _ _ _ _
   | exact spec_l1Has.mono _ _ _
   | exact LeO.none _
   | refine LeO.ite ?_ ?_
   | refine LeO.bind ?_ (fun _ => ?_)
theorem spec_grFull.mono : ∀ a0 a1 k, LeO (spec_grFull.f k a0 a1) (spec_grFull.f (k + 1) a0 a1) := by
 intro a0 a1 k
 have ih0 := spec_grFull.mono_l k
 unfold spec_grFull.f
 repeat' first
   | (with_reducible exact ih0 _ _ _ _)
   | (with_reducible exact spec_grJoins.mono _ _ _ _)
   | (with_reducible exact spec_l1Has.mono _ _ _)
   | (with_reducible exact LeO.refl _)
   | (with_reducible exact LeO.none _)
   | (with_reducible refine LeO.ite ?_ ?_)
   | (with_reducible refine LeO.bind ?_ (fun _ => ?_))
   | exact ih0 _ _ _ _
   | exact spec_grJoins.mono _ _ _ _
   | exact spec_l1Has.mono _ _ _
   | exact LeO.none _
   | refine LeO.ite ?_ ?_
   | refine LeO.bind ?_ (fun _ => ?_)
set_option maxHeartbeats 8000000 in
set_option maxRecDepth 100000 in
theorem spec_grFull.calls (k : Nat) (A0 : Option Addr) (c0 : Nat) (l0 : List (List Bool)) (A1 : Option Addr) (c1 : Nat) (l1 : List Int) (r : Bool) (w : World) (hr0 : Kd.C (Kd.slice 4 Kd.bool) w A0 l0.length l0) (hc0 : l0.length ≤ c0) (hr1 : Kd.C (Kd.int .i64) w A1 l1.length l1) (hc1 : l1.length ≤ c1) (h : spec_grFull.f k l0 l1 = some r) :
  Calls Tryd.prog 124 #[.slice A0 l0.length c0, .slice A1 l1.length c1] w fun e w' => e = .returned (.bool r) ∧ Drawn0 w w' := by
 have HR0 := Aside0.mk hr0
 have HC0 := Aside0.mk hc0
 clear hr0 hc0
 have HR1 := Aside0.mk hr1
 have HC1 := Aside0.mk hc1
 clear hr1 hc1
 have H : (spec_grFull.l0 k l0 l1 (l0.length : Int) 0) = some r := h
 clear h
 have H' := Aside0.mk H
 clear H
 go_enter Tryd.func124, Tryd.ntmps124
 go_wp2
 go_loopg [8] k (fun kq v8 w' => ∃ (x8_1 : Int), v8 = .int .i64 x8_1 ∧ Aside0 (spec_grFull.l0 kq l0 l1 (l0.length : Int) x8_1 = some r) ∧ Aside0 (kq ≤ k) ∧ Drawn0 w w')
 case atStart => exact ⟨(0), (by first | rfl | (simp; done) | (simp [*]; done)), H', ⟨Nat.le_refl _⟩, by repeat (first | exact Drawn0.refl _ | apply Drawn0.step)⟩
 case round =>
  clear H'
  try clear c1
  try clear p2
  obtain ⟨x8_1, rfl, HA, HK1, ⟨m1, rfl⟩⟩ := hrel
  cases gk with
  | zero => exact absurd HA.out (by simp [spec_grFull.l0])
  | succ k1 =>
   have H := HA.out
   clear HA
   simp only [spec_grFull.l0] at H
   by_cases c3 : x8_1 < (l0.length : Int)
   ·rw [if_pos c3] at H
    have c3b0 : decide (x8_1 < (l0.length : Int)) = true := decide_eq_true c3
    clear c3
    replace H := Option.bind_eq_some_iff.mp H
    obtain ⟨t179, A40, H⟩ := H
    try dsimp only at H
    have A4 := Aside0.mk A40
    clear A40
    by_cases c5 : t179 = true
    ·subst c5
     rw [if_pos rfl] at H
     have H' := Aside0.mk H
     clear H
     go_wp2_with (first | ((with_reducible refine gate_callee (f := 144) rfl ?_); refine goC (N := some 13) Tryd.func144 #[.slice A1 l1.length c1, .int .i64 x8_1] rfl ?_; (with_reducible refine (spec_l1Has.calls k1 _ _ l1 x8_1 true _ ?side1 ?side2 A4.out).mono ?_); (case side1 => exact cS HR1.out); (case side2 => exact HC1.out); rintro e w' ⟨rfl, ⟨nd, rfl⟩⟩; refine ⟨_, rfl, ?_⟩))
     go_roundg k1
     case measure => have := HK1.out; omega
     case rel => exact ⟨(wrap64 (x8_1 + 1)), (by first | rfl | (simp; done) | (simp [*]; done)), H', ⟨by have := HK1.out; omega⟩, by repeat (first | exact Drawn0.refl _ | apply Drawn0.step)⟩
    ·replace c5 := Bool.eq_false_iff.mpr c5
     subst c5
     rw [if_neg (show ¬ (false = true) by decide)] at H
     replace H := Option.bind_eq_some_iff.mp H
     obtain ⟨t180, A60, H⟩ := H
     try dsimp only at H
     have A6 := Aside0.mk A60
     clear A60
     by_cases c7 : t180 = true
     ·subst c7
      have H1 : (some false) = some r := by rw [if_pos rfl] at H; exact H
      clear H
      have H := H1
      clear H1
      obtain rfl := Option.some.inj H
      go_wp2_with (first | ((with_reducible refine gate_callee (f := 144) rfl ?_); refine goC (N := some 13) Tryd.func144 #[.slice A1 l1.length c1, .int .i64 x8_1] rfl ?_; (with_reducible refine (spec_l1Has.calls k1 _ _ l1 x8_1 false _ ?side1 ?side2 A4.out).mono ?_); (case side1 => exact cS HR1.out); (case side2 => exact HC1.out); rintro e w' ⟨rfl, ⟨nd, rfl⟩⟩; refine ⟨_, rfl, ?_⟩) | (go_at_call 145; (with_reducible refine (spec_grJoins.calls k1 _ _ l0 _ _ l1 x8_1 true _ ?side1 ?side2 ?side3 ?side4 A6.out).mono ?_); (case side1 => exact cS HR0.out); (case side2 => exact HC0.out); (case side3 => exact cS HR1.out); (case side4 => exact HC1.out); rintro e w' ⟨rfl, ⟨nd, rfl⟩⟩))
      go_ret
      exact ⟨by first | rfl | (simp; done) | (simp [*]; done), by repeat (first | exact Drawn0.refl _ | apply Drawn0.step)⟩
     ·replace c7 := Bool.eq_false_iff.mpr c7
      subst c7
      rw [if_neg (show ¬ (false = true) by decide)] at H
      have H' := Aside0.mk H
      clear H
      go_wp2_with (first | ((with_reducible refine gate_callee (f := 144) rfl ?_); refine goC (N := some 13) Tryd.func144 #[.slice A1 l1.length c1, .int .i64 x8_1] rfl ?_; (with_reducible refine (spec_l1Has.calls k1 _ _ l1 x8_1 false _ ?side1 ?side2 A4.out).mono ?_); (case side1 => exact cS HR1.out); (case side2 => exact HC1.out); rintro e w' ⟨rfl, ⟨nd, rfl⟩⟩; refine ⟨_, rfl, ?_⟩) | (go_at_call 145; (with_reducible refine (spec_grJoins.calls k1 _ _ l0 _ _ l1 x8_1 false _ ?side1 ?side2 ?side3 ?side4 A6.out).mono ?_); (case side1 => exact cS HR0.out); (case side2 => exact HC0.out); (case side3 => exact cS HR1.out); (case side4 => exact HC1.out); rintro e w' ⟨rfl, ⟨nd, rfl⟩⟩))
      go_roundg k1
      case measure => have := HK1.out; omega
      case rel => exact ⟨(wrap64 (x8_1 + 1)), (by first | rfl | (simp; done) | (simp [*]; done)), H', ⟨by have := HK1.out; omega⟩, by repeat (first | exact Drawn0.refl _ | apply Drawn0.step)⟩
   ·rw [if_neg c3] at H
    have c3b0 : decide (x8_1 < (l0.length : Int)) = false := decide_eq_false c3
    clear c3
    obtain rfl := Option.some.inj H
    go_wp2
    go_ret
    exact ⟨by first | rfl | (simp; done) | (simp [*]; done), by repeat (first | exact Drawn0.refl _ | apply Drawn0.step)⟩

/-! ### spec_grFulls: function 88 -/
def spec_grFulls.l0 : Nat → List (List Bool) → List (List Int) → List (List Int) → Int → Int → Option ((List (List Int)))
 | 0, _, _, _, _, _ => none
 | k + 1, x3, x4, x10, x11, x12 => if x12 < x11 then (if 0 ≤ x12 then (if x12 < (x10.length : Int) then ((spec_grFull.f k x3 (rd_L3 x10 x12)).bind fun t189 => (if t189 = true then (if x4.length < 5864062014805 then (spec_grFulls.l0 k x3 (x4 ++ [rd_L3 x10 x12]) x10 x11 (wrap64 (x12 + 1))) else (none)) else (spec_grFulls.l0 k x3 x4 x10 x11 (wrap64 (x12 + 1))))) else (none)) else (none)) else (some x4)
def spec_grFulls.f (k : Nat) (a0_0 : Int) (l0_1 : List (S105)) : Option ((List (List Int))) := (spec_paTable.f k a0_0 l0_1).bind fun t182 => ((spec_grGroups.f k t182).bind fun t185 => (spec_grFulls.l0 k t182 ([] : List (List Int)) t185 (t185.length : Int) 0))
theorem spec_grFulls.mono_l : ∀ k, (∀ y0 y1 y2 y3 y4, LeO (spec_grFulls.l0 k y0 y1 y2 y3 y4) (spec_grFulls.l0 (k + 1) y0 y1 y2 y3 y4))
 | 0 => fun _ _ _ _ _ r h => by simp [spec_grFulls.l0] at h
 | k + 1 => by
  have ih0 := spec_grFulls.mono_l k
  ·intro y0 y1 y2 y3 y4
   unfold spec_grFulls.l0
   repeat' first
   | (with_reducible exact ih0 _ _ _ _ _)
   | (with_reducible exact spec_grFull.mono _ _ _)
   | (with_reducible exact spec_grGroups.mono _ _)
   | (with_reducible exact spec_paTable.mono _ _ _)
   | (with_reducible exact LeO.refl _)
   | (with_reducible exact LeO.none _)
   | (with_reducible refine LeO.ite ?_ ?_)
   | (with_reducible refine LeO.bind ?_ (fun _ => ?_))
   | exact ih0 _ _ _ _ _
   | exact spec_grFull.mono _ _ _
   | exact spec_grGroups.mono _ _
   | exact spec_paTable.mono _ _ _
   | exact LeO.none _
   | refine LeO.ite ?_ ?_
   | refine LeO.bind ?_ (fun _ => ?_)
theorem spec_grFulls.mono : ∀ a0 a1 k, LeO (spec_grFulls.f k a0 a1) (spec_grFulls.f (k + 1) a0 a1) := by
 intro a0 a1 k
 have ih0 := spec_grFulls.mono_l k
 unfold spec_grFulls.f
 repeat' first
   | (with_reducible exact ih0 _ _ _ _ _)
   | (with_reducible exact spec_grFull.mono _ _ _)
   | (with_reducible exact spec_grGroups.mono _ _)
   | (with_reducible exact spec_paTable.mono _ _ _)
   | (with_reducible exact LeO.refl _)
   | (with_reducible exact LeO.none _)
   | (with_reducible refine LeO.ite ?_ ?_)
   | (with_reducible refine LeO.bind ?_ (fun _ => ?_))
   | exact ih0 _ _ _ _ _
   | exact spec_grFull.mono _ _ _
   | exact spec_grGroups.mono _ _
   | exact spec_paTable.mono _ _ _
   | exact LeO.none _
   | refine LeO.ite ?_ ?_
   | refine LeO.bind ?_ (fun _ => ?_)
set_option maxHeartbeats 8000000 in
set_option maxRecDepth 100000 in
theorem spec_grFulls.calls (k : Nat) (a0_0 : Int) (A0_1 : Option Addr) (c0_1 : Nat) (l0_1 : List (S105)) (r : List (List Int)) (w : World) (hr0_1 : Kd.C k105 w A0_1 l0_1.length l0_1) (hc0_1 : l0_1.length ≤ c0_1) (h : spec_grFulls.f k a0_0 l0_1 = some r) :
  Calls Tryd.prog 88 #[.agg #[.int .i64 a0_0, .slice A0_1 l0_1.length c0_1]] w fun e w' => ∃ v0_ : Value, e = .returned (v0_) ∧ Kd.N (Kd.slice 3 (Kd.int .i64)) 75 w' w.heap.size (fun k_ => (w.heap.size ≤ k_)) v0_ r ∧ Below w.heap.size w w' := by
 have hu33 := Tryd.underlying33
 have HR0_1 := Aside0.mk hr0_1
 have HC0_1 := Aside0.mk hc0_1
 clear hr0_1 hc0_1
 have HB := Aside0.mk (Below.refl w.heap.size w)
 have H : ((spec_paTable.f k a0_0 l0_1).bind fun t182 => ((spec_grGroups.f k t182).bind fun t185 => (spec_grFulls.l0 k t182 ([] : List (List Int)) t185 (t185.length : Int) 0))) = some r := h
 clear h
 replace H := Option.bind_eq_some_iff.mp H
 obtain ⟨t182, A20, H⟩ := H
 try dsimp only at H
 have A2 := Aside0.mk A20
 clear A20
 replace H := Option.bind_eq_some_iff.mp H
 obtain ⟨t185, A30, H⟩ := H
 try dsimp only at H
 have A3 := Aside0.mk A30
 clear A30
 have H' := Aside0.mk H
 clear H
 go_enter Tryd.func88, Tryd.ntmps88
 go_wp2_with (first | ((with_reducible refine gate_dst (N := 1) rfl ?_); refine bxE 1 #[.int .i64 a0_0, .slice A0_1 l0_1.length c0_1] 33 rfl ?_; intro gb181 hg w4 hbox hb; have BK181 := Aside0.mk (hbox); have GW181 := gS HB hg; have GE181 := gS HB hg; replace HB := hS HB hb; clear hb hbox hg; have hcz5_0 := cz BK181 0; have hcz5_1 := cz BK181 1; have hfz5_0 := fz BK181 0; have hfz5_1 := fz BK181 1) | ((with_reducible refine gate_callee (f := 54) rfl ?_); refine goC (N := some 8) Tryd.func54 #[.agg #[.int .i64 a0_0, .slice A0_1 l0_1.length c0_1]] rfl ?_; (with_reducible refine (spec_paTable.calls k a0_0 _ _ l0_1 t182 _ ?side1 ?side2 A2.out).mono ?_); (case side1 => exact cS (Kd.C_below HR0_1.out HB.out)); (case side2 => exact HC0_1.out); rintro e w6 ⟨v183, rfl, ho0, hb⟩; refine ⟨_, rfl, ?_⟩; have HO184 := Aside0.mk (Kd.N_lower (Kd.N_mono (ok' := fun k_ => (w.heap.size ≤ k_) ∧ k_ ≠ gb181) (Kd.S_N (Kd.S_bound ho0)) (fun k_ hk_ => ⟨(Nat.le_trans (below_size hB) hk_.2.1), (Kd.freshB (g := gb181) (o := .cells #[.int .i64 a0_0, .slice A0_1 l0_1.length c0_1] 33 (0, 0)) bK k_ hk_.2.1)⟩)) (below_size hB)); replace BK181 := bS BK181 hb; replace HB := hS HB hb; (try clear hb); (try clear hb2); (try clear hk); (try clear hi); (try clear ho0); obtain ⟨Ao7, co7, eo7⟩ := Kd.N_slice HO184.out; subst eo7) | ((with_reducible refine gate_callee (f := 99) rfl ?_); refine goC (N := some 10) Tryd.func99 #[.slice Ao7 t182.length co7] rfl ?_; (with_reducible refine (spec_grGroups.calls k _ _ t182 t185 _ ?side1 ?side2 A3.out).mono ?_); (case side1 => exact cS (Kd.N_reads' HO184.out).2.2); (case side2 => exact (Kd.N_reads' HO184.out).2.1); rintro e w8 ⟨v186, rfl, ho0, hb⟩; refine ⟨_, rfl, ?_⟩; have HO187 := Aside0.mk (Kd.N_lower (Kd.N_mono (ok' := fun k_ => (w.heap.size ≤ k_) ∧ some k_ ≠ (.slice Ao7 t182.length co7 : Value).ownBlock ∧ k_ ≠ gb181) ho0 (fun k_ hk_ => ⟨(Nat.le_trans (below_size hB) hk_), (Kd.fresh' (Kd.N_lt (nU HO184)) k_ hk_), (Kd.freshB (g := gb181) (o := .cells #[.int .i64 a0_0, .slice A0_1 l0_1.length c0_1] 33 (0, 0)) bK k_ hk_)⟩)) (below_size hB)); replace HO184 := Aside0.mk (Kd.N_elder' (nU HO184) (by first | exact Kd.N_base ho0 | exact Kd.S_base ho0) hb); replace BK181 := bS BK181 hb; replace HB := hS HB hb; (try clear hb); (try clear hb2); (try clear hk); (try clear hi); (try clear ho0); obtain ⟨Ao9, co9, eo9⟩ := Kd.N_slice HO187.out; subst eo9))
 go_loopg [4, 12] k (fun kq v4 v12 w' => ∃ (x4_1 : List (List Int)) (x12_1 : Int), v12 = .int .i64 x12_1 ∧ Aside0 (spec_grFulls.l0 kq t182 x4_1 t185 (t185.length : Int) x12_1 = some r) ∧ Aside0 (kq ≤ k) ∧ Aside0 (Kd.N (Kd.slice 4 Kd.bool) 72 w' w.heap.size (fun k_ => (w.heap.size ≤ k_) ∧ some k_ ≠ (v4 : Value).ownBlock ∧ some k_ ≠ ((.slice Ao9 t185.length co9) : Value).ownBlock ∧ k_ ≠ gb181) (.slice Ao7 t182.length co7) t182) ∧ Aside0 (Kd.N (Kd.slice 3 (Kd.int .i64)) 75 w' w.heap.size (fun k_ => (w.heap.size ≤ k_) ∧ some k_ ≠ ((.slice Ao7 t182.length co7) : Value).ownBlock ∧ some k_ ≠ ((.slice Ao9 t185.length co9) : Value).ownBlock ∧ k_ ≠ gb181) v4 x4_1) ∧ Aside0 (Kd.N (Kd.slice 3 (Kd.int .i64)) 75 w' w.heap.size (fun k_ => (w.heap.size ≤ k_) ∧ some k_ ≠ ((.slice Ao7 t182.length co7) : Value).ownBlock ∧ some k_ ≠ (v4 : Value).ownBlock ∧ k_ ≠ gb181) (.slice Ao9 t185.length co9) t185) ∧ Aside0 (w'.heap[gb181]? = some (.cells #[.int .i64 a0_0, (.slice A0_1 l0_1.length c0_1)] 33 (0, 0))) ∧ Aside0 (Below w.heap.size w w'))
 case atStart => exact ⟨(([] : List (List Int))), (0), (by first | rfl | (simp; done) | (simp [*]; done)), H', ⟨Nat.le_refl _⟩, ⟨by (with_reducible repeat (first | apply Kd.N_alloc | apply Kd.N_drewN | apply Kd.N_drew)); exact Kd.N_mono HO184.out (fun _ hk => ⟨hk.1.1, ⟨(by simp [Value.ownBlock]), ⟨hk.2, hk.1.2⟩⟩⟩)⟩, ⟨by first | exact Kd.S_nil _ _ _ _ _ | exact Kd.N_nil _ _ _ _ _ | exact Kd.V_nil _ _ _ _ _ | exact Kd.Q_nil _ _ _ _ _ | exact Kd.R_nil _ _ _ _ _⟩, ⟨by (with_reducible repeat (first | apply Kd.N_alloc | apply Kd.N_drewN | apply Kd.N_drew)); exact Kd.N_mono HO187.out (fun _ hk => ⟨hk.1, ⟨hk.2.1, ⟨(by simp [Value.ownBlock]), hk.2.2⟩⟩⟩)⟩, ⟨bK⟩, ⟨hB⟩⟩
 case round =>
  clear H'
  try clear p2
  try clear c5
  try clear c8
  try clear c9
  try clear hcz5_0
  try clear hcz5_1
  try clear hfz5_0
  try clear hfz5_1
  obtain ⟨x4_1, x12_1, rfl, HA, HK1, HO_3, HO_4, HO_10, BK181, HB⟩ := hrel
  cases gk with
  | zero => exact absurd HA.out (by simp [spec_grFulls.l0])
  | succ k1 =>
   have H := HA.out
   clear HA
   simp only [spec_grFulls.l0] at H
   by_cases c10 : x12_1 < (t185.length : Int)
   ·rw [if_pos c10] at H
    have c10b0 : decide (x12_1 < (t185.length : Int)) = true := decide_eq_true c10
    clear c10
    by_cases c11 : 0 ≤ x12_1
    ·rw [if_pos c11] at H
     have c11b0 : decide (0 ≤ x12_1) = true := decide_eq_true c11
     clear c11
     by_cases c12 : x12_1 < (t185.length : Int)
     ·rw [if_pos c12] at H
      have c12b0 : decide (x12_1 < (t185.length : Int)) = true := decide_eq_true c12
      clear c12
      replace H := Option.bind_eq_some_iff.mp H
      obtain ⟨t189, A130, H⟩ := H
      try dsimp only at H
      have A13 := Aside0.mk A130
      clear A130
      by_cases c14 : t189 = true
      ·subst c14
       rw [if_pos rfl] at H
       by_cases c15 : x4_1.length < 5864062014805
       ·rw [if_pos c15] at H
        have LMc15 := Aside0.mk c15
        clear c15
        obtain ⟨y190, hy190⟩ : ∃ y_ : List (List Int), y_ = (x4_1 ++ [rd_L3 t185 x12_1]) := ⟨_, rfl⟩
        replace H : (spec_grFulls.l0 k1 t182 y190 t185 (t185.length : Int) (wrap64 (x12_1 + 1))) = some r := by first | (rw [hy190]; with_reducible exact H) | (have H2_ := (Option.bind_some _ _).symm.trans H; rw [hy190]; with_reducible exact H2_) | (have H2_ := (Option.bind_some _ _).symm.trans H; with_reducible exact H2_) | with_reducible exact H | (rw [hy190]; exact H) | exact H
        have Ny190 := Aside0.mk hy190
        clear hy190
        have H' := Aside0.mk H
        clear H
        have p188 : 0 ≤ (x12_1 : Int) := of_decide_eq_true (by first | (with_reducible assumption) | assumption)
        have q188 : x12_1 < (t185.length : Int) := of_decide_eq_true (by first | (with_reducible assumption) | assumption)
        obtain ⟨ad188, A188_0, c188_0, e188, hx188_0, hl188_0, hi188_0⟩ := at_L3 (Kd.N_reads' HO_10.out).2.2 x12_1 p188 q188
        cases e188
        obtain ⟨ce188, hce188, hMe188, hcc188⟩ := Kd.N_get HO_10.out [] x12_1 p188 (by first | exact q188 | exact of_decide_eq_true (by first | (with_reducible assumption) | assumption) | (have e_ := (Kd.N_reads' HO_10.out).1; omega))
        obtain ⟨ua188_0, uc188_0, rfl, ul188_0, ge188_0⟩ := Kd.FK_slice_open hMe188
        have hv188_0 := hcc188 0 _ rfl
        rw [Nat.add_zero, show ((Kd.slice 3 (Kd.int .i64))).sz = 1 from rfl, Nat.mul_one] at hv188_0
        replace hv188_0 := Option.some.inj (hv188_0.symm.trans hx188_0)
        injection hv188_0 with hva_ hvn_ hvc_
        rw [hva_] at ge188_0
        rw [hvc_] at ul188_0
        have HL188_0 := Aside0.mk (show Kd.V (Kd.int .i64) 3 _ w.heap.size _ _ (rd_L3 t185 x12_1) from Kd.V_mk ul188_0 ge188_0)
        clear hva_ hvn_ hvc_ ge188_0 ul188_0
        clear hcc188 hce188
        have HR188_0 := Aside0.mk hi188_0
        have HC188_0 := Aside0.mk hl188_0
        clear hi188_0 hl188_0
        replace p188 := eq_true p188
        replace q188 := eq_true q188
        go_wp2_with (first | ((with_reducible refine gate_callee (f := 124) rfl ?_); refine goC (N := some 18) Tryd.func124 #[.slice Ao7 t182.length co7, .slice A188_0 (rd_L3 t185 x12_1).length c188_0] rfl ?_; (with_reducible refine (spec_grFull.calls k1 _ _ t182 _ _ (rd_L3 t185 x12_1) true _ ?side1 ?side2 ?side3 ?side4 A13.out).mono ?_); (case side1 => exact cS (Kd.N_reads' HO_3.out).2.2); (case side2 => exact (Kd.N_reads' HO_3.out).2.1); (case side3 => repeat (first | exact (by repeat (first | (with_reducible exact HR188_0.out) | (with_reducible refine Kd.C_alloc ?_ _) | (with_reducible refine Kd.C_drewN ?_ _) | (with_reducible refine Kd.C_drew ?_) | exact HR188_0.out)) | (with_reducible refine Kd.C_alloc ?_ _) | (with_reducible refine Kd.C_drewN ?_ _) | (with_reducible refine Kd.C_drew ?_))); (case side4 => exact HC188_0.out); rintro e w' ⟨rfl, ⟨nd, rfl⟩⟩; refine ⟨_, rfl, ?_⟩; replace HL188_0 := Aside0.mk (Kd.V_drewN HL188_0.out nd)) | ((with_reducible refine gate_builtin (b := .append) (xs := #[.tmp 19, .tmp 21]) rfl ?_); at_builtin; refine Kd.N_append (Kd.slice 3 (Kd.int .i64)) (w0 := w) w.heap.size rfl (.tmp 19) (.tmp 21) 58 75 (.slice none 0 0) 24 rfl Tryd.underlying58 info75 rfl (by decide) (by omega) u4 x4_1 (rd_L3 t185 x12_1) [.slice A188_0 (rd_L3 t185 x12_1).length c188_0] (fun k_ => (w.heap.size ≤ k_) ∧ some k_ ≠ (.slice Ao7 t182.length co7 : Value).ownBlock ∧ some k_ ≠ (.slice (some ad188) t185.length co9 : Value).ownBlock ∧ k_ ≠ gb181) (fun k_ => ((fun k_ => (w.heap.size ≤ k_) ∧ some k_ ≠ (.slice Ao7 t182.length co7 : Value).ownBlock ∧ some k_ ≠ (.slice (some ad188) t185.length co9 : Value).ownBlock ∧ k_ ≠ gb181)) k_ ∧ some k_ ≠ (u4 : Value).ownBlock) rfl rfl ?aP (fun _ hk => hk) ?aF ?aO ?aB ?aS ?aL ?_; (case aP => exact (Kd.FK_slice_mk (Kd.V_reads' (Kd.V_mono (ok' := (fun k_ => ((fun k_ => (w.heap.size ≤ k_) ∧ some k_ ≠ (.slice Ao7 t182.length co7 : Value).ownBlock ∧ some k_ ≠ (.slice (some ad188) t185.length co9 : Value).ownBlock ∧ k_ ≠ gb181)) k_ ∧ some k_ ≠ (u4 : Value).ownBlock)) (HL188_0.out) (fun k_ hk => ⟨⟨hk.1.1, ⟨hk.1.2.1, ⟨hk.2, hk.1.2.2.2⟩⟩⟩, hk.1.2.2.1⟩))).2.1 (Kd.V_F (Kd.V_mono (ok' := (fun k_ => ((fun k_ => (w.heap.size ≤ k_) ∧ some k_ ≠ (.slice Ao7 t182.length co7 : Value).ownBlock ∧ some k_ ≠ (.slice (some ad188) t185.length co9 : Value).ownBlock ∧ k_ ≠ gb181)) k_ ∧ some k_ ≠ (u4 : Value).ownBlock)) (HL188_0.out) (fun k_ hk => ⟨⟨hk.1.1, ⟨hk.1.2.1, ⟨hk.2, hk.1.2.2.2⟩⟩⟩, hk.1.2.2.1⟩))))); (case aB => exact hB); (case aF => exact (fun k_ hk => ⟨(Nat.le_trans (below_size hB) hk), Kd.fresh' (Kd.N_lt (nU HO_3)) k_ hk, Kd.fresh' (Kd.N_lt (nU HO_10)) k_ hk, Kd.freshB (g := gb181) (o := .cells #[.int .i64 a0_0, .slice A0_1 l0_1.length c0_1] 33 (0, 0)) bK k_ hk⟩)); (case aO => exact (nU HO_4)); (case aS => exact (below_size hB)); (case aL => have := LMc15.out; omega); intro v191 w16 ho hb hg hat; rw [← Ny190.out] at ho; have HO192 := Aside0.mk (ho); replace HO_3 := Aside0.mk (Kd.N_afterv (ok := (fun k_ => (w.heap.size ≤ k_) ∧ some k_ ≠ (.slice (some ad188) t185.length co9 : Value).ownBlock ∧ k_ ≠ gb181)) (by (with_reducible repeat (first | apply Kd.N_alloc | apply Kd.N_drewN | apply Kd.N_drew)); exact Kd.N_mono HO_3.out (fun _ hk => ⟨⟨hk.1, ⟨hk.2.2.1, hk.2.2.2⟩⟩, hk.2.1⟩)) hg hat); replace HO_10 := Aside0.mk (Kd.N_afterv (ok := (fun k_ => (w.heap.size ≤ k_) ∧ some k_ ≠ (.slice Ao7 t182.length co7 : Value).ownBlock ∧ k_ ≠ gb181)) (by (with_reducible repeat (first | apply Kd.N_alloc | apply Kd.N_drewN | apply Kd.N_drew)); exact Kd.N_mono HO_10.out (fun _ hk => ⟨⟨hk.1, ⟨hk.2.1, hk.2.2.2⟩⟩, hk.2.2.1⟩)) hg hat); replace BK181 := Aside0.mk (blk_grown (g := gb181) (o := .cells #[.int .i64 a0_0, .slice A0_1 l0_1.length c0_1] 33 (0, 0)) bK hg (Kd.N_ne HO_4.out BK181.out (by decide))); replace HL188_0 := Aside0.mk (Kd.V_afterv (ok := (fun k_ => (w.heap.size ≤ k_) ∧ some k_ ≠ (.slice Ao7 t182.length co7 : Value).ownBlock ∧ some k_ ≠ (.slice (some ad188) t185.length co9 : Value).ownBlock ∧ k_ ≠ gb181)) (by (with_reducible repeat (apply Kd.V_alloc)); exact Kd.V_mono HL188_0.out (fun _ hk => ⟨⟨hk.1.1, ⟨hk.1.2.1, ⟨hk.2, hk.1.2.2.2⟩⟩⟩, hk.1.2.2.1⟩)) hg hat); replace HB := Aside0.mk (hb); clear HO_4; clear ho hb hg hat))
        go_roundg k1
        case measure => have := HK1.out; omega
        case rel => exact ⟨(y190), (wrap64 (x12_1 + 1)), (by first | rfl | (simp; done) | (simp [*]; done)), H', ⟨by have := HK1.out; omega⟩, ⟨by (with_reducible repeat (first | apply Kd.N_alloc | apply Kd.N_drewN | apply Kd.N_drew)); exact Kd.N_mono HO_3.out (fun _ hk => ⟨hk.1.1, ⟨hk.2, ⟨hk.1.2.1, hk.1.2.2⟩⟩⟩)⟩, ⟨nU HO192⟩, ⟨by (with_reducible repeat (first | apply Kd.N_alloc | apply Kd.N_drewN | apply Kd.N_drew)); exact Kd.N_mono HO_10.out (fun _ hk => ⟨hk.1.1, ⟨hk.1.2.1, ⟨hk.2, hk.1.2.2⟩⟩⟩)⟩, ⟨bK⟩, ⟨hB⟩⟩
       ·rw [if_neg c15] at H
        exact absurd H (by simp)
      ·replace c14 := Bool.eq_false_iff.mpr c14
       subst c14
       rw [if_neg (show ¬ (false = true) by decide)] at H
       have H' := Aside0.mk H
       clear H
       have p188 : 0 ≤ (x12_1 : Int) := of_decide_eq_true (by first | (with_reducible assumption) | assumption)
       have q188 : x12_1 < (t185.length : Int) := of_decide_eq_true (by first | (with_reducible assumption) | assumption)
       obtain ⟨ad188, A188_0, c188_0, e188, hx188_0, hl188_0, hi188_0⟩ := at_L3 (Kd.N_reads' HO_10.out).2.2 x12_1 p188 q188
       cases e188
       obtain ⟨ce188, hce188, hMe188, hcc188⟩ := Kd.N_get HO_10.out [] x12_1 p188 (by first | exact q188 | exact of_decide_eq_true (by first | (with_reducible assumption) | assumption) | (have e_ := (Kd.N_reads' HO_10.out).1; omega))
       obtain ⟨ua188_0, uc188_0, rfl, ul188_0, ge188_0⟩ := Kd.FK_slice_open hMe188
       have hv188_0 := hcc188 0 _ rfl
       rw [Nat.add_zero, show ((Kd.slice 3 (Kd.int .i64))).sz = 1 from rfl, Nat.mul_one] at hv188_0
       replace hv188_0 := Option.some.inj (hv188_0.symm.trans hx188_0)
       injection hv188_0 with hva_ hvn_ hvc_
       rw [hva_] at ge188_0
       rw [hvc_] at ul188_0
       have HL188_0 := Aside0.mk (show Kd.V (Kd.int .i64) 3 _ w.heap.size _ _ (rd_L3 t185 x12_1) from Kd.V_mk ul188_0 ge188_0)
       clear hva_ hvn_ hvc_ ge188_0 ul188_0
       clear hcc188 hce188
       have HR188_0 := Aside0.mk hi188_0
       have HC188_0 := Aside0.mk hl188_0
       clear hi188_0 hl188_0
       replace p188 := eq_true p188
       replace q188 := eq_true q188
       go_wp2_with (first | ((with_reducible refine gate_callee (f := 124) rfl ?_); refine goC (N := some 18) Tryd.func124 #[.slice Ao7 t182.length co7, .slice A188_0 (rd_L3 t185 x12_1).length c188_0] rfl ?_; (with_reducible refine (spec_grFull.calls k1 _ _ t182 _ _ (rd_L3 t185 x12_1) false _ ?side1 ?side2 ?side3 ?side4 A13.out).mono ?_); (case side1 => exact cS (Kd.N_reads' HO_3.out).2.2); (case side2 => exact (Kd.N_reads' HO_3.out).2.1); (case side3 => repeat (first | exact (by repeat (first | (with_reducible exact HR188_0.out) | (with_reducible refine Kd.C_alloc ?_ _) | (with_reducible refine Kd.C_drewN ?_ _) | (with_reducible refine Kd.C_drew ?_) | exact HR188_0.out)) | (with_reducible refine Kd.C_alloc ?_ _) | (with_reducible refine Kd.C_drewN ?_ _) | (with_reducible refine Kd.C_drew ?_))); (case side4 => exact HC188_0.out); rintro e w' ⟨rfl, ⟨nd, rfl⟩⟩; refine ⟨_, rfl, ?_⟩))
       go_roundg k1
       case measure => have := HK1.out; omega
       case rel => exact ⟨(x4_1), (wrap64 (x12_1 + 1)), (by first | rfl | (simp; done) | (simp [*]; done)), H', ⟨by have := HK1.out; omega⟩, ⟨nU HO_3⟩, ⟨nU HO_4⟩, ⟨nU HO_10⟩, ⟨bK⟩, ⟨hB⟩⟩
     ·rw [if_neg c12] at H
      exact absurd H (by simp)
    ·rw [if_neg c11] at H
     exact absurd H (by simp)
   ·rw [if_neg c10] at H
    have c10b0 : decide (x12_1 < (t185.length : Int)) = false := decide_eq_false c10
    clear c10
    obtain rfl := Option.some.inj H
    go_wp2
    go_ret
    exact ⟨_, by first | rfl | (simp [errW_none, errW_some] <;> rfl) | (simp [*, errW_none, errW_some] <;> rfl), by (with_reducible repeat (first | apply Kd.N_alloc | apply Kd.N_drewN | apply Kd.N_drew)); exact Kd.N_mono HO_4.out (fun _ hk => hk.1), hB⟩

/-! ### spec_paOf: function 127 -/
mutual
def spec_paOf.l0 : Nat → List (List Bool) → Int → Int → Int → List (S105) → Option (Int × (List (S105)))
 | 0, _, _, _, _, _ => none
 | k + 1, x0, x10, x11, x195000, x195001 => if x11 < x10 then (spec_paOf.l1 k x0 x11 (wrap64 (x11 + 1)) x10 x11 x195000 x195001) else (some (x195000, x195001))
def spec_paOf.l1 : Nat → List (List Bool) → Int → Int → Int → Int → Int → List (S105) → Option (Int × (List (S105)))
 | 0, _, _, _, _, _, _, _ => none
 | k + 1, x0, x4, x5, x10, x11, x195000, x195001 => if x5 < (x0.length : Int) then (if 0 ≤ x4 then (if x4 < (x0.length : Int) then (if 0 ≤ x5 then (if x5 < ((rd_L6 x0 x4).length : Int) then (if rdOf false (rd_L6 x0 x4) x5 = true then (if x195001.length < 8796093022208 then (spec_paOf.l1 k x0 x4 (wrap64 (x5 + 1)) x10 x11 x195000 (x195001 ++ [(⟨x4, x5⟩ : S105)])) else (none)) else (spec_paOf.l1 k x0 x4 (wrap64 (x5 + 1)) x10 x11 x195000 x195001)) else (none)) else (none)) else (none)) else (none)) else (spec_paOf.l0 k x0 x10 (wrap64 (x11 + 1)) x195000 x195001)
end
def spec_paOf.f (k : Nat) (l0 : List (List Bool)) : Option (Int × (List (S105))) := spec_paOf.l0 k l0 (l0.length : Int) 0 (l0.length : Int) ([] : List (S105))
theorem spec_paOf.mono_l : ∀ k, (∀ y0 y1 y2 y3 y4, LeO (spec_paOf.l0 k y0 y1 y2 y3 y4) (spec_paOf.l0 (k + 1) y0 y1 y2 y3 y4)) ∧ (∀ y0 y1 y2 y3 y4 y5 y6, LeO (spec_paOf.l1 k y0 y1 y2 y3 y4 y5 y6) (spec_paOf.l1 (k + 1) y0 y1 y2 y3 y4 y5 y6))
 | 0 => ⟨fun _ _ _ _ _ r h => by simp [spec_paOf.l0] at h, fun _ _ _ _ _ _ _ r h => by simp [spec_paOf.l1] at h⟩
 | k + 1 => by
  obtain ⟨ih0, ih1⟩ := spec_paOf.mono_l k
  refine ⟨?_, ?_⟩
  ·intro y0 y1 y2 y3 y4
   unfold spec_paOf.l0
   repeat' first
   | (with_reducible exact ih0 _ _ _ _ _)
   | (with_reducible exact ih1 _ _ _ _ _ _ _)
   | (with_reducible exact LeO.refl _)
   | (with_reducible exact LeO.none _)
   | (with_reducible refine LeO.ite ?_ ?_)
   | (with_reducible refine LeO.bind ?_ (fun _ => ?_))
   | exact ih0 _ _ _ _ _
   | exact ih1 _ _ _ _ _ _ _
   | exact LeO.none _
   | refine LeO.ite ?_ ?_
   | refine LeO.bind ?_ (fun _ => ?_)
  ·intro y0 y1 y2 y3 y4 y5 y6
   unfold spec_paOf.l1
   repeat' first
   | (with_reducible exact ih0 _ _ _ _ _)
   | (with_reducible exact ih1 _ _ _ _ _ _ _)
   | (with_reducible exact LeO.refl _)
   | (with_reducible exact LeO.none _)
   | (with_reducible refine LeO.ite ?_ ?_)
   | (with_reducible refine LeO.bind ?_ (fun _ => ?_))
   | exact ih0 _ _ _ _ _
   | exact ih1 _ _ _ _ _ _ _
   | exact LeO.none _
   | refine LeO.ite ?_ ?_
   | refine LeO.bind ?_ (fun _ => ?_)
theorem spec_paOf.mono : ∀ a0 k, LeO (spec_paOf.f k a0) (spec_paOf.f (k + 1) a0) := by
 intro a0 k
 obtain ⟨ih0, ih1⟩ := spec_paOf.mono_l k
 unfold spec_paOf.f
 repeat' first
   | (with_reducible exact ih0 _ _ _ _ _)
   | (with_reducible exact ih1 _ _ _ _ _ _ _)
   | (with_reducible exact LeO.refl _)
   | (with_reducible exact LeO.none _)
   | (with_reducible refine LeO.ite ?_ ?_)
   | (with_reducible refine LeO.bind ?_ (fun _ => ?_))
   | exact ih0 _ _ _ _ _
   | exact ih1 _ _ _ _ _ _ _
   | exact LeO.none _
   | refine LeO.ite ?_ ?_
   | refine LeO.bind ?_ (fun _ => ?_)
set_option maxHeartbeats 8000000 in
set_option maxRecDepth 100000 in
theorem spec_paOf.calls (k : Nat) (A0 : Option Addr) (c0 : Nat) (l0 : List (List Bool)) (r1 : Int) (r2 : List (S105)) (w : World) (hr0 : Kd.C (Kd.slice 4 Kd.bool) w A0 l0.length l0) (hc0 : l0.length ≤ c0) (h : spec_paOf.f k l0 = some (r1, r2)) :
  Calls Tryd.prog 127 #[.slice A0 l0.length c0] w fun e w' => ∃ v1_ : Value, e = .returned (.agg #[.int .i64 r1, v1_]) ∧ Kd.R k105 105 w' w.heap.size (fun _ => True) v1_ r2 ∧ Below w.heap.size w w' := by
 have hu33 := Tryd.underlying33
 have hu105 := Tryd.underlying105
 have HR0 := Aside0.mk hr0
 have HC0 := Aside0.mk hc0
 clear hr0 hc0
 have HB := Aside0.mk (Below.refl w.heap.size w)
 have H : (spec_paOf.l0 k l0 (l0.length : Int) 0 (l0.length : Int) ([] : List (S105))) = some (r1, r2) := h
 clear h
 have H' := Aside0.mk H
 clear H
 go_enter Tryd.func127, Tryd.ntmps127
 go_wp2_with (first | ((with_reducible refine gate_dst (N := 2) rfl ?_); refine bxE 2 #[.int .i64 0, .slice none 0 0] 33 rfl ?_; intro gb193 hg w2 hbox hb; have BK193 := Aside0.mk (hbox); have GW193 := gS HB hg; have GE193 := gS HB hg; replace HB := hS HB hb; clear hb hbox hg) | ((with_reducible refine gate_dst (N := 3) rfl ?_); refine bxE 3 #[.int .i64 0, .slice none 0 0] 33 rfl ?_; intro gb194 hg w3 hbox hb; have BK194 := Aside0.mk (hbox); have GW194 := gS HB hg; have GE194 := gS HB hg; have NB193_194 := nL BK193 hg; have NB194_193 := nG BK193 hg; replace BK193 := bS BK193 hb; replace HB := hS HB hb; clear hb hbox hg; have hnb4 := NB194_193.out; have hnc4 := NB193_194.out; have hcz5_0 := cz BK194 0; have hcz5_1 := cz BK194 1; have hfz5_0 := fz BK194 0; have hfz5_1 := fz BK194 1))
 go_loopg [11] k (fun kq v11 w' => ∃ (x11_1 : Int) (x195001_1 : List (S105)) (u195001 : Value), v11 = .int .i64 x11_1 ∧ Aside0 (spec_paOf.l0 kq l0 (l0.length : Int) x11_1 (l0.length : Int) x195001_1 = some (r1, r2)) ∧ Aside0 (kq ≤ k) ∧ Aside0 (Kd.R k105 105 w' w.heap.size (fun _ => True) u195001 x195001_1) ∧ Aside0 (w'.heap[gb193]? = some (.cells #[.int .i64 0, (.slice none 0 0)] 33 (0, 0))) ∧ Aside0 (w'.heap[gb194]? = some (.cells #[.int .i64 (l0.length : Int), u195001] 33 (0, 0))) ∧ Aside0 (Below w.heap.size w w'))
 case atStart => exact ⟨(0), (([] : List (S105))), (.slice none 0 0), (by first | rfl | (simp; done) | (simp [*]; done)), H', ⟨Nat.le_refl _⟩, ⟨by first | exact Kd.R_nil _ _ _ _ _ | exact Kd.N_nil _ _ _ _ _ | exact Kd.V_nil _ _ _ _ _ | exact Kd.Q_nil _ _ _ _ _ | exact Kd.S_nil _ _ _ _ _⟩, ⟨by (with_reducible repeat (first | refine blk_drewN ?_ _ | refine blk_drew ?_ | refine blk_alloc ?_ _)); refine blk_far ?_ NB193_194.out _; (with_reducible repeat (first | refine blk_drewN ?_ _ | refine blk_drew ?_ | refine blk_alloc ?_ _)); refine blk_far ?_ NB193_194.out _; (with_reducible repeat (first | refine blk_drewN ?_ _ | refine blk_drew ?_ | refine blk_alloc ?_ _)); exact BK193.out⟩, ⟨by (with_reducible repeat (first | refine blk_drewN ?_ _ | refine blk_drew ?_ | refine blk_alloc ?_ _)); refine blk_put (cs := #[.int .i64 (l0.length : Int), .slice none 0 0]) ?_ 1 _ rfl; (with_reducible repeat (first | refine blk_drewN ?_ _ | refine blk_drew ?_ | refine blk_alloc ?_ _)); refine blk_put (cs := #[.int .i64 0, .slice none 0 0]) ?_ 0 _ rfl; (with_reducible repeat (first | refine blk_drewN ?_ _ | refine blk_drew ?_ | refine blk_alloc ?_ _)); exact BK194.out⟩, ⟨hB⟩⟩
 case round =>
  clear H'
  try clear c1
  try clear p2
  try clear c4
  try clear hcz5_0
  try clear hcz5_1
  try clear hfz5_0
  try clear hfz5_1
  obtain ⟨x11_1, x195001_1, u195001, rfl, HA, HK1, HO_195001, BK193, BK194, HB⟩ := hrel
  cases gk with
  | zero => exact absurd HA.out (by simp [spec_paOf.l0])
  | succ k1 =>
   have H := HA.out
   clear HA
   simp only [spec_paOf.l0] at H
   by_cases c6 : x11_1 < (l0.length : Int)
   ·rw [if_pos c6] at H
    have c6b0 : decide (x11_1 < (l0.length : Int)) = true := decide_eq_true c6
    clear c6
    have H' := Aside0.mk H
    clear H
    go_wp2
    go_loopg [5] k1 (fun kq v5 w' => ∃ (x5_2 : Int) (x195001_2 : List (S105)) (u195001 : Value), v5 = .int .i64 x5_2 ∧ Aside0 (spec_paOf.l1 kq l0 x11_1 x5_2 (l0.length : Int) x11_1 (l0.length : Int) x195001_2 = some (r1, r2)) ∧ Aside0 (kq ≤ k1) ∧ Aside0 (Kd.R k105 105 w' w.heap.size (fun _ => True) u195001 x195001_2) ∧ Aside0 (w'.heap[gb193]? = some (.cells #[.int .i64 0, (.slice none 0 0)] 33 (0, 0))) ∧ Aside0 (w'.heap[gb194]? = some (.cells #[.int .i64 (l0.length : Int), u195001] 33 (0, 0))) ∧ Aside0 (Below w.heap.size w w'))
    case atStart => exact ⟨(wrap64 (x11_1 + 1)), (x195001_1), (u195001), (by first | rfl | (simp; done) | (simp [*]; done)), H', ⟨Nat.le_refl _⟩, ⟨rU HO_195001⟩, ⟨bK⟩, ⟨bK⟩, ⟨hB⟩⟩
    case round =>
     clear H'
     try clear c1
     try clear p2
     try clear c4
     try clear c6
     try clear c6b0
     try clear p6
     try clear hcz5_0
     try clear hcz5_1
     try clear hfz5_0
     try clear hfz5_1
     try clear p2
     obtain ⟨x5_2, x195001_2, u195001, rfl, HA, HK2, HO_195001, BK193, BK194, HB⟩ := hrel
     cases gk with
     | zero => exact absurd HA.out (by simp [spec_paOf.l1])
     | succ k2 =>
      have H := HA.out
      clear HA
      simp only [spec_paOf.l1] at H
      by_cases c7 : x5_2 < (l0.length : Int)
      ·rw [if_pos c7] at H
       have c7b0 : decide (x5_2 < (l0.length : Int)) = true := decide_eq_true c7
       clear c7
       by_cases c8 : 0 ≤ x11_1
       ·rw [if_pos c8] at H
        have c8b0 : decide (0 ≤ x11_1) = true := decide_eq_true c8
        clear c8
        by_cases c9 : x11_1 < (l0.length : Int)
        ·rw [if_pos c9] at H
         have c9b0 : decide (x11_1 < (l0.length : Int)) = true := decide_eq_true c9
         clear c9
         by_cases c10 : 0 ≤ x5_2
         ·rw [if_pos c10] at H
          have c10b0 : decide (0 ≤ x5_2) = true := decide_eq_true c10
          clear c10
          by_cases c11 : x5_2 < ((rd_L6 l0 x11_1).length : Int)
          ·rw [if_pos c11] at H
           have c11b0 : decide (x5_2 < ((rd_L6 l0 x11_1).length : Int)) = true := decide_eq_true c11
           clear c11
           obtain ⟨bq12, hbq12⟩ : ∃ b_ : Bool, b_ = (rdOf false (rd_L6 l0 x11_1) x5_2) := ⟨_, rfl⟩
           replace H : (if bq12 = true then (if x195001_2.length < 8796093022208 then (spec_paOf.l1 k2 l0 x11_1 (wrap64 (x5_2 + 1)) (l0.length : Int) x11_1 (l0.length : Int) (x195001_2 ++ [(⟨x11_1, x5_2⟩ : S105)])) else (none)) else (spec_paOf.l1 k2 l0 x11_1 (wrap64 (x5_2 + 1)) (l0.length : Int) x11_1 (l0.length : Int) x195001_2)) = some (r1, r2) := by rw [← hbq12] at H; exact H
           have Nbq12 := Aside0.mk hbq12
           clear hbq12
           by_cases c13 : bq12 = true
           ·subst c13
            rw [if_pos rfl] at H
            by_cases c14 : x195001_2.length < 8796093022208
            ·rw [if_pos c14] at H
             have LMc14 := Aside0.mk c14
             clear c14
             obtain ⟨y197, hy197⟩ : ∃ y_ : List (S105), y_ = (x195001_2 ++ [(⟨x11_1, x5_2⟩ : S105)]) := ⟨_, rfl⟩
             replace H : (spec_paOf.l1 k2 l0 x11_1 (wrap64 (x5_2 + 1)) (l0.length : Int) x11_1 (l0.length : Int) y197) = some (r1, r2) := by first | (rw [hy197]; with_reducible exact H) | (have H2_ := (Option.bind_some _ _).symm.trans H; rw [hy197]; with_reducible exact H2_) | (have H2_ := (Option.bind_some _ _).symm.trans H; with_reducible exact H2_) | with_reducible exact H | (rw [hy197]; exact H) | exact H
             have Ny197 := Aside0.mk hy197
             clear hy197
             have H' := Aside0.mk H
             clear H
             have p195 : 0 ≤ (x11_1 : Int) := of_decide_eq_true (by first | (with_reducible assumption) | assumption)
             have q195 : x11_1 < (l0.length : Int) := of_decide_eq_true (by first | (with_reducible assumption) | assumption)
             obtain ⟨ad195, A195_0, c195_0, e195, hx195_0, hl195_0, hi195_0⟩ := at_L6 HR0.out x11_1 p195 q195
             cases e195
             replace hx195_0 := (HB.out.cell (World.block_lt_of_cell? w _ hx195_0)).trans hx195_0
             have HR195_0 := Aside0.mk hi195_0
             have HC195_0 := Aside0.mk hl195_0
             clear hi195_0 hl195_0
             replace p195 := eq_true p195
             replace q195 := eq_true q195
             have p196 : 0 ≤ (x5_2 : Int) := of_decide_eq_true (by first | (with_reducible assumption) | assumption)
             have q196 : x5_2 < ((rd_L6 l0 x11_1).length : Int) := of_decide_eq_true (by first | (with_reducible assumption) | assumption)
             obtain ⟨ad196, e196, hx196_0⟩ := Kd.at_bool HR195_0.out x5_2 p196 q196
             (try rw [← Nbq12.out] at hx196_0)
             cases e196
             replace hx196_0 := (HB.out.cell (World.block_lt_of_cell? w _ hx196_0)).trans hx196_0
             replace p196 := eq_true p196
             replace q196 := eq_true q196
             have hnb15 := NB194_193.out
             have hnc15 := NB193_194.out
             have hcz16_0 := cz BK194 0
             have hcz16_1 := cz BK194 1
             have hfz16_0 := fz BK194 0
             have hfz16_1 := fz BK194 1
             go_wp2_with (first | ((with_reducible refine gate_builtin (b := .append) (xs := #[.tmp 30, .tmp 34]) rfl ?_); at_builtin; refine Kd.R_append k105 (w0 := w) w.heap.size rfl (.tmp 30) (.tmp 34) 31 105 (.agg #[(.int .i64 0), (.int .i64 0)]) 16 rfl Tryd.underlying31 info105 rfl (by decide) (by omega) u195001 x195001_2 (⟨x11_1, x5_2⟩ : S105) [.int .i64 x11_1, .int .i64 x5_2] (fun _ => True) (fun _ => False) rfl rfl ?aP (fun _ hk => hk.elim) ?aF ?aO ?aB ?aS ?aL ?_; (case aP => exact k105_mkM _ _ _ (⟨x11_1, x5_2⟩ : S105)); (case aB => exact hB); (case aF => exact (fun _ _ => trivial)); (case aO => exact (rU HO_195001)); (case aS => exact (below_size hB)); (case aL => have := LMc14.out; omega); intro v198 w17 ho hb hg hat; rw [← Ny197.out] at ho; have n0_ := Aside0.mk (blk_grown (g := gb193) (o := .cells #[.int .i64 0, .slice none 0 0] 33 (0, 0)) bK hg (Kd.R_ne HO_195001.out BK193.out (by decide))); have n1_ := Aside0.mk (blk_grown (g := gb194) (o := .cells #[.int .i64 (l0.length : Int), u195001] 33 (0, 0)) bK hg (Kd.R_ne HO_195001.out BK194.out (by decide))); have n2_ := Aside0.mk (hb); have n3_ := Aside0.mk (ho); clear BK193; clear BK194; clear HB; clear HO_195001; have BK193 := n0_; have BK194 := n1_; have HB := n2_; have HO199 := n3_; clear n0_ n1_ n2_ n3_; clear ho hb hg hat; obtain ⟨Ao18, co18, eo18⟩ := Kd.R_slice HO199.out; subst eo18; have hcz19_0 := cz BK194 0; have hcz19_1 := cz BK194 1; have hfz19_0 := fz BK194 0; have hfz19_1 := fz BK194 1))
             go_roundg k2
             case measure => have := HK1.out; have := HK2.out; omega
             case rel => exact ⟨(wrap64 (x5_2 + 1)), (y197), (.slice Ao18 y197.length co18), (by first | rfl | (simp; done) | (simp [*]; done)), H', ⟨by have := HK1.out; have := HK2.out; omega⟩, ⟨by (with_reducible repeat (first | apply Kd.R_alloc | apply Kd.R_drewN | apply Kd.R_drew)); exact Kd.R_mono (Kd.R_far (p := ⟨gb194, 1, none⟩) (Kd.R_types HO199.out BK194.out (by decide)) (fun _ hk => hk.2) (.slice Ao18 y197.length co18)) (fun _ hk => trivial)⟩, ⟨by (with_reducible repeat (first | refine blk_drewN ?_ _ | refine blk_drew ?_ | refine blk_alloc ?_ _)); refine blk_far ?_ NB193_194.out _; (with_reducible repeat (first | refine blk_drewN ?_ _ | refine blk_drew ?_ | refine blk_alloc ?_ _)); exact BK193.out⟩, ⟨by (with_reducible repeat (first | refine blk_drewN ?_ _ | refine blk_drew ?_ | refine blk_alloc ?_ _)); refine blk_put (cs := #[.int .i64 (l0.length : Int), u195001]) ?_ 1 _ rfl; (with_reducible repeat (first | refine blk_drewN ?_ _ | refine blk_drew ?_ | refine blk_alloc ?_ _)); exact BK194.out⟩, ⟨hB⟩⟩
            ·rw [if_neg c14] at H
             exact absurd H (by simp)
           ·replace c13 := Bool.eq_false_iff.mpr c13
            subst c13
            rw [if_neg (show ¬ (false = true) by decide)] at H
            have H' := Aside0.mk H
            clear H
            have p195 : 0 ≤ (x11_1 : Int) := of_decide_eq_true (by first | (with_reducible assumption) | assumption)
            have q195 : x11_1 < (l0.length : Int) := of_decide_eq_true (by first | (with_reducible assumption) | assumption)
            obtain ⟨ad195, A195_0, c195_0, e195, hx195_0, hl195_0, hi195_0⟩ := at_L6 HR0.out x11_1 p195 q195
            cases e195
            replace hx195_0 := (HB.out.cell (World.block_lt_of_cell? w _ hx195_0)).trans hx195_0
            have HR195_0 := Aside0.mk hi195_0
            have HC195_0 := Aside0.mk hl195_0
            clear hi195_0 hl195_0
            replace p195 := eq_true p195
            replace q195 := eq_true q195
            have p196 : 0 ≤ (x5_2 : Int) := of_decide_eq_true (by first | (with_reducible assumption) | assumption)
            have q196 : x5_2 < ((rd_L6 l0 x11_1).length : Int) := of_decide_eq_true (by first | (with_reducible assumption) | assumption)
            obtain ⟨ad196, e196, hx196_0⟩ := Kd.at_bool HR195_0.out x5_2 p196 q196
            (try rw [← Nbq12.out] at hx196_0)
            cases e196
            replace hx196_0 := (HB.out.cell (World.block_lt_of_cell? w _ hx196_0)).trans hx196_0
            replace p196 := eq_true p196
            replace q196 := eq_true q196
            go_wp2
            go_roundg k2
            case measure => have := HK1.out; have := HK2.out; omega
            case rel => exact ⟨(wrap64 (x5_2 + 1)), (x195001_2), (u195001), (by first | rfl | (simp; done) | (simp [*]; done)), H', ⟨by have := HK1.out; have := HK2.out; omega⟩, ⟨rU HO_195001⟩, ⟨bK⟩, ⟨bK⟩, ⟨hB⟩⟩
          ·rw [if_neg c11] at H
           exact absurd H (by simp)
         ·rw [if_neg c10] at H
          exact absurd H (by simp)
        ·rw [if_neg c9] at H
         exact absurd H (by simp)
       ·rw [if_neg c8] at H
        exact absurd H (by simp)
      ·rw [if_neg c7] at H
       have c7b0 : decide (x5_2 < (l0.length : Int)) = false := decide_eq_false c7
       clear c7
       have H' := Aside0.mk H
       clear H
       go_wp2
       go_roundg k2
       case measure => have := HK1.out; have := HK2.out; omega
       case rel => exact ⟨(wrap64 (x11_1 + 1)), (x195001_2), (u195001), (by first | rfl | (simp; done) | (simp [*]; done)), H', ⟨by have := HK1.out; have := HK2.out; omega⟩, ⟨rU HO_195001⟩, ⟨bK⟩, ⟨bK⟩, ⟨hB⟩⟩
   ·rw [if_neg c6] at H
    have c6b0 : decide (x11_1 < (l0.length : Int)) = false := decide_eq_false c6
    clear c6
    simp only [Option.some.injEq, Prod.mk.injEq] at H
    obtain ⟨rfl, rfl⟩ := H
    have hnb20 := NB194_193.out
    have hnc20 := NB193_194.out
    have hcz21_0 := cz BK194 0
    have hcz21_1 := cz BK194 1
    have hfz21_0 := fz BK194 0
    have hfz21_1 := fz BK194 1
    have hcz22_0 := cz BK193 0
    have hcz22_1 := cz BK193 1
    have hfz22_0 := fz BK193 0
    have hfz22_1 := fz BK193 1
    obtain ⟨Ao23, co23, eo23⟩ := Kd.R_slice HO_195001.out
    subst eo23
    go_wp2
    refine bodyPost_ret (results_cell_row rfl _ _ gb193 33 #[.int .i64 (l0.length : Int), .slice Ao23 x195001_1.length co23] (0, 0) _ rfl (by (with_reducible repeat (first | refine blk_drewN ?_ _ | refine blk_drew ?_ | refine blk_alloc ?_ _)); refine blk_put (cs := #[.int .i64 (l0.length : Int), .slice none 0 0]) ?_ 1 _ rfl; (with_reducible repeat (first | refine blk_drewN ?_ _ | refine blk_drew ?_ | refine blk_alloc ?_ _)); refine blk_put (cs := #[.int .i64 0, .slice none 0 0]) ?_ 0 _ rfl; (with_reducible repeat (first | refine blk_drewN ?_ _ | refine blk_drew ?_ | refine blk_alloc ?_ _)); exact BK193.out) Tryd.underlying33 rfl (by kernel_rfl)) rfl ?_
    exact ⟨_, by first | rfl | (simp [errW_none, errW_some] <;> rfl) | (simp [*, errW_none, errW_some] <;> rfl), by (with_reducible repeat (first | apply Kd.R_alloc | apply Kd.R_drewN | apply Kd.R_drew)); exact Kd.R_mono (Kd.R_far (p := ⟨gb193, 1, none⟩) (Kd.R_far (p := ⟨gb193, 0, none⟩) (Kd.R_types HO_195001.out BK193.out (by decide)) (fun _ hk => hk.2) (.int .i64 (l0.length : Int))) (fun _ hk => hk.2) (.slice Ao23 x195001_1.length co23)) (fun _ hk => trivial), hB⟩

end Go.Proofs.YtjpfbkkikcpmhaaDoor.PFnExactAllApart
