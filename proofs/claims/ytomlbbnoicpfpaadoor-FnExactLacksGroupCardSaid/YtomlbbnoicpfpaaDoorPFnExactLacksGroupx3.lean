-- Of this session's own program wip/gen/gen.py (it drives the kit's print): contracts of the functions that the law reaches.
import Derived.Test.YtomlbbnoicpfpaaDoorPFnExactLacksGroupx0
import Derived.Test.YtomlbbnoicpfpaaDoorPFnExactLacksGroupx2
namespace Go.Proofs.YtomlbbnoicpfpaaDoor.PFnExactLacksGroup
open Go.RowKit Go.Proofs.YtomlbbnoicpfpaaDoorW.PrintWords Go.Proofs.YtomlbbnoicpfpaaDoorW.PrintLast Go.Proofs.YtomlbbnoicpfpaaDoorW.PrintMore Go.Proofs.YtomlbbnoicpfpaaDoor.Base
attribute [local go_sem] max2_int min2_int max_two min_two max_three min_three max_four min_four   -- for this text's walks alone
set_option linter.unusedVariables false
set_option linter.unusedSimpArgs false

/-! ### spec_grJoins: function 123 -/
def spec_grJoins.l0 : Nat → List (List Bool) → Int → List Int → Int → Int → Option (Bool)
 | 0, _, _, _, _, _ => none
 | k + 1, x0, x2, x9, x10, x11 => if x11 < x10 then (if 0 ≤ x11 then (if x11 < (x9.length : Int) then (if 0 ≤ x2 then (if x2 < (x0.length : Int) then (if 0 ≤ (rd x9 x11) then (if (rd x9 x11) < ((rd_L4 x0 x2).length : Int) then (if (rdOf false (rd_L4 x0 x2) (rd x9 x11) = true) then (spec_grJoins.l0 k x0 x2 x9 x10 (wrap64 (x11 + 1))) else (some false)) else (none)) else (none)) else (none)) else (none)) else (none)) else (none)) else (some true)
def spec_grJoins.f (k : Nat) (l0 : List (List Bool)) (l1 : List Int) (a2 : Int) : Option (Bool) := spec_grJoins.l0 k l0 a2 l1 (l1.length : Int) 0
theorem spec_grJoins.mono_l : ∀ k, (∀ y0 y1 y2 y3 y4, LeO (spec_grJoins.l0 k y0 y1 y2 y3 y4) (spec_grJoins.l0 (k + 1) y0 y1 y2 y3 y4))
 | 0 => fun _ _ _ _ _ r h => by simp [spec_grJoins.l0] at h
 | k + 1 => by
  have ih0 := spec_grJoins.mono_l k
  ·intro y0 y1 y2 y3 y4
   unfold spec_grJoins.l0
   repeat' first
   | (with_reducible exact ih0 _ _ _ _ _)
   | (with_reducible exact LeO.refl _)
   | (with_reducible exact LeO.none _)
   | (with_reducible refine LeO.ite ?_ ?_)
   | (with_reducible refine LeO.bind ?_ (fun _ => ?_))
   | exact ih0 _ _ _ _ _
   | exact LeO.none _
   | refine LeO.ite ?_ ?_
   | refine LeO.bind ?_ (fun _ => ?_)
theorem spec_grJoins.mono : ∀ a0 a1 a2 k, LeO (spec_grJoins.f k a0 a1 a2) (spec_grJoins.f (k + 1) a0 a1 a2) := by
 intro a0 a1 a2 k
 have ih0 := spec_grJoins.mono_l k
 unfold spec_grJoins.f
 repeat' first
   | (with_reducible exact ih0 _ _ _ _ _)
   | (with_reducible exact LeO.refl _)
   | (with_reducible exact LeO.none _)
   | (with_reducible refine LeO.ite ?_ ?_)
   | (with_reducible refine LeO.bind ?_ (fun _ => ?_))
   | exact ih0 _ _ _ _ _
   | exact LeO.none _
   | refine LeO.ite ?_ ?_
   | refine LeO.bind ?_ (fun _ => ?_)
set_option maxHeartbeats 8000000 in
set_option maxRecDepth 100000 in
theorem spec_grJoins.calls (k : Nat) (A0 : Option Addr) (c0 : Nat) (l0 : List (List Bool)) (A1 : Option Addr) (c1 : Nat) (l1 : List Int) (a2 : Int) (r : Bool) (w : World) (hr0 : Kd.C (Kd.slice 4 Kd.bool) w A0 l0.length l0) (hc0 : l0.length ≤ c0) (hr1 : Kd.C (Kd.int .i64) w A1 l1.length l1) (hc1 : l1.length ≤ c1) (h : spec_grJoins.f k l0 l1 a2 = some r) :
  Calls Tryd.prog 123 #[.slice A0 l0.length c0, .slice A1 l1.length c1, .int .i64 a2] w fun e w' => e = .returned (.bool r) ∧ Drawn0 w w' := by
 have HR0 := Aside0.mk hr0
 have HC0 := Aside0.mk hc0
 clear hr0 hc0
 have HR1 := Aside0.mk hr1
 have HC1 := Aside0.mk hc1
 clear hr1 hc1
 have H : (spec_grJoins.l0 k l0 a2 l1 (l1.length : Int) 0) = some r := h
 clear h
 have H' := Aside0.mk H
 clear H
 go_enter Tryd.func123, Tryd.ntmps123
 go_wp2
 go_loopg [11] k (fun kq v11 w' => ∃ (x11_1 : Int), v11 = .int .i64 x11_1 ∧ Aside0 (spec_grJoins.l0 kq l0 a2 l1 (l1.length : Int) x11_1 = some r) ∧ Aside0 (kq ≤ k) ∧ Drawn0 w w')
 case atStart => exact ⟨(0), (by first | rfl | (simp; done) | (simp [*]; done)), H', ⟨Nat.le_refl _⟩, by repeat (first | exact Drawn0.refl _ | apply Drawn0.step)⟩
 case round =>
  clear H'
  try clear c1
  try clear p2
  obtain ⟨x11_1, rfl, HA, HK1, ⟨m1, rfl⟩⟩ := hrel
  cases gk with
  | zero => exact absurd HA.out (by simp [spec_grJoins.l0])
  | succ k1 =>
   have H := HA.out
   clear HA
   simp only [spec_grJoins.l0] at H
   by_cases c4 : x11_1 < (l1.length : Int)
   ·rw [if_pos c4] at H
    have c4b0 : decide (x11_1 < (l1.length : Int)) = true := decide_eq_true c4
    clear c4
    by_cases c5 : 0 ≤ x11_1
    ·rw [if_pos c5] at H
     have c5b0 : decide (0 ≤ x11_1) = true := decide_eq_true c5
     clear c5
     by_cases c6 : x11_1 < (l1.length : Int)
     ·rw [if_pos c6] at H
      have c6b0 : decide (x11_1 < (l1.length : Int)) = true := decide_eq_true c6
      clear c6
      by_cases c7 : 0 ≤ a2
      ·rw [if_pos c7] at H
       have c7b0 : decide (0 ≤ a2) = true := decide_eq_true c7
       clear c7
       by_cases c8 : a2 < (l0.length : Int)
       ·rw [if_pos c8] at H
        have c8b0 : decide (a2 < (l0.length : Int)) = true := decide_eq_true c8
        clear c8
        by_cases c9 : 0 ≤ (rd l1 x11_1)
        ·rw [if_pos c9] at H
         have c9b0 : decide (0 ≤ (rd l1 x11_1)) = true := decide_eq_true c9
         clear c9
         by_cases c10 : (rd l1 x11_1) < ((rd_L4 l0 a2).length : Int)
         ·rw [if_pos c10] at H
          have c10b0 : decide ((rd l1 x11_1) < ((rd_L4 l0 a2).length : Int)) = true := decide_eq_true c10
          clear c10
          obtain ⟨bq11, hbq11⟩ : ∃ b_ : Bool, b_ = (rdOf false (rd_L4 l0 a2) (rd l1 x11_1)) := ⟨_, rfl⟩
          replace H : (if (bq11 = true) then (spec_grJoins.l0 k1 l0 a2 l1 (l1.length : Int) (wrap64 (x11_1 + 1))) else (some false)) = some r := by rw [← hbq11] at H; exact H
          have Nbq11 := Aside0.mk hbq11
          clear hbq11
          by_cases c12 : (bq11 = true)
          ·subst c12
           have H1 : (spec_grJoins.l0 k1 l0 a2 l1 (l1.length : Int) (wrap64 (x11_1 + 1))) = some r := by rw [if_pos rfl] at H; exact H
           clear H
           have H := H1
           clear H1
           have H' := Aside0.mk H
           clear H
           have p144 : 0 ≤ (x11_1 : Int) := of_decide_eq_true (by first | (with_reducible assumption) | assumption)
           have q144 : x11_1 < (l1.length : Int) := of_decide_eq_true (by first | (with_reducible assumption) | assumption)
           obtain ⟨ad144, e144, hx144_0⟩ := Kd.at_int HR1.out x11_1 p144 q144
           cases e144
           replace p144 := eq_true p144
           replace q144 := eq_true q144
           have p145 : 0 ≤ (a2 : Int) := of_decide_eq_true (by first | (with_reducible assumption) | assumption)
           have q145 : a2 < (l0.length : Int) := of_decide_eq_true (by first | (with_reducible assumption) | assumption)
           obtain ⟨ad145, A145_0, c145_0, e145, hx145_0, hl145_0, hi145_0⟩ := at_L4 HR0.out a2 p145 q145
           cases e145
           have HR145_0 := Aside0.mk hi145_0
           have HC145_0 := Aside0.mk hl145_0
           clear hi145_0 hl145_0
           replace p145 := eq_true p145
           replace q145 := eq_true q145
           have p146 : 0 ≤ ((rd l1 x11_1) : Int) := of_decide_eq_true (by first | (with_reducible assumption) | assumption)
           have q146 : (rd l1 x11_1) < ((rd_L4 l0 a2).length : Int) := of_decide_eq_true (by first | (with_reducible assumption) | assumption)
           obtain ⟨ad146, e146, hx146_0⟩ := Kd.at_bool HR145_0.out (rd l1 x11_1) p146 q146
           (try rw [← Nbq11.out] at hx146_0)
           cases e146
           replace p146 := eq_true p146
           replace q146 := eq_true q146
           go_wp2
           go_roundg k1
           case measure => have := HK1.out; omega
           case rel => exact ⟨(wrap64 (x11_1 + 1)), (by first | rfl | (simp; done) | (simp [*]; done)), H', ⟨by have := HK1.out; omega⟩, by repeat (first | exact Drawn0.refl _ | apply Drawn0.step)⟩
          ·replace c12 := Bool.eq_false_iff.mpr c12
           subst c12
           have H1 : (some false) = some r := by rw [if_neg (show ¬ (false = true) by decide)] at H; exact H
           clear H
           have H := H1
           clear H1
           obtain rfl := Option.some.inj H
           have p144 : 0 ≤ (x11_1 : Int) := of_decide_eq_true (by first | (with_reducible assumption) | assumption)
           have q144 : x11_1 < (l1.length : Int) := of_decide_eq_true (by first | (with_reducible assumption) | assumption)
           obtain ⟨ad144, e144, hx144_0⟩ := Kd.at_int HR1.out x11_1 p144 q144
           cases e144
           replace p144 := eq_true p144
           replace q144 := eq_true q144
           have p145 : 0 ≤ (a2 : Int) := of_decide_eq_true (by first | (with_reducible assumption) | assumption)
           have q145 : a2 < (l0.length : Int) := of_decide_eq_true (by first | (with_reducible assumption) | assumption)
           obtain ⟨ad145, A145_0, c145_0, e145, hx145_0, hl145_0, hi145_0⟩ := at_L4 HR0.out a2 p145 q145
           cases e145
           have HR145_0 := Aside0.mk hi145_0
           have HC145_0 := Aside0.mk hl145_0
           clear hi145_0 hl145_0
           replace p145 := eq_true p145
           replace q145 := eq_true q145
           have p146 : 0 ≤ ((rd l1 x11_1) : Int) := of_decide_eq_true (by first | (with_reducible assumption) | assumption)
           have q146 : (rd l1 x11_1) < ((rd_L4 l0 a2).length : Int) := of_decide_eq_true (by first | (with_reducible assumption) | assumption)
           obtain ⟨ad146, e146, hx146_0⟩ := Kd.at_bool HR145_0.out (rd l1 x11_1) p146 q146
           (try rw [← Nbq11.out] at hx146_0)
           cases e146
           replace p146 := eq_true p146
           replace q146 := eq_true q146
           go_wp2
           go_ret
           exact ⟨by first | rfl | (simp; done) | (simp [*]; done), by repeat (first | exact Drawn0.refl _ | apply Drawn0.step)⟩
         ·rw [if_neg c10] at H
          exact absurd H (by simp)
        ·rw [if_neg c9] at H
         exact absurd H (by simp)
       ·rw [if_neg c8] at H
        exact absurd H (by simp)
      ·rw [if_neg c7] at H
       exact absurd H (by simp)
     ·rw [if_neg c6] at H
      exact absurd H (by simp)
    ·rw [if_neg c5] at H
     exact absurd H (by simp)
   ·rw [if_neg c4] at H
    have c4b0 : decide (x11_1 < (l1.length : Int)) = false := decide_eq_false c4
    clear c4
    obtain rfl := Option.some.inj H
    go_wp2
    go_ret
    exact ⟨by first | rfl | (simp; done) | (simp [*]; done), by repeat (first | exact Drawn0.refl _ | apply Drawn0.step)⟩

/-! ### spec_grLook: function 95 (a text of this session's own) -/

def spec_grLook.T0 : Bool × List (List Nat × List Nat) := (true, [([], []), ([], []), ([1], [1]), ([2], [2]), ([], []), ([4], [4]), ([5], [5]), ([3, 6, 5], [3, 6]), ([0, 0, 1, 2, 3, 4, 5, 6, 7], [0]), ([8, 7, 7, 0, 1, 2, 3, 4, 5, 6, 7], [7, 8])])
def spec_grLook.B0 : List Nat := [0, 0, 2, 6, 0, 16, 48, 126, 255, 511]
theorem spec_grLook.tab0 : rtab .any (opsOf Tryd.f95 0) = spec_grLook.T0 := by kernel_rfl
theorem spec_grLook.bits0 : waitsOk spec_grLook.T0.2 spec_grLook.B0 = true := by kernel_rfl
mutual
def spec_grLook.l0 : Nat → List (List Bool) → List Int → Int → List (List Int) → Option (List (List Int))
 | 0, _, _, _, _ => none
 | k + 1, t, p, a, xs => if a < (t.length : Int) then ((spec_grJoins.f k t p a).bind fun j => if j = true then ((spec_l1Own.f p).bind fun q => if q.length < 17592186044416 then ((spec_grLook.f k t (q ++ [a]) (wrap64 (a + 1)) xs).bind fun ys => spec_grLook.l0 k t p (wrap64 (a + 1)) ys) else none) else spec_grLook.l0 k t p (wrap64 (a + 1)) xs) else some xs
def spec_grLook.f : Nat → List (List Bool) → List Int → Int → List (List Int) → Option (List (List Int))
 | 0, _, _, _, _ => none
 | k + 1, t, p, a, xs => (spec_l1Own.f p).bind fun q => if xs.length < 5864062014805 then spec_grLook.l0 k t p a (xs ++ [q]) else none
end
theorem spec_grLook.mono_l : ∀ k, (∀ y0 y1 y2 y3, LeO (spec_grLook.l0 k y0 y1 y2 y3) (spec_grLook.l0 (k + 1) y0 y1 y2 y3)) ∧ (∀ y0 y1 y2 y3, LeO (spec_grLook.f k y0 y1 y2 y3) (spec_grLook.f (k + 1) y0 y1 y2 y3))
 | 0 => ⟨fun _ _ _ _ r h => by simp [spec_grLook.l0] at h, fun _ _ _ _ r h => by simp [spec_grLook.f] at h⟩
 | k + 1 => by
  obtain ⟨ih0, ih1⟩ := spec_grLook.mono_l k
  refine ⟨?_, ?_⟩
  · intro y0 y1 y2 y3
    unfold spec_grLook.l0
    repeat' first
      | (with_reducible exact ih0 _ _ _ _)
      | (with_reducible exact ih1 _ _ _ _)
      | (with_reducible exact spec_grJoins.mono _ _ _ _)
      | (with_reducible exact LeO.refl _)
      | (with_reducible exact LeO.none _)
      | (with_reducible refine LeO.ite ?_ ?_)
      | (with_reducible refine LeO.bind ?_ (fun _ => ?_))
  · intro y0 y1 y2 y3
    unfold spec_grLook.f
    repeat' first
      | (with_reducible exact ih0 _ _ _ _)
      | (with_reducible exact LeO.refl _)
      | (with_reducible exact LeO.none _)
      | (with_reducible refine LeO.ite ?_ ?_)
      | (with_reducible refine LeO.bind ?_ (fun _ => ?_))
/-- What a call leaves: the list in its place, and all else that lay there. -/
structure spec_grLook.St (w : World) (base b : Nat) (v : Value) (w' : World) (v' : Value) (ys : List (List Int)) : Prop where
  box : w'.heap[b]? = some (.cells #[v'] 42 (0, 0))
  row : Kd.N (Kd.slice 3 (Kd.int .i64)) 81 w' base (fun k => k ≠ b ∧ base ≤ k) v' ys
  below : Below base w w'
  keep : ∀ k, (k ≠ b ∧ some k ≠ v.ownBlock) → k < w.heap.size → w'.heap[k]? = w.heap[k]?
  at_ : v'.ownBlock = v.ownBlock ∨ ∃ g, v'.ownBlock = some g ∧ w.heap.size ≤ g
section
variable {w w' w'' : World} {base b : Nat} {v v' v'' : Value} {ys zs : List (List Int)}
theorem spec_grLook.St.foot {α : Type} {d : Kd α} {A : Option Addr} {n : Nat} {xs : List α} (s : spec_grLook.St w base b v w' v' ys) (h : Kd.F d w (fun k => k ≠ b ∧ some k ≠ v.ownBlock) A n xs) : Kd.F d w' (fun k => k ≠ b ∧ some k ≠ v'.ownBlock) A n xs := by
  refine Kd.F_mono (Kd.F_step (Kd.F_bound h) (fun k hk hlt => s.keep k hk.1 hlt)) ?_
  rintro k ⟨⟨h1, h2⟩, h3⟩
  refine ⟨h1, ?_⟩
  rcases s.at_ with e | ⟨g, e, hg⟩
  · rw [e]; exact h2
  · rw [e]
    intro hh
    injection hh with hh
    omega
theorem spec_grLook.St.later (s : spec_grLook.St w base b v w' v' ys) (hbase : base ≤ w'.heap.size) (hb : Below w'.heap.size w' w'') : spec_grLook.St w base b v w'' v' ys := by
  have hlt : b < w'.heap.size := (Array.getElem?_eq_some_iff.1 s.box).1
  exact ⟨(hb.block b hlt).trans s.box, Kd.N_below s.row hb, below_then s.below hbase hb, fun k hk hl => (hb.block k (Nat.lt_of_lt_of_le hl s.below.size)).trans (s.keep k hk hl), s.at_⟩
theorem spec_grLook.St.trans (s : spec_grLook.St w base b v w' v' ys) (u : spec_grLook.St w' base b v' w'' v'' zs) : spec_grLook.St w base b v w'' v'' zs := by
  refine ⟨u.box, u.row, s.below.trans u.below, fun k hk hl => ?_, ?_⟩
  · rw [u.keep k ⟨hk.1, ?_⟩ (Nat.lt_of_lt_of_le hl s.below.size), s.keep k hk hl]
    rcases s.at_ with e | ⟨g, e, hg⟩
    · rw [e]; exact hk.2
    · rw [e]
      intro hh
      injection hh with hh
      omega
  · rcases u.at_ with e | ⟨g, e, hg⟩
    · rw [e]; exact s.at_
    · exact .inr ⟨g, e, Nat.le_trans s.below.size hg⟩
end
section
variable {P : Program} {ops : Array Oper} {Q : Exit → Act → World → Prop}
theorem spec_grLook.lit_ {oi : Oper} {a : Act} {w w1 : World} {K : Act → World → Prop} {N : Option Tmp} {v : Value} (hw : Region.wanted oi (yielded ops a.tmps) = true) (hN : oi.dst = N) (hrun : (execOp a.eval oi).run P w = .ok (.value v) w1)
    (h : K (a.put N v) w1) : if Region.wanted oi (yielded ops a.tmps) = true then Oper.wp P oi a w K Q else K (a.put N undef) w := by
  rw [if_pos hw]
  unfold Oper.wp
  rw [hrun]
  show K (a.put oi.dst v) w1
  rw [hN]
  exact h
end
set_option maxHeartbeats 8000000 in
set_option maxRecDepth 100000 in
theorem spec_grLook.calls : ∀ (k : Nat) (A0 : Option Addr) (c0 : Nat) (l0 : List (List Bool)) (A1 : Option Addr) (c1 : Nat) (l1 : List Int) (a2 : Int) (b : Nat) (v : Value) (xs r : List (List Int)) (w : World) (base : Nat)
    (_h0 : Kd.F (Kd.slice 4 Kd.bool) w (fun k => k ≠ b ∧ some k ≠ v.ownBlock) A0 l0.length l0) (_hc0 : l0.length ≤ c0) (_h1 : Kd.F (Kd.int .i64) w (fun k => k ≠ b ∧ some k ≠ v.ownBlock) A1 l1.length l1) (_hc1 : l1.length ≤ c1)
    (_hS : spec_grLook.St w base b v w v xs) (_hbb : base ≤ b) (_hbase : base ≤ w.heap.size) (_h : spec_grLook.f k l0 l1 a2 xs = some r),
    Calls Tryd.prog 95 #[.slice A0 l0.length c0, .slice A1 l1.length c1, .int .i64 a2, .pointer (some ⟨b, 0, none⟩)] w fun e w' => e = .returned (.tuple #[]) ∧ ∃ v', spec_grLook.St w base b v w' v' r := by
  intro k
  induction k using Nat.strongRecOn with
  | ind k ih =>
    intro A0 c0 l0 A1 c1 l1 a2 b v xs r w base h0 hc0 h1 hc1 hS hbb hbase h
    cases k with
    | zero => simp [spec_grLook.f] at h
    | succ k =>
      simp only [spec_grLook.f] at h
      replace h := Option.bind_eq_some_iff.mp h
      obtain ⟨q, hq, h⟩ := h
      by_cases hx : xs.length < 5864062014805
      · rw [if_pos hx] at h
        obtain ⟨Av, cv, rfl⟩ := Kd.N_slice hS.row
        have HS := Aside0.mk hS
        have H0 := Aside0.mk h0
        have H1 := Aside0.mk h1
        have HQ := Aside0.mk hq
        have HL := Aside0.mk h
        have LX := Aside0.mk hx
        clear hS h0 h1 hq h hx
        go_enter Tryd.func95, Tryd.ntmps95
        try go_wp2
        refine start_ (n := 10) (S := fun w' => w'.cell? ⟨b, 0, none⟩ = some (.slice Av xs.length cv)) (ds := [9]) (bz 10 0) (by kernel_rfl) rfl rfl ((blk_cell HS.out.box 0).trans rfl) (fun hHeld => ?_)
        refine with_tabW spec_grLook.tab0 spec_grLook.bits0 (fun HT_ HW_ => ?_)
        have n0_ := Aside0.mk (HS.out.later hbase (below_drew (Below.refl w.heap.size w)))
        have n1_ := Aside0.mk (Kd.F_drew H1.out)
        have hbase1 : base ≤ w.drew.heap.size := hbase
        have hw1 : w.drew.heap = w.heap := rfl
        generalize w.drew = w1 at n0_ n1_ hbase1 hw1 hHeld ⊢
        refine run_ [(0, 0, 1, some 9), (0, 1, 3, some 10), (0, 2, 7, some 11), (1, 3, 15, some 12), (0, 4, 31, some 13)] ?_
        repeat (first | (apply tag0; refine run_p (v := ?_) (a' := ?_) rfl rfl (any_of HT_.out (by kernel_rfl)) (fun _ _ _ h => h) (by rfl) ?_ ?_ ?_; rotate_left 2; (intro w'; go_simp; with_reducible rfl); (first | (simp only [Act.put, List.setIfInBounds_toArray, List.set_cons_zero, List.set_cons_succ, i64_w, i32_w]; rfl) | rfl)) | (apply tag1; refine run_t (v := ?_) (a' := ?_) rfl rfl (take_ofW HT_.out HW_.out (by kernel_rfl)) (fun _ _ _ h => h) (by rfl) ?_ hHeld ?_ ?_; rotate_left 2; (intro w' s0; go_simp; with_reducible rfl); (first | (simp only [Act.put, List.setIfInBounds_toArray, List.set_cons_zero, List.set_cons_succ, i64_w, i32_w]; rfl) | rfl)))
        refine run_nil ?_
        refine one_ (i := 5) (N := some 14) (bz 10 63) rfl rfl (one_of HT_.out (by kernel_rfl)) (by decide) (fun K hK => ?_)
        refine goes_ Tryd.func119 (by kernel_rfl) rfl #[.slice A1 l1.length c1] (by rfl) rfl rfl mapT ?_
        refine (spec_l1Own.calls A1 c1 l1 q _ (Kd.F_now n1_.out) hc1 HQ.out).mono ?_
        rintro e w2 ⟨v1, rfl, ho, hb⟩
        refine ⟨_, rfl, ?_⟩
        have S2 := Aside0.mk (n0_.out.later hbase1 hb)
        have HO2 := Aside0.mk ho
        have hbase2 : base ≤ w2.heap.size := Nat.le_trans hbase1 hb.size
        have hsz2 : w.heap.size ≤ w2.heap.size := by rw [← hw1]; exact hb.size
        have hsz12 : w1.heap.size ≤ w2.heap.size := hb.size
        have hr2 : ∀ k, v1.ownBlock = some k → w1.heap.size ≤ k := Kd.R_base ho
        clear n0_ n1_ ho hb
        obtain ⟨Ao, co, rfl⟩ := Kd.R_slice HO2.out
        refine hK.out _ _ ((blk_cell S2.out.box 0).trans rfl) (fun hHeld => ?_)
        clear hK K
        refine norm_ (a' := ?_) ?_ ?_
        rotate_left
        · show Act.put _ (some 14) _ = _
          simp only [Act.put, List.setIfInBounds_toArray, List.set_cons_zero, List.set_cons_succ, i64_w, i32_w]
          rfl
        refine one_ (i := 6) (N := some 15) (bz 10 127) rfl rfl (one_of HT_.out (by kernel_rfl)) (by decide) (fun K hK => ?_)
        refine spec_grLook.lit_ (v := .slice (some ⟨w2.heap.size, 0, none⟩) 1 1) (w1 := w2.alloc (.cells [(.slice Ao q.length co : Value)].toArray 81)) (by rfl) rfl (by first | (go_simp; done) | (go_simp; rfl)) ?_
        refine hK.out _ _ ((blk_cell (blk_alloc S2.out.box _) 0).trans rfl) (fun hHeld => ?_)
        clear hK K
        refine norm_ (a' := ?_) ?_ ?_
        rotate_left
        · show Act.put _ (some 15) _ = _
          simp only [Act.put, List.setIfInBounds_toArray, List.set_cons_zero, List.set_cons_succ, i64_w, i32_w]
          rfl
        refine one_ (i := 7) (N := some 16) (bz 10 255) rfl rfl (one_of HT_.out (by kernel_rfl)) (by decide) (fun K hK => ?_)
        have hblt : b < w1.heap.size := by rw [hw1]; exact (Array.getElem?_eq_some_iff.1 HS.out.box).1
        refine Kd.N_append_step (Kd.slice 3 (Kd.int .i64)) (w0 := w) base (by rfl) (.tmp 12) (.tmp 15) 42 81 (.slice none 0 0) 24 rfl Tryd.underlying42 info81 rfl (by decide) (by omega) (.slice Av xs.length cv) xs q [.slice Ao q.length co] (fun k => k ≠ b ∧ base ≤ k) (fun k => (k ≠ b ∧ base ≤ k) ∧ some k ≠ (.slice Av xs.length cv : Value).ownBlock) rfl rfl ?aP (fun _ hk => hk) ?aF ?aO ?aB ?aS ?aL ?_
        case aP =>
          refine Kd.FK_slice_mk (Kd.R_reads' HO2.out).2.1 (Kd.R_F (Kd.R_mono (Kd.R_bound HO2.out) ?_))
          rintro k ⟨_, hk, _⟩
          refine ⟨⟨by omega, by omega⟩, fun he => ?_⟩
          have := Kd.N_lt HS.out.row k he.symm
          rw [← hw1] at this
          omega
        case aF => exact fun k hk => ⟨by omega, by omega⟩
        case aO => exact S2.out.row
        case aB => exact S2.out.below
        case aS => exact hbase2
        case aL => have := LX.out; omega
        intro v3 w3 ho hb hg hat
        have BX3 : w3.heap[b]? = some (.cells #[.slice Av xs.length cv] 42 (0, 0)) := (hg.block b (by omega) (Kd.N_away HS.out.row (fun _ hk => hk.1))).trans S2.out.box
        obtain ⟨A3, c3, e3⟩ := Kd.N_slice ho
        obtain ⟨n3, hn3⟩ : ∃ n, n = (xs ++ [q]).length := ⟨_, rfl⟩
        rw [← hn3] at e3
        subst e3
        clear hn3
        have S4 := Aside0.mk (show spec_grLook.St w base b (.slice Av xs.length cv) (w3.setCell ⟨b, 0, none⟩ (.slice A3 n3 c3)) (.slice A3 n3 c3) (xs ++ [q]) from
          ⟨blk_set BX3 0 _, Kd.N_far ho (fun _ hk => hk.1) _, hb.setCell hbb _, fun k hk hl => (Below.heap_setCell w3 ⟨b, 0, none⟩ _ k hk.1).trans ((hg.block k (Nat.lt_of_lt_of_le hl hsz2) hk.2).trans (S2.out.keep k hk hl)), by
            rcases hat with e | ⟨g, e, hg⟩
            · exact .inl e
            · exact .inr ⟨g, e, Nat.le_trans hsz2 hg⟩⟩)
        have BK3 := Aside0.mk BX3
        clear ho hb hg hat
        refine hK.out _ _ ((blk_cell BX3 0).trans rfl) (fun hHeld => ?_)
        clear hK K
        refine norm_ (a' := ?_) ?_ ?_
        rotate_left
        · show Act.put _ (some 16) _ = _
          simp only [Act.put, List.setIfInBounds_toArray, List.set_cons_zero, List.set_cons_succ, i64_w, i32_w]
          rfl
        refine run_ [(0, 8, 511, some 17)] ?_
        repeat ((apply tag0; refine run_p (v := ?_) (a' := ?_) rfl rfl (any_of HT_.out (by kernel_rfl)) (fun _ _ _ h => h) (by rfl) ?_ ?_ ?_; rotate_left 2; (intro w'; go_simp; with_reducible rfl); (first | (simp only [Act.put, List.setIfInBounds_toArray, List.set_cons_zero, List.set_cons_succ, i64_w, i32_w]; rfl) | rfl)))
        refine run_nil ?_
        refine last_ (i := 9) (N := none) (bz 10 1023) rfl rfl (one_of HT_.out (by kernel_rfl)) (by decide) (fun K hK => ?_)
        have hs9 : w3.cell? ⟨b, 0, none⟩ = some (.slice Av xs.length cv) := (blk_cell BK3.out 0).trans rfl
        have hf9 := blk_frozen BK3.out 0
        refine skip_ (w1 := ?_) (by rfl) rfl ?_ ?_
        rotate_left
        · go_simp
          rfl
        refine hK.out _ _ ?_
        clear hK K
        refine done_ (done_of HT_.out (by kernel_rfl)) ?_
        clear hs9 hf9 BX3 BK3 HT_ HW_ hHeld
        generalize w3.setCell ⟨b, 0, none⟩ (.slice A3 n3 c3) = w4 at S4 ⊢
        go_wp2
        go_loopg [8] k (fun kq v8 w' => ∃ (x : Int) (ys : List (List Int)) (v' : Value), v8 = .int .i64 x ∧ Aside0 (spec_grLook.l0 kq l0 l1 x ys = some r) ∧ Aside0 (kq ≤ k) ∧ Aside0 (spec_grLook.St w base b (.slice Av xs.length cv) w' v' ys))
        case atStart => exact ⟨a2, xs ++ [q], _, rfl, HL, ⟨Nat.le_refl _⟩, S4⟩
        case round =>
          obtain ⟨x, ys, v', rfl, HA, HK1, HS4⟩ := hrel
          cases gk with
          | zero => exact absurd HA.out (by simp [spec_grLook.l0])
          | succ k1 =>
            have H := HA.out
            clear HA S4
            simp only [spec_grLook.l0] at H
            have hbr : base ≤ wr.heap.size := Nat.le_trans hbase HS4.out.below.size
            have hbl : b < wr.heap.size := (Array.getElem?_eq_some_iff.1 HS4.out.box).1
            by_cases c1_ : x < (l0.length : Int)
            · rw [if_pos c1_] at H
              have c1b : decide (x < (l0.length : Int)) = true := decide_eq_true c1_
              clear c1_
              replace H := Option.bind_eq_some_iff.mp H
              obtain ⟨j, hj, H⟩ := H
              have F0 := Aside0.mk (HS4.out.foot H0.out)
              have F1 := Aside0.mk (HS4.out.foot H1.out)
              have HJ := Aside0.mk hj
              clear hj
              cases j with
              | true =>
                rw [if_pos rfl] at H
                replace H := Option.bind_eq_some_iff.mp H
                obtain ⟨q2, hq2, H⟩ := H
                by_cases c2_ : q2.length < 17592186044416
                · rw [if_pos c2_] at H
                  replace H := Option.bind_eq_some_iff.mp H
                  obtain ⟨ys2, hy, H⟩ := H
                  obtain ⟨y2, hy2⟩ : ∃ y_ : List Int, y_ = q2 ++ [x] := ⟨_, rfl⟩
                  rw [← hy2] at hy
                  have NY := Aside0.mk hy2
                  have HQ2 := Aside0.mk hq2
                  have HN := Aside0.mk H
                  have L2 := Aside0.mk c2_
                  have HREC := Aside0.mk (fun (A6 : Option Addr) (c6 : Nat) (w6 : World) (hb : Below wr.heap.size wr w6) (ho : Kd.R (Kd.int .i64) 3 w6 wr.heap.size (fun k_ => wr.heap.size ≤ k_) (.slice A6 y2.length c6) y2) =>
                    ih k1 (by have := HK1.out; omega) A0 c0 l0 A6 c6 y2 (wrap64 (x + 1)) b v' ys ys2 w6 base (Kd.F_below F0.out hb) hc0 (Kd.R_F (Kd.R_mono ho (fun k_ hk => ⟨by omega, fun he => by have := Kd.N_lt HS4.out.row k_ he.symm; omega⟩))) (Kd.R_reads' ho).2.1 ⟨(HS4.out.later hbr hb).box, (HS4.out.later hbr hb).row, Below.refl _ _, fun _ _ _ => rfl, .inl rfl⟩ hbb (Nat.le_trans hbr hb.size) hy)
                  clear hq2 hy H c2_ hy2
                  go_wp2_with (first
                    | (go_at_call 123; refine (spec_grJoins.calls k1 A0 c0 l0 A1 c1 l1 x true _ (Kd.F_now F0.out) hc0 (Kd.F_now F1.out) hc1 HJ.out).mono ?_; rintro e w' ⟨rfl, ⟨nd, rfl⟩⟩)
                    | (go_at_call 119; refine (spec_l1Own.calls A1 c1 l1 q2 _ (Kd.F_now (Kd.F_drewN F1.out _)) hc1 HQ2.out).mono ?_; rintro e w5 ⟨v5, rfl, ho, hb⟩; have HO5 := Aside0.mk ho; have HB5 := Aside0.mk (below_then (pw_below_drewN (Below.refl wr.heap.size wr) _) (Nat.le_refl _) hb); clear ho hb)
                    | ((with_reducible refine gate_builtin (b := .append) (xs := #[.tmp 31, .tmp 33]) rfl ?_); at_builtin; refine Kd.R_append (Kd.int .i64) (w0 := wr) wr.heap.size rfl (.tmp 31) (.tmp 33) 81 3 (.int .i64 0) 8 rfl Tryd.underlying81 info3 rfl (by decide) (by omega) v5 q2 x [.int .i64 x] (fun k_ => (wr.heap.size ≤ k_)) (fun _ => False) rfl rfl ?aP (fun _ hk => hk.elim) ?aF ?aO ?aB ?aS ?aL ?_; (case aP => exact rfl); (case aB => exact HB5.out); (case aF => exact (fun k_ hk => Nat.le_trans HB5.out.size hk)); (case aO => exact (Kd.R_mono (Kd.R_bound HO5.out) (fun _ hk => hk.2.1))); (case aS => exact HB5.out.size); (case aL => have := L2.out; omega); intro v6 w6 ho hb hg hat; rw [← NY.out] at ho; have HO6 := Aside0.mk ho; have HB6 := Aside0.mk hb; clear ho hb hg hat; obtain ⟨A6, c6, rfl⟩ := Kd.R_slice HO6.out)
                    | (go_at_call 95; refine (HREC.out _ _ _ HB6.out HO6.out).mono ?_; rintro e w7 ⟨rfl, v7, s7⟩; have HS7 := Aside0.mk ((HS4.out.later hbr HB6.out).trans s7); clear s7))
                  go_roundg k1
                  case measure => have := HK1.out; omega
                  case rel => exact ⟨wrap64 (x + 1), ys2, v7, by first | rfl | (simp; done), HN, ⟨by have := HK1.out; omega⟩, HS7⟩
                · rw [if_neg c2_] at H; cases H
              | false =>
                rw [if_neg (by simp)] at H
                have HN := Aside0.mk H
                clear H
                go_wp2_with (go_at_call 123; refine (spec_grJoins.calls k1 A0 c0 l0 A1 c1 l1 x false _ (Kd.F_now F0.out) hc0 (Kd.F_now F1.out) hc1 HJ.out).mono ?_; rintro e w' ⟨rfl, ⟨nd, rfl⟩⟩)
                go_roundg k1
                case measure => have := HK1.out; omega
                case rel => exact ⟨wrap64 (x + 1), ys, v', by first | rfl | (simp; done), HN, ⟨by have := HK1.out; omega⟩, ⟨HS4.out.later hbr (pw_below_drewN (Below.refl _ _) _)⟩⟩
            · rw [if_neg c1_] at H
              have c1b : decide (x < (l0.length : Int)) = false := decide_eq_false c1_
              clear c1_
              obtain rfl := Option.some.inj H
              go_wp2
              first | go_end0 | ((try simp only [Exit.inBlock, Exit.then]); refine bodyPost_ret (results_none rfl _ _ _) rfl ?_)
              exact ⟨rfl, v', HS4.out⟩
      · rw [if_neg hx] at h; cases h

/-! ### spec_grGroups: function 52 (a text of this session's own) -/
def spec_grGroups.f (k : Nat) (l0 : List (List Bool)) : Option (List (List Int)) := spec_grLook.f k l0 [] 0 []
theorem spec_grGroups.mono : ∀ a0 k, LeO (spec_grGroups.f k a0) (spec_grGroups.f (k + 1) a0) := fun a0 k => (spec_grLook.mono_l k).2 a0 [] 0 []
set_option maxHeartbeats 4000000 in
set_option maxRecDepth 100000 in
theorem spec_grGroups.calls (k : Nat) (A0 : Option Addr) (c0 : Nat) (l0 : List (List Bool)) (r : List (List Int)) (w : World) (hr0 : Kd.C (Kd.slice 4 Kd.bool) w A0 l0.length l0) (hc0 : l0.length ≤ c0) (h : spec_grGroups.f k l0 = some r) :
    Calls Tryd.prog 52 #[.slice A0 l0.length c0] w fun e w' => ∃ v0_ : Value, e = .returned (v0_) ∧ Kd.N (Kd.slice 3 (Kd.int .i64)) 81 w' w.heap.size (fun k_ => w.heap.size ≤ k_) v0_ r ∧ Below w.heap.size w w' := by
  have hF : Kd.F (Kd.slice 4 Kd.bool) w (fun k => k < w.heap.size) A0 l0.length l0 := Kd.C_F (Kd.heap_slice _ Kd.heap_bool) hr0
  have HF := Aside0.mk hF
  have HH := Aside0.mk h
  clear hr0 h hF
  go_enter Tryd.func52, Tryd.ntmps52
  go_wp2_with (first
    | ((with_reducible refine gate_dst (N := 3) rfl ?_); refine box_event ?hg (N := 3) ?hd (cs := #[.slice none 0 0]) (t := 42) ?hr ?_; (case hd => rfl); (case hg => rfl); (case hr => first | (go_simp; done) | (go_simp; rfl)); intro gb hg w3 hbox hb; have HB := Aside0.mk hb; have BK := Aside0.mk hbox; have HG := Aside0.mk hg; clear hb hbox hg)
    | (go_at_call 95; refine (spec_grLook.calls k A0 c0 l0 none 0 [] 0 gb (.slice none 0 0) [] r _ w.heap.size (Kd.F_mono (Kd.F_below HF.out HB.out) (fun k_ hk => ⟨by have := HG.out; omega, by simp [Value.ownBlock]⟩)) hc0 (Kd.F_nil _ _ _) (Nat.le_refl _) ⟨BK.out, Kd.N_nil _ _ _ _ _, Below.refl _ _, fun _ _ _ => rfl, .inl rfl⟩ (by have := HG.out; omega) HB.out.size HH.out).mono ?_; rintro e w4 ⟨rfl, v4, s4⟩; have S4 := Aside0.mk s4; clear s4; obtain ⟨A4, c4, rfl⟩ := Kd.N_slice S4.out.row; have hs4 : w4.cell? ⟨gb, 0, none⟩ = some (.slice A4 r.length c4) := (blk_cell S4.out.box 0).trans rfl))
  go_ret
  exact ⟨_, rfl, Kd.N_mono S4.out.row (fun _ hk => hk.2), HB.out.trans S4.out.below⟩

end Go.Proofs.YtomlbbnoicpfpaaDoor.PFnExactLacksGroup
