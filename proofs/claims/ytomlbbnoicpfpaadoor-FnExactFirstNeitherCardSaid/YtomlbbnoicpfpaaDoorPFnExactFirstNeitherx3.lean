-- Of this session's own program wip/gen/gen.py (it drives the kit's print): contracts of the functions that the law reaches.
import Derived.Test.YtomlbbnoicpfpaaDoorPFnExactFirstNeitherx0
import Derived.Test.YtomlbbnoicpfpaaDoorPFnExactFirstNeitherx1
import Derived.Test.YtomlbbnoicpfpaaDoorPFnExactFirstNeitherx2
namespace Go.Proofs.YtomlbbnoicpfpaaDoor.PFnExactFirstNeither
open Go.RowKit Go.Proofs.YtomlbbnoicpfpaaDoorW.PrintWords Go.Proofs.YtomlbbnoicpfpaaDoorW.PrintLast Go.Proofs.YtomlbbnoicpfpaaDoorW.PrintMore Go.Proofs.YtomlbbnoicpfpaaDoor.Base
attribute [local go_sem] max2_int min2_int max_two min_two max_three min_three max_four min_four   -- for this text's walks alone
set_option linter.unusedVariables false
set_option linter.unusedSimpArgs false

/-! ### spec_trGroups: function 89 -/
mutual
def spec_trGroups.j0 : Nat → List (List Bool) → List Int → Int → Int → Option ((List (List Int)))
 | 0, _, _, _, _ => none
 | k + 1, x0, x1, x2, x7 => spec_trGroups.l0 k x0 x1 x2 ([] : List (List Int)) x7
def spec_trGroups.l0 : Nat → List (List Bool) → List Int → Int → List (List Int) → Int → Option ((List (List Int)))
 | 0, _, _, _, _, _ => none
 | k + 1, x0, x1, x2, x8, x9 => if x9 < (x0.length : Int) then ((spec_trKnows.f k x0 x1 x9).bind fun t166 => (if t166 = true then ((spec_l1Own.f x1).bind fun t167 => (if t167.length < 17592186044416 then ((spec_trGroups.f k x0 (t167 ++ [x9]) x2).bind fun t173 => (if x8.length + t173.length < 5864062014805 then (spec_trGroups.l0 k x0 x1 x2 (x8 ++ t173) (wrap64 (x9 + 1))) else (none))) else (none))) else (spec_trGroups.l0 k x0 x1 x2 x8 (wrap64 (x9 + 1))))) else (some x8)
def spec_trGroups.f : Nat → List (List Bool) → List Int → Int → Option ((List (List Int)))
 | 0, _, _, _ => none
 | k + 1, l0, l1, a2 => if (l1.length : Int) = a2 then ((spec_l1Own.f l1).bind fun t159 => (some (([t159] : List (List Int))))) else (if (l1.length : Int) > 0 then (if 0 ≤ (wrap64 ((l1.length : Int) - 1)) then (if (wrap64 ((l1.length : Int) - 1)) < (l1.length : Int) then (spec_trGroups.j0 k l0 l1 a2 (wrap64 ((rd l1 (wrap64 ((l1.length : Int) - 1))) + 1))) else (none)) else (none)) else (spec_trGroups.j0 k l0 l1 a2 0))
end
theorem spec_trGroups.mono_l : ∀ k, (∀ y0 y1 y2, LeO (spec_trGroups.f k y0 y1 y2) (spec_trGroups.f (k + 1) y0 y1 y2)) ∧ (∀ y0 y1 y2 y3, LeO (spec_trGroups.j0 k y0 y1 y2 y3) (spec_trGroups.j0 (k + 1) y0 y1 y2 y3)) ∧ (∀ y0 y1 y2 y3 y4, LeO (spec_trGroups.l0 k y0 y1 y2 y3 y4) (spec_trGroups.l0 (k + 1) y0 y1 y2 y3 y4))
 | 0 => ⟨fun _ _ _ r h => by simp [spec_trGroups.f] at h, fun _ _ _ _ r h => by simp [spec_trGroups.j0] at h, fun _ _ _ _ _ r h => by simp [spec_trGroups.l0] at h⟩
 | k + 1 => by
  obtain ⟨ih0, ih1, ih2⟩ := spec_trGroups.mono_l k
  refine ⟨?_, ?_, ?_⟩
  ·intro y0 y1 y2
   unfold spec_trGroups.f
   repeat' first
   | (with_reducible exact ih0 _ _ _)
   | (with_reducible exact ih1 _ _ _ _)
   | (with_reducible exact ih2 _ _ _ _ _)
   | (with_reducible exact spec_trKnows.mono _ _ _ _)
   | (with_reducible exact LeO.refl _)
   | (with_reducible exact LeO.none _)
   | (with_reducible refine LeO.ite ?_ ?_)
   | (with_reducible refine LeO.bind ?_ (fun _ => ?_))
   | exact ih0 _ _ _
   | exact ih1 _ _ _ _
   | exact ih2 _ _ _ _ _
   | exact spec_trKnows.mono _ _ _ _
   | exact LeO.none _
   | refine LeO.ite ?_ ?_
   | refine LeO.bind ?_ (fun _ => ?_)
  ·intro y0 y1 y2 y3
   unfold spec_trGroups.j0
   repeat' first
   | (with_reducible exact ih0 _ _ _)
   | (with_reducible exact ih1 _ _ _ _)
   | (with_reducible exact ih2 _ _ _ _ _)
   | (with_reducible exact spec_trKnows.mono _ _ _ _)
   | (with_reducible exact LeO.refl _)
   | (with_reducible exact LeO.none _)
   | (with_reducible refine LeO.ite ?_ ?_)
   | (with_reducible refine LeO.bind ?_ (fun _ => ?_))
   | exact ih0 _ _ _
   | exact ih1 _ _ _ _
   | exact ih2 _ _ _ _ _
   | exact spec_trKnows.mono _ _ _ _
   | exact LeO.none _
   | refine LeO.ite ?_ ?_
   | refine LeO.bind ?_ (fun _ => ?_)
  ·intro y0 y1 y2 y3 y4
   unfold spec_trGroups.l0
   repeat' first
   | (with_reducible exact ih0 _ _ _)
   | (with_reducible exact ih1 _ _ _ _)
   | (with_reducible exact ih2 _ _ _ _ _)
   | (with_reducible exact spec_trKnows.mono _ _ _ _)
   | (with_reducible exact LeO.refl _)
   | (with_reducible exact LeO.none _)
   | (with_reducible refine LeO.ite ?_ ?_)
   | (with_reducible refine LeO.bind ?_ (fun _ => ?_))
   | exact ih0 _ _ _
   | exact ih1 _ _ _ _
   | exact ih2 _ _ _ _ _
   | exact spec_trKnows.mono _ _ _ _
   | exact LeO.none _
   | refine LeO.ite ?_ ?_
   | refine LeO.bind ?_ (fun _ => ?_)
theorem spec_trGroups.mono : ∀ a0 a1 a2 k, LeO (spec_trGroups.f k a0 a1 a2) (spec_trGroups.f (k + 1) a0 a1 a2) := by
 intro a0 a1 a2 k
 obtain ⟨ih0, ih1, ih2⟩ := spec_trGroups.mono_l k
 exact ih0 a0 a1 a2
set_option maxHeartbeats 8000000 in
set_option maxRecDepth 100000 in
theorem spec_trGroups.calls (k : Nat) : ∀ (A0 : Option Addr) (c0 : Nat) (l0 : List (List Bool)) (A1 : Option Addr) (c1 : Nat) (l1 : List Int) (a2 : Int) (r : List (List Int)) (w : World) (hr0 : Kd.C (Kd.slice 4 Kd.bool) w A0 l0.length l0) (hc0 : l0.length ≤ c0) (hr1 : Kd.C (Kd.int .i64) w A1 l1.length l1) (hc1 : l1.length ≤ c1) (h : spec_trGroups.f k l0 l1 a2 = some r),
  Calls Tryd.prog 89 #[.slice A0 l0.length c0, .slice A1 l1.length c1, .int .i64 a2] w fun e w' => ∃ v0_ : Value, e = .returned (v0_) ∧ Kd.N (Kd.slice 3 (Kd.int .i64)) 81 w' w.heap.size (fun k_ => (w.heap.size ≤ k_)) v0_ r ∧ Below w.heap.size w w' := by
 induction k using Nat.strongRecOn with
 | _ k ih =>
 intro A0 c0 l0 A1 c1 l1 a2 r w hr0 hc0 hr1 hc1 h
 cases k with
 | zero => exact absurd h (by simp [spec_trGroups.f])
 | succ k =>
 simp only [spec_trGroups.f] at h
 have HR0 := Aside0.mk hr0
 have HC0 := Aside0.mk hc0
 clear hr0 hc0
 have HR1 := Aside0.mk hr1
 have HC1 := Aside0.mk hc1
 clear hr1 hc1
 have HB := Aside0.mk (Below.refl w.heap.size w)
 have H : (if (l1.length : Int) = a2 then ((spec_l1Own.f l1).bind fun t159 => (some (([t159] : List (List Int))))) else (if (l1.length : Int) > 0 then (if 0 ≤ (wrap64 ((l1.length : Int) - 1)) then (if (wrap64 ((l1.length : Int) - 1)) < (l1.length : Int) then (spec_trGroups.j0 k l0 l1 a2 (wrap64 ((rd l1 (wrap64 ((l1.length : Int) - 1))) + 1))) else (none)) else (none)) else (spec_trGroups.j0 k l0 l1 a2 0))) = some r := h
 clear h
 by_cases c4 : (l1.length : Int) = a2
 ·rw [if_pos c4] at H
  have c4b0 : ((l1.length : Int) == a2) = true := beq_iff_eq.mpr c4
  have c4b1 : ((l1.length : Int) != a2) = false := bne_eq_false_iff_eq.mpr c4
  clear c4
  replace H := Option.bind_eq_some_iff.mp H
  obtain ⟨t159, A50, H⟩ := H
  replace H : (some (([t159] : List (List Int)))) = some r := H
  have A5 := Aside0.mk A50
  clear A50
  obtain ⟨y162, hy162⟩ : ∃ y_ : List (List Int), y_ = (([t159] : List (List Int))) := ⟨_, rfl⟩
  replace H : (some y162) = some r := by first | (rw [hy162]; with_reducible exact H) | (have H2_ := (Option.bind_some _ _).symm.trans H; rw [hy162]; with_reducible exact H2_) | (have H2_ := (Option.bind_some _ _).symm.trans H; with_reducible exact H2_) | with_reducible exact H | (rw [hy162]; exact H) | exact H
  have Ny162 := Aside0.mk hy162
  clear hy162
  obtain rfl := Option.some.inj H
  go_enter Tryd.func89, Tryd.ntmps89
  go_wp2_with (first | ((with_reducible refine gate_callee (f := 119) rfl ?_); refine goesL_ (some 15) rfl rfl Tryd.func119 (by kernel_rfl) rfl #[.slice A1 l1.length c1] rfl mapT ?_; (with_reducible refine (spec_l1Own.calls _ _ l1 t159 _ ?side1 ?side2 A5.out).mono ?_); (case side1 => repeat (first | exact HR1.out | (with_reducible refine Kd.C_alloc ?_ _) | (with_reducible refine Kd.C_drewN ?_ _) | (with_reducible refine Kd.C_drew ?_))); (case side2 => exact HC1.out); rintro e w6 ⟨v160, rfl, ho0, hb⟩; refine ⟨_, rfl, ?_⟩; have n0_ := Aside0.mk (Kd.R_lower (Kd.R_newM (M := fun k_ => (w.heap.size ≤ k_)) ho0 (below_size hB) (fun k_ h_ => h_)) (below_size hB)); have n1_ := hS HB hb; clear HB; have HO161 := n0_; have HB := n1_; clear n0_ n1_; (try clear hb); (try clear hb2); (try clear hk); (try clear hi); (try clear ho0); obtain ⟨Ao7, co7, eo7⟩ := Kd.R_slice HO161.out; subst eo7) | ((with_reducible refine gate_dst (N := 16) rfl ?_); refine Kd.N_lit (Kd.slice 3 (Kd.int .i64)) _ 81 ?hg (N' := 16) ?hd (xs := ([t159] : List (List Int))) (inner := [.slice Ao7 t159.length co7]) (ok := (fun k_ => (w.heap.size ≤ k_))) (okp := (fun k_ => (w.heap.size ≤ k_))) ?hr ?hp (fun _ hk => hk) ((show ∀ k_, w6.heap.size ≤ k_ → (fun k_ => (w.heap.size ≤ k_)) k_ from fun k_ hk => (Nat.le_trans (below_size hB) hk)) _ (Nat.le_refl _)) (Below.refl _ _) (Nat.le_refl _) (by simp) ?_; (case hd => rfl); (case hg => rfl); (case hr => first | (go_simp; done) | (go_simp; rfl)); (case hp => exact (Reps.one (show Kd.FK (Kd.slice 3 (Kd.int .i64)) _ _ t159 [.slice Ao7 t159.length co7] from (Kd.FK_slice_mk (Kd.R_reads' (Kd.R_mono (ok' := (fun k_ => (w.heap.size ≤ k_))) (HO161.out) (fun k_ hk => hk.1))).2.1 (Kd.R_F (Kd.R_mono (ok' := (fun k_ => (w.heap.size ≤ k_))) (HO161.out) (fun k_ hk => hk.1))))) (Reps.none _ _))); intro v163 w8 ho9 hb hg_ hnew_; clear hg_ hnew_; (first | rw [← Ny162.out] at ho9 | (simp only [Int.reduceToNat] at ho9; rw [← Ny162.out] at ho9)); have n0_ := Aside0.mk (Kd.N_lower ho9 (below_size hB)); have n1_ := hS HB hb; clear HB; clear HO161; have HO164 := n0_; have HB := n1_; clear n0_ n1_; clear hb ho9))
  go_ret
  exact ⟨_, by first | rfl | (simp [errW_none, errW_some] <;> rfl) | (simp [*, errW_none, errW_some] <;> rfl), by (with_reducible repeat (first | apply Kd.N_alloc | apply Kd.N_drewN | apply Kd.N_drew)); exact HO164.out, hB⟩
 ·rw [if_neg c4] at H
  have c4b0 : ((l1.length : Int) == a2) = false := beq_eq_false_iff_ne.mpr c4
  have c4b1 : ((l1.length : Int) != a2) = true := bne_iff_ne.mpr c4
  have HC10 := Aside0.mk H
  clear H
  go_enter Tryd.func89, Tryd.ntmps89
  go_upto_if 19 with (fail)
  go_cut [7] (fun v7 wc => ∃ (kq : Nat) (x7_9 : Int), v7 = .int .i64 x7_9 ∧ Aside0 (spec_trGroups.j0 kq l0 l1 a2 x7_9 = some r) ∧ Aside0 (kq ≤ k) ∧ Aside0 (Below w.heap.size w wc))
  case first =>
   have H := HC10.out
   clear HC10
   by_cases c11 : (l1.length : Int) > 0
   ·rw [if_pos c11] at H
    have c11b0 : decide (0 < (l1.length : Int)) = true := decide_eq_true c11
    have c11b1 : decide (0 < l1.length) = true := decide_eq_true (by omega)
    clear c11
    (first | rw [c11b0] | (simp only [i64_w, i32_w]; rw [c11b0]) | rw [c11b1] | skip)
    obtain ⟨ji12, hji12⟩ : ∃ j_ : Int, (wrap64 ((l1.length : Int) - 1)) = j_ := ⟨_, rfl⟩
    replace H : (if 0 ≤ (ji12) then (if (ji12) < (l1.length : Int) then (spec_trGroups.j0 k l0 l1 a2 (wrap64 ((rd l1 (ji12)) + 1))) else (none)) else (none)) = some r := by first | (rw [hji12] at H; exact H) | (simp only [hji12] at H ⊢; exact H)
    have hji12w : (IntKind.i64.wrap ((l1.length : Int) - 1)) = ji12 := (i64_w _).trans hji12
    by_cases c13 : 0 ≤ (ji12)
    ·rw [if_pos c13] at H
     have c13b0 : decide (0 ≤ (ji12)) = true := decide_eq_true c13
     clear c13
     by_cases c14 : (ji12) < (l1.length : Int)
     ·rw [if_pos c14] at H
      have c14b0 : decide ((ji12) < (l1.length : Int)) = true := decide_eq_true c14
      clear c14
      have H' := Aside0.mk H
      clear H
      have p165 : 0 ≤ ((ji12) : Int) := of_decide_eq_true (by first | (with_reducible assumption) | assumption)
      have q165 : (ji12) < (l1.length : Int) := of_decide_eq_true (by first | (with_reducible assumption) | assumption)
      obtain ⟨ad165, e165, hx165_0⟩ := Kd.at_int HR1.out (ji12) p165 q165
      cases e165
      replace hx165_0 := (HB.out.cell (World.block_lt_of_cell? w _ hx165_0)).trans hx165_0
      replace p165 := eq_true p165
      replace q165 := eq_true q165
      go_wp2
      go_meet
      case rel => exact ⟨_, (wrap64 ((rd l1 (ji12)) + 1)), (by first | rfl | (simp; done) | (simp only [← hji12] <;> (first | rfl | simp)) | (simp [*]; done)), H', ⟨by first | omega | exact Nat.le_refl _⟩, ⟨hB⟩⟩
     ·rw [if_neg c14] at H
      exact absurd H (by simp)
    ·rw [if_neg c13] at H
     exact absurd H (by simp)
   ·rw [if_neg c11] at H
    have c11b0 : decide (0 < (l1.length : Int)) = false := decide_eq_false c11
    have c11b1 : decide (0 < l1.length) = false := decide_eq_false (by omega)
    clear c11
    (first | rw [c11b0] | (simp only [i64_w, i32_w]; rw [c11b0]) | rw [c11b1] | skip)
    have H' := Aside0.mk H
    clear H
    go_wp2
    go_meet
    case rel => exact ⟨_, (0), (by first | rfl | (simp; done) | (simp [*]; done)), H', ⟨by first | omega | exact Nat.le_refl _⟩, ⟨hB⟩⟩
  case rest =>
   clear HC10
   try clear c1
   try clear p1
   try clear q1
   try clear hx1
   try clear p2
   try clear c4
   try clear c4b0
   try clear c4b1
   try clear p6
   try clear c8
   try clear c11
   try clear c11b0
   try clear c11b1
   try clear c13
   try clear c13b0
   try clear c14
   try clear c14b0
   try clear hx165_0
   try clear p165
   try clear q165
   obtain ⟨kq, x7_9, rfl, HA, HJ9, HB⟩ := hcut
   cases kq with
   | zero => exact absurd HA.out (by simp [spec_trGroups.j0])
   | succ kj9 =>
    have H := HA.out
    clear HA
    simp only [spec_trGroups.j0] at H
    have H' := Aside0.mk H
    clear H
    go_wp2
    go_loopg [8, 9] kj9 (fun kq v8 v9 w' => ∃ (x8_2 : List (List Int)) (x9_2 : Int), v9 = .int .i64 x9_2 ∧ Aside0 (spec_trGroups.l0 kq l0 l1 a2 x8_2 x9_2 = some r) ∧ Aside0 (kq ≤ kj9) ∧ Aside0 (Kd.N (Kd.slice 3 (Kd.int .i64)) 81 w' w.heap.size (fun k_ => (w.heap.size ≤ k_)) v8 x8_2) ∧ Aside0 (Below w.heap.size w w'))
    case atStart => exact ⟨(([] : List (List Int))), (x7_9), (by first | rfl | (simp; done) | (simp [*]; done)), H', ⟨Nat.le_refl _⟩, ⟨by first | exact Kd.S_nil _ _ _ _ _ | exact Kd.N_nil _ _ _ _ _ | exact Kd.V_nil _ _ _ _ _ | exact Kd.Q_nil _ _ _ _ _ | exact Kd.R_nil _ _ _ _ _⟩, ⟨hB⟩⟩
    case round =>
     clear H'
     try clear c1
     try clear p1
     try clear q1
     try clear hx1
     try clear p2
     try clear c4
     try clear c4b0
     try clear c4b1
     try clear p6
     try clear c8
     try clear c11
     try clear c11b0
     try clear c11b1
     try clear c13
     try clear c13b0
     try clear c14
     try clear c14b0
     try clear hx165_0
     try clear p1
     try clear p165
     try clear p2
     try clear p6
     try clear q1
     try clear q165
     obtain ⟨x8_2, x9_2, rfl, HA, HK2, HO_8, HB⟩ := hrel
     cases gk with
     | zero => exact absurd HA.out (by simp [spec_trGroups.l0])
     | succ k2 =>
      have H := HA.out
      clear HA
      simp only [spec_trGroups.l0] at H
      by_cases c15 : x9_2 < (l0.length : Int)
      ·rw [if_pos c15] at H
       have c15b0 : decide (x9_2 < (l0.length : Int)) = true := decide_eq_true c15
       clear c15
       replace H := Option.bind_eq_some_iff.mp H
       obtain ⟨t166, A160, H⟩ := H
       replace H : (if t166 = true then ((spec_l1Own.f l1).bind fun t167 => (if t167.length < 17592186044416 then ((spec_trGroups.f k2 l0 (t167 ++ [x9_2]) a2).bind fun t173 => (if x8_2.length + t173.length < 5864062014805 then (spec_trGroups.l0 k2 l0 l1 a2 (x8_2 ++ t173) (wrap64 (x9_2 + 1))) else (none))) else (none))) else (spec_trGroups.l0 k2 l0 l1 a2 x8_2 (wrap64 (x9_2 + 1)))) = some r := H
       have A16 := Aside0.mk A160
       clear A160
       by_cases c17 : t166 = true
       ·subst c17
        have H1 : ((spec_l1Own.f l1).bind fun t167 => (if t167.length < 17592186044416 then ((spec_trGroups.f k2 l0 (t167 ++ [x9_2]) a2).bind fun t173 => (if x8_2.length + t173.length < 5864062014805 then (spec_trGroups.l0 k2 l0 l1 a2 (x8_2 ++ t173) (wrap64 (x9_2 + 1))) else (none))) else (none))) = some r := by rw [if_pos rfl] at H; exact H
        clear H
        have H := H1
        clear H1
        replace H := Option.bind_eq_some_iff.mp H
        obtain ⟨t167, A180, H⟩ := H
        replace H : (if t167.length < 17592186044416 then ((spec_trGroups.f k2 l0 (t167 ++ [x9_2]) a2).bind fun t173 => (if x8_2.length + t173.length < 5864062014805 then (spec_trGroups.l0 k2 l0 l1 a2 (x8_2 ++ t173) (wrap64 (x9_2 + 1))) else (none))) else (none)) = some r := H
        have A18 := Aside0.mk A180
        clear A180
        by_cases c19 : t167.length < 17592186044416
        ·rw [if_pos c19] at H
         have LMc19 := Aside0.mk c19
         clear c19
         obtain ⟨y170, hy170⟩ : ∃ y_ : List Int, y_ = (t167 ++ [x9_2]) := ⟨_, rfl⟩
         replace H : ((spec_trGroups.f k2 l0 y170 a2).bind fun t173 => (if x8_2.length + t173.length < 5864062014805 then (spec_trGroups.l0 k2 l0 l1 a2 (x8_2 ++ t173) (wrap64 (x9_2 + 1))) else (none))) = some r := by first | (rw [hy170]; with_reducible exact H) | (have H2_ := (Option.bind_some _ _).symm.trans H; rw [hy170]; with_reducible exact H2_) | (have H2_ := (Option.bind_some _ _).symm.trans H; with_reducible exact H2_) | with_reducible exact H | (rw [hy170]; exact H) | exact H
         have Ny170 := Aside0.mk hy170
         clear hy170
         replace H := Option.bind_eq_some_iff.mp H
         obtain ⟨t173, A200, H⟩ := H
         replace H : (if x8_2.length + t173.length < 5864062014805 then (spec_trGroups.l0 k2 l0 l1 a2 (x8_2 ++ t173) (wrap64 (x9_2 + 1))) else (none)) = some r := H
         have A20 := Aside0.mk A200
         clear A200
         by_cases c21 : x8_2.length + t173.length < 5864062014805
         ·rw [if_pos c21] at H
          have LMc21 := Aside0.mk c21
          clear c21
          obtain ⟨y176, hy176⟩ : ∃ y_ : List (List Int), y_ = (x8_2 ++ t173) := ⟨_, rfl⟩
          replace H : (spec_trGroups.l0 k2 l0 l1 a2 y176 (wrap64 (x9_2 + 1))) = some r := by first | (rw [hy176]; with_reducible exact H) | (have H2_ := (Option.bind_some _ _).symm.trans H; rw [hy176]; with_reducible exact H2_) | (have H2_ := (Option.bind_some _ _).symm.trans H; with_reducible exact H2_) | with_reducible exact H | (rw [hy176]; exact H) | exact H
          have Ny176 := Aside0.mk hy176
          clear hy176
          have H' := Aside0.mk H
          clear H
          go_wp2_with (first | ((with_reducible refine gate_callee (f := 120) rfl ?_); refine goesL_ (some 37) rfl rfl Tryd.func120 (by kernel_rfl) rfl #[.slice A0 l0.length c0, .slice A1 l1.length c1, .int .i64 x9_2] rfl mapT ?_; (with_reducible refine (spec_trKnows.calls k2 _ _ l0 _ _ l1 x9_2 true _ ?side1 ?side2 ?side3 ?side4 A16.out).mono ?_); (case side1 => repeat (first | exact (Kd.C_below HR0.out HB.out) | (with_reducible refine Kd.C_alloc ?_ _) | (with_reducible refine Kd.C_drewN ?_ _) | (with_reducible refine Kd.C_drew ?_))); (case side2 => exact HC0.out); (case side3 => repeat (first | exact (Kd.C_below HR1.out HB.out) | (with_reducible refine Kd.C_alloc ?_ _) | (with_reducible refine Kd.C_drewN ?_ _) | (with_reducible refine Kd.C_drew ?_))); (case side4 => exact HC1.out); rintro e w' ⟨rfl, ⟨nd, rfl⟩⟩; refine ⟨_, rfl, ?_⟩) | ((with_reducible refine gate_callee (f := 119) rfl ?_); refine goesL_ (some 41) rfl rfl Tryd.func119 (by kernel_rfl) rfl #[.slice A1 l1.length c1] rfl mapT ?_; (with_reducible refine (spec_l1Own.calls _ _ l1 t167 _ ?side1 ?side2 A18.out).mono ?_); (case side1 => repeat (first | exact (Kd.C_below HR1.out hB) | (with_reducible refine Kd.C_alloc ?_ _) | (with_reducible refine Kd.C_drewN ?_ _) | (with_reducible refine Kd.C_drew ?_))); (case side2 => exact HC1.out); rintro e w22 ⟨v168, rfl, ho0, hb⟩; refine ⟨_, rfl, ?_⟩; have n0_ := Aside0.mk (Kd.N_elder' (by (with_reducible repeat (first | apply Kd.N_alloc | apply Kd.N_drewN | apply Kd.N_drew)); exact HO_8.out) (Kd.R_base ho0) hb); have n1_ := Aside0.mk (Kd.R_lower (Kd.R_newM (M := fun k_ => (w.heap.size ≤ k_)) ho0 (below_size hB) (fun k_ h_ => h_)) (below_size hB)); have n2_ := hS HB hb; clear HO_8; clear HB; have HO_8 := n0_; have HO169 := n1_; have HB := n2_; clear n0_ n1_ n2_; (try clear hb); (try clear hb2); (try clear hk); (try clear hi); (try clear ho0)) | ((with_reducible refine gate_builtin (b := .append) (xs := #[.tmp 41, .tmp 43]) rfl ?_); at_builtin; refine Kd.R_append (Kd.int .i64) (w0 := w) w.heap.size rfl (.tmp 41) (.tmp 43) 81 3 (.int .i64 0) 8 rfl Tryd.underlying81 info3 rfl (by decide) (by omega) v168 t167 x9_2 [.int .i64 x9_2] (fun k_ => (w.heap.size ≤ k_)) (fun _ => False) rfl rfl ?aP (fun _ hk => hk.elim) ?aF ?aO ?aB ?aS ?aL ?_; (case aP => exact rfl); (case aB => exact hB); (case aF => exact (fun k_ hk => (Nat.le_trans (below_size hB) hk))); (case aO => exact (by (with_reducible repeat (first | apply Kd.R_alloc | apply Kd.R_drewN | apply Kd.R_drew)); exact Kd.R_mono HO169.out (fun _ hk => hk.1))); (case aS => exact (below_size hB)); (case aL => have := LMc19.out; omega); intro v171 w23 ho hb hg hat; rw [← Ny170.out] at ho; have n0_ := Aside0.mk (Kd.N_afterv (ok := (fun k_ => (w.heap.size ≤ k_))) (by (with_reducible repeat (first | apply Kd.N_alloc | apply Kd.N_drewN | apply Kd.N_drew)); exact HO_8.out) hg hat); have n1_ := Aside0.mk (hb); have n2_ := Aside0.mk (ho); clear HO_8; clear HB; clear HO169; have HO_8 := n0_; have HB := n1_; have HO172 := n2_; clear n0_ n1_ n2_; clear ho hb hg hat; obtain ⟨Ao24, co24, eo24⟩ := Kd.R_slice HO172.out; subst eo24) | ((with_reducible refine gate_callee (f := 89) rfl ?_); refine goesL_ (some 46) rfl rfl Tryd.func89 (by kernel_rfl) rfl #[.slice A0 l0.length c0, .slice Ao24 y170.length co24, .int .i64 a2] rfl mapT ?_; (with_reducible refine (ih k2 (by have := HJ9.out; have := HK2.out; omega) _ _ l0 _ _ y170 a2 t173 _ ?side1 ?side2 ?side3 ?side4 A20.out).mono ?_); (case side1 => repeat (first | exact (Kd.C_below HR0.out HB.out) | (with_reducible refine Kd.C_alloc ?_ _) | (with_reducible refine Kd.C_drewN ?_ _) | (with_reducible refine Kd.C_drew ?_))); (case side2 => exact HC0.out); (case side3 => repeat (first | exact (Kd.R_reads' HO172.out).2.2 | (with_reducible refine Kd.C_alloc ?_ _) | (with_reducible refine Kd.C_drewN ?_ _) | (with_reducible refine Kd.C_drew ?_))); (case side4 => exact (Kd.R_reads' HO172.out).2.1); rintro e w25 ⟨v174, rfl, ho0, hb⟩; refine ⟨_, rfl, ?_⟩; have n0_ := Aside0.mk (Kd.N_elder' (by (with_reducible repeat (first | apply Kd.N_alloc | apply Kd.N_drewN | apply Kd.N_drew)); exact HO_8.out) (by first | exact Kd.N_base ho0 | exact Kd.S_base ho0) hb); have n1_ := Aside0.mk (Kd.R_below (by (with_reducible repeat (first | apply Kd.R_alloc | apply Kd.R_drewN | apply Kd.R_drew)); exact HO172.out) hb); have n2_ := Aside0.mk (Kd.N_lower (Kd.N_mono (ok' := fun k_ => (w.heap.size ≤ k_) ∧ some k_ ≠ (u8 : Value).ownBlock ∧ some k_ ≠ (.slice Ao24 y170.length co24 : Value).ownBlock) ho0 (fun k_ hk_ => ⟨(Nat.le_trans (below_size hB) hk_), (Kd.fresh' (Kd.N_lt (by (with_reducible repeat (first | apply Kd.N_alloc | apply Kd.N_drewN | apply Kd.N_drew)); exact HO_8.out)) k_ hk_), (Kd.fresh' (Kd.R_lt (by (with_reducible repeat (first | apply Kd.R_alloc | apply Kd.R_drewN | apply Kd.R_drew)); exact HO172.out)) k_ hk_)⟩)) (below_size hB)); have n3_ := hS HB hb; clear HO_8; clear HO172; clear HB; have HO_8 := n0_; have HO172 := n1_; have HO175 := n2_; have HB := n3_; clear n0_ n1_ n2_ n3_; (try clear hb); (try clear hb2); (try clear hk); (try clear hi); (try clear ho0); obtain ⟨Ao27, co27, eo27⟩ := Kd.N_slice HO175.out; subst eo27) | ((with_reducible refine gate_builtin (b := .append) (xs := #[.tmp 38, .tmp 46]) rfl ?_); at_builtin; refine Kd.N_append_rows (Kd.slice 3 (Kd.int .i64)) (w0 := w) w.heap.size rfl (.tmp 38) (.tmp 46) 42 81 (.slice none 0 0) 24 rfl Tryd.underlying42 info81 rfl (by decide) (by omega) u8 x8_2 t173 _ _ _ (fun k_ => (w.heap.size ≤ k_) ∧ some k_ ≠ (.slice Ao24 y170.length co24 : Value).ownBlock) (fun k_ => ((fun k_ => (w.heap.size ≤ k_) ∧ some k_ ≠ (.slice Ao24 y170.length co24 : Value).ownBlock)) k_ ∧ some k_ ≠ (u8 : Value).ownBlock) rfl rfl ?aO ?aR (fun _ hk => hk) ?aF ?aB ?aS ?aL ?_; (case aR => exact (by skip; exact Kd.N_F (Kd.N_mono (ok' := (fun k_ => ((fun k_ => (w.heap.size ≤ k_) ∧ some k_ ≠ (.slice Ao24 y170.length co24 : Value).ownBlock)) k_ ∧ some k_ ≠ (u8 : Value).ownBlock)) (HO175.out) (fun k_ hk => ⟨⟨hk.1, hk.2.2⟩, hk.2.1⟩)))); (case aB => exact hB); (case aF => exact (fun k_ hk => ⟨(Nat.le_trans (below_size hB) hk), Kd.fresh' (Kd.R_lt (by (with_reducible repeat (first | apply Kd.R_alloc | apply Kd.R_drewN | apply Kd.R_drew)); exact HO172.out)) k_ hk⟩)); (case aO => exact (by (with_reducible repeat (first | apply Kd.N_alloc | apply Kd.N_drewN | apply Kd.N_drew)); exact Kd.N_mono HO_8.out (fun _ hk => ⟨hk.1.1, hk.1.2⟩))); (case aS => exact (below_size hB)); (case aL => have := LMc21.out; omega); intro v177 w26 ho hb hg hat; rw [← Ny176.out] at ho; have n0_ := Aside0.mk (Kd.R_over' (by (with_reducible repeat (first | apply Kd.R_alloc | apply Kd.R_drewN | apply Kd.R_drew)); exact HO172.out) (Kd.N_typed (by (with_reducible repeat (first | apply Kd.N_alloc | apply Kd.N_drewN | apply Kd.N_drew)); exact HO_8.out)) (by decide) hg); have n1_ := Aside0.mk (Kd.N_afterv (ok := (fun k_ => (w.heap.size ≤ k_) ∧ some k_ ≠ (.slice Ao24 y170.length co24 : Value).ownBlock)) (by (with_reducible repeat (first | apply Kd.N_alloc | apply Kd.N_drewN | apply Kd.N_drew)); exact Kd.N_mono HO175.out (fun _ hk => ⟨⟨hk.1, hk.2.2⟩, hk.2.1⟩)) hg hat); have n2_ := Aside0.mk (hb); have n3_ := Aside0.mk (ho); clear HO172; clear HO175; clear HB; clear HO_8; have HO172 := n0_; have HO175 := n1_; have HB := n2_; have HO178 := n3_; clear n0_ n1_ n2_ n3_; clear ho hb hg hat))
          go_roundg k2
          case measure => have := HJ9.out; have := HK2.out; omega
          case rel => exact ⟨(y176), (wrap64 (x9_2 + 1)), (by first | rfl | (simp; done) | (simp [*]; done)), H', ⟨by have := HJ9.out; have := HK2.out; omega⟩, ⟨by (with_reducible repeat (first | apply Kd.N_alloc | apply Kd.N_drewN | apply Kd.N_drew)); exact Kd.N_mono HO178.out (fun _ hk => hk.1)⟩, ⟨hB⟩⟩
         ·rw [if_neg c21] at H
          exact absurd H (by simp)
        ·rw [if_neg c19] at H
         exact absurd H (by simp)
       ·replace c17 := Bool.eq_false_iff.mpr c17
        subst c17
        have H1 : (spec_trGroups.l0 k2 l0 l1 a2 x8_2 (wrap64 (x9_2 + 1))) = some r := by rw [if_neg (show ¬ (false = true) by decide)] at H; exact H
        clear H
        have H := H1
        clear H1
        have H' := Aside0.mk H
        clear H
        go_wp2_with (first | ((with_reducible refine gate_callee (f := 120) rfl ?_); refine goesL_ (some 37) rfl rfl Tryd.func120 (by kernel_rfl) rfl #[.slice A0 l0.length c0, .slice A1 l1.length c1, .int .i64 x9_2] rfl mapT ?_; (with_reducible refine (spec_trKnows.calls k2 _ _ l0 _ _ l1 x9_2 false _ ?side1 ?side2 ?side3 ?side4 A16.out).mono ?_); (case side1 => repeat (first | exact (Kd.C_below HR0.out HB.out) | (with_reducible refine Kd.C_alloc ?_ _) | (with_reducible refine Kd.C_drewN ?_ _) | (with_reducible refine Kd.C_drew ?_))); (case side2 => exact HC0.out); (case side3 => repeat (first | exact (Kd.C_below HR1.out HB.out) | (with_reducible refine Kd.C_alloc ?_ _) | (with_reducible refine Kd.C_drewN ?_ _) | (with_reducible refine Kd.C_drew ?_))); (case side4 => exact HC1.out); rintro e w' ⟨rfl, ⟨nd, rfl⟩⟩; refine ⟨_, rfl, ?_⟩))
        go_roundg k2
        case measure => have := HJ9.out; have := HK2.out; omega
        case rel => exact ⟨(x8_2), (wrap64 (x9_2 + 1)), (by first | rfl | (simp; done) | (simp [*]; done)), H', ⟨by have := HJ9.out; have := HK2.out; omega⟩, ⟨by (with_reducible repeat (first | apply Kd.N_alloc | apply Kd.N_drewN | apply Kd.N_drew)); exact HO_8.out⟩, ⟨hB⟩⟩
      ·rw [if_neg c15] at H
       have c15b0 : decide (x9_2 < (l0.length : Int)) = false := decide_eq_false c15
       clear c15
       obtain rfl := Option.some.inj H
       go_wp2
       go_ret
       exact ⟨_, by first | rfl | (simp [errW_none, errW_some] <;> rfl) | (simp [*, errW_none, errW_some] <;> rfl), by (with_reducible repeat (first | apply Kd.N_alloc | apply Kd.N_drewN | apply Kd.N_drew)); exact HO_8.out, hB⟩

/-! ### spec_trNeither: function 45 -/
def spec_trNeither.f (k : Nat) (a0_0 : Int) (l0_1 : List (S89)) (a1 : Int) (a2 : Int) : Option (Bool) := (spec_paTable.f k a0_0 l0_1).bind fun t180 => ((spec_trGroups.f k t180 ([] : List Int) a1).bind fun t183 => (if (t183.length : Int) = 0 then ((spec_paOther.f k a0_0 l0_1).bind fun bt186 => ((spec_paTable.f k bt186.1 bt186.2).bind fun t190 => ((spec_trGroups.f k t190 ([] : List Int) a2).bind fun t193 => (some ((t193.length : Int) == 0))))) else (some false)))
theorem spec_trNeither.mono : ∀ a0 a1 a2 a3 k, LeO (spec_trNeither.f k a0 a1 a2 a3) (spec_trNeither.f (k + 1) a0 a1 a2 a3) := by
 intro a0 a1 a2 a3 k
 unfold spec_trNeither.f
 repeat' first
   | (with_reducible exact spec_paOther.mono _ _ _)
   | (with_reducible exact spec_paTable.mono _ _ _)
   | (with_reducible exact spec_trGroups.mono _ _ _ _)
   | (with_reducible exact LeO.refl _)
   | (with_reducible exact LeO.none _)
   | (with_reducible refine LeO.ite ?_ ?_)
   | (with_reducible refine LeO.bind ?_ (fun _ => ?_))
   | exact spec_paOther.mono _ _ _
   | exact spec_paTable.mono _ _ _
   | exact spec_trGroups.mono _ _ _ _
   | exact LeO.none _
   | refine LeO.ite ?_ ?_
   | refine LeO.bind ?_ (fun _ => ?_)
set_option maxHeartbeats 8000000 in
set_option maxRecDepth 100000 in
theorem spec_trNeither.calls (k : Nat) (a0_0 : Int) (A0_1 : Option Addr) (c0_1 : Nat) (l0_1 : List (S89)) (a1 : Int) (a2 : Int) (r : Bool) (w : World) (hr0_1 : Kd.C k89 w A0_1 l0_1.length l0_1) (hc0_1 : l0_1.length ≤ c0_1) (h : spec_trNeither.f k a0_0 l0_1 a1 a2 = some r) :
  Calls Tryd.prog 45 #[.agg #[.int .i64 a0_0, .slice A0_1 l0_1.length c0_1], .int .i64 a1, .int .i64 a2] w fun e w' => e = .returned (.bool r) ∧ Below w.heap.size w w' := by
 have hu30 := Tryd.underlying30
 have HR0_1 := Aside0.mk hr0_1
 have HC0_1 := Aside0.mk hc0_1
 clear hr0_1 hc0_1
 have HB := Aside0.mk (Below.refl w.heap.size w)
 have H : ((spec_paTable.f k a0_0 l0_1).bind fun t180 => ((spec_trGroups.f k t180 ([] : List Int) a1).bind fun t183 => (if (t183.length : Int) = 0 then ((spec_paOther.f k a0_0 l0_1).bind fun bt186 => ((spec_paTable.f k bt186.1 bt186.2).bind fun t190 => ((spec_trGroups.f k t190 ([] : List Int) a2).bind fun t193 => (some ((t193.length : Int) == 0))))) else (some false)))) = some r := h
 clear h
 replace H := Option.bind_eq_some_iff.mp H
 obtain ⟨t180, A40, H⟩ := H
 replace H : ((spec_trGroups.f k t180 ([] : List Int) a1).bind fun t183 => (if (t183.length : Int) = 0 then ((spec_paOther.f k a0_0 l0_1).bind fun bt186 => ((spec_paTable.f k bt186.1 bt186.2).bind fun t190 => ((spec_trGroups.f k t190 ([] : List Int) a2).bind fun t193 => (some ((t193.length : Int) == 0))))) else (some false))) = some r := H
 have A4 := Aside0.mk A40
 clear A40
 replace H := Option.bind_eq_some_iff.mp H
 obtain ⟨t183, A50, H⟩ := H
 replace H : (if (t183.length : Int) = 0 then ((spec_paOther.f k a0_0 l0_1).bind fun bt186 => ((spec_paTable.f k bt186.1 bt186.2).bind fun t190 => ((spec_trGroups.f k t190 ([] : List Int) a2).bind fun t193 => (some ((t193.length : Int) == 0))))) else (some false)) = some r := H
 have A5 := Aside0.mk A50
 clear A50
 by_cases c6 : (t183.length : Int) = 0
 ·rw [if_pos c6] at H
  have c6b0 : ((t183.length : Int) == 0) = true := beq_iff_eq.mpr c6
  have c6b1 : ((t183.length : Int) != 0) = false := bne_eq_false_iff_eq.mpr c6
  clear c6
  replace H := Option.bind_eq_some_iff.mp H
  obtain ⟨⟨t186, t187⟩, A70, H⟩ := H
  replace H : ((spec_paTable.f k t186 t187).bind fun t190 => ((spec_trGroups.f k t190 ([] : List Int) a2).bind fun t193 => (some ((t193.length : Int) == 0)))) = some r := H
  have A7 := Aside0.mk A70
  clear A70
  replace H := Option.bind_eq_some_iff.mp H
  obtain ⟨t190, A80, H⟩ := H
  replace H : ((spec_trGroups.f k t190 ([] : List Int) a2).bind fun t193 => (some ((t193.length : Int) == 0))) = some r := H
  have A8 := Aside0.mk A80
  clear A80
  replace H := Option.bind_eq_some_iff.mp H
  obtain ⟨t193, A90, H⟩ := H
  replace H : (some ((t193.length : Int) == 0)) = some r := H
  have A9 := Aside0.mk A90
  clear A90
  obtain rfl := Option.some.inj H
  go_enter Tryd.func45, Tryd.ntmps45
  go_wp2_with (first | ((with_reducible refine gate_dst (N := 3) rfl ?_); (try (refine gate_guard (by rfl) ?_; dsimp only)); refine box_event ?hg (N := 3) ?hd (cs := #[.int .i64 a0_0, .slice A0_1 l0_1.length c0_1]) (t := 30) ?hr ?_; (case hd => rfl); (case hg => rfl); (case hr => first | (go_simp; done) | (go_simp; rfl)); intro gb179 hg w10 hbox hb; have n0_ := hS HB hb; have n1_ := Aside0.mk (hbox); have n2_ := gS HB hg; have n3_ := gS HB hg; clear HB; have HB := n0_; have BK179 := n1_; have GW179 := n2_; have GE179 := n3_; clear n0_ n1_ n2_ n3_; clear hb hbox hg; have hcz11_0 : w10.cell? ⟨gb179, 0, none⟩ = some (.int .i64 a0_0) := (blk_cell BK179.out 0).trans rfl; have hcz11_1 : w10.cell? ⟨gb179, 1, none⟩ = some (.slice A0_1 l0_1.length c0_1) := (blk_cell BK179.out 1).trans rfl; have hfz11_0 := blk_frozen BK179.out 0; have hfz11_1 := blk_frozen BK179.out 1) | ((with_reducible refine gate_callee (f := 53) rfl ?_); refine goesL_ (some 8) rfl rfl Tryd.func53 (by kernel_rfl) rfl #[.agg #[.int .i64 a0_0, .slice A0_1 l0_1.length c0_1]] rfl mapT ?_; (with_reducible refine (spec_paTable.calls k a0_0 _ _ l0_1 t180 _ ?side1 ?side2 A4.out).mono ?_); (case side1 => repeat (first | exact (Kd.C_below HR0_1.out HB.out) | (with_reducible refine Kd.C_alloc ?_ _) | (with_reducible refine Kd.C_drewN ?_ _) | (with_reducible refine Kd.C_drew ?_))); (case side2 => exact HC0_1.out); rintro e w12 ⟨v181, rfl, ho0, hb⟩; refine ⟨_, rfl, ?_⟩; have n0_ := Aside0.mk (Kd.N_lower (Kd.N_mono (ok' := fun k_ => k_ ≠ gb179) (Kd.S_N (Kd.S_bound ho0)) (fun k_ hk_ => (Kd.freshB (g := gb179) (o := .cells #[.int .i64 a0_0, .slice A0_1 l0_1.length c0_1] 30 (0, 0)) bK k_ hk_.2.1))) (below_size hB)); have n1_ := bS BK179 hb; have n2_ := hS HB hb; clear BK179; clear HB; have HO182 := n0_; have BK179 := n1_; have HB := n2_; clear n0_ n1_ n2_; (try clear hb); (try clear hb2); (try clear hk); (try clear hi); (try clear ho0); obtain ⟨Ao13, co13, eo13⟩ := Kd.N_slice HO182.out; subst eo13) | ((with_reducible refine gate_callee (f := 89) rfl ?_); refine goesL_ (some 10) rfl rfl Tryd.func89 (by kernel_rfl) rfl #[.slice Ao13 t180.length co13, .slice none 0 0, .int .i64 a1] rfl mapT ?_; (refine (spec_trGroups.calls k _ _ t180 _ _ ([] : List Int) a1 t183 _ ?side1 ?side2 ?side3 ?side4 A5.out).mono ?_); (case side1 => repeat (first | exact (Kd.N_reads' HO182.out).2.2 | (with_reducible refine Kd.C_alloc ?_ _) | (with_reducible refine Kd.C_drewN ?_ _) | (with_reducible refine Kd.C_drew ?_))); (case side2 => exact (Kd.N_reads' HO182.out).2.1); (case side3 => exact Kd.C_nil _ _); (case side4 => exact Nat.le_refl _); rintro e w14 ⟨v184, rfl, ho0, hb⟩; refine ⟨_, rfl, ?_⟩; have n0_ := Aside0.mk (Kd.N_elder' (by (with_reducible repeat (first | apply Kd.N_alloc | apply Kd.N_drewN | apply Kd.N_drew)); exact HO182.out) (by first | exact Kd.N_base ho0 | exact Kd.S_base ho0) hb); have n1_ := Aside0.mk (Kd.N_lower (Kd.N_mono (ok' := fun k_ => some k_ ≠ (.slice Ao13 t180.length co13 : Value).ownBlock ∧ k_ ≠ gb179) ho0 (fun k_ hk_ => ⟨(Kd.fresh' (Kd.N_lt (by (with_reducible repeat (first | apply Kd.N_alloc | apply Kd.N_drewN | apply Kd.N_drew)); exact HO182.out)) k_ hk_), (Kd.freshB (g := gb179) (o := .cells #[.int .i64 a0_0, .slice A0_1 l0_1.length c0_1] 30 (0, 0)) bK k_ hk_)⟩)) (below_size hB)); have n2_ := bS BK179 hb; have n3_ := hS HB hb; clear HO182; clear BK179; clear HB; have HO182 := n0_; have HO185 := n1_; have BK179 := n2_; have HB := n3_; clear n0_ n1_ n2_ n3_; (try clear hb); (try clear hb2); (try clear hk); (try clear hi); (try clear ho0); obtain ⟨Ao15, co15, eo15⟩ := Kd.N_slice HO185.out; subst eo15; have hcz16_0 : w14.cell? ⟨gb179, 0, none⟩ = some (.int .i64 a0_0) := (blk_cell BK179.out 0).trans rfl; have hcz16_1 : w14.cell? ⟨gb179, 1, none⟩ = some (.slice A0_1 l0_1.length c0_1) := (blk_cell BK179.out 1).trans rfl; have hfz16_0 := blk_frozen BK179.out 0; have hfz16_1 := blk_frozen BK179.out 1) | (go_at_call 90; (with_reducible refine (spec_paOther.calls k a0_0 _ _ l0_1 t186 t187 _ ?side1 ?side2 A7.out).mono ?_); (case side1 => repeat (first | exact (Kd.C_below HR0_1.out HB.out) | (with_reducible refine Kd.C_alloc ?_ _) | (with_reducible refine Kd.C_drewN ?_ _) | (with_reducible refine Kd.C_drew ?_))); (case side2 => exact HC0_1.out); rintro e w17 ⟨v188, rfl, ho0, hb⟩; have n0_ := Aside0.mk (Kd.N_elder' (by (with_reducible repeat (first | apply Kd.N_alloc | apply Kd.N_drewN | apply Kd.N_drew)); exact HO182.out) (Kd.R_base ho0) hb); have n1_ := Aside0.mk (Kd.N_elder' (by (with_reducible repeat (first | apply Kd.N_alloc | apply Kd.N_drewN | apply Kd.N_drew)); exact HO185.out) (Kd.R_base ho0) hb); have n2_ := Aside0.mk (Kd.R_lower ho0 (below_size hB)); have n3_ := bS BK179 hb; have n4_ := hS HB hb; clear HO182; clear HO185; clear BK179; clear HB; have HO182 := n0_; have HO185 := n1_; have HO189 := n2_; have BK179 := n3_; have HB := n4_; clear n0_ n1_ n2_ n3_ n4_; (try clear hb); (try clear hb2); (try clear hk); (try clear hi); (try clear ho0); obtain ⟨Ao18, co18, eo18⟩ := Kd.R_slice HO189.out; subst eo18) | (go_at_call 53; (with_reducible refine (spec_paTable.calls k t186 _ _ t187 t190 _ ?side1 ?side2 A8.out).mono ?_); (case side1 => repeat (first | exact (Kd.R_reads' HO189.out).2.2 | (with_reducible refine Kd.C_alloc ?_ _) | (with_reducible refine Kd.C_drewN ?_ _) | (with_reducible refine Kd.C_drew ?_))); (case side2 => exact (Kd.R_reads' HO189.out).2.1); rintro e w19 ⟨v191, rfl, ho0, hb⟩; have n0_ := Aside0.mk (Kd.N_elder' (by (with_reducible repeat (first | apply Kd.N_alloc | apply Kd.N_drewN | apply Kd.N_drew)); exact HO182.out) (by first | exact Kd.N_base ho0 | exact Kd.S_base ho0) hb); have n1_ := Aside0.mk (Kd.N_elder' (by (with_reducible repeat (first | apply Kd.N_alloc | apply Kd.N_drewN | apply Kd.N_drew)); exact HO185.out) (by first | exact Kd.N_base ho0 | exact Kd.S_base ho0) hb); have n2_ := Aside0.mk (Kd.R_below (by (with_reducible repeat (first | apply Kd.R_alloc | apply Kd.R_drewN | apply Kd.R_drew)); exact HO189.out) hb); have n3_ := Aside0.mk (Kd.N_lower (Kd.N_mono (ok' := fun k_ => some k_ ≠ (.slice Ao13 t180.length co13 : Value).ownBlock ∧ some k_ ≠ (.slice Ao15 t183.length co15 : Value).ownBlock ∧ some k_ ≠ (.slice Ao18 t187.length co18 : Value).ownBlock ∧ k_ ≠ gb179) (Kd.S_N (Kd.S_bound ho0)) (fun k_ hk_ => ⟨(Kd.fresh' (Kd.N_lt (by (with_reducible repeat (first | apply Kd.N_alloc | apply Kd.N_drewN | apply Kd.N_drew)); exact HO182.out)) k_ hk_.2.1), (Kd.fresh' (Kd.N_lt (by (with_reducible repeat (first | apply Kd.N_alloc | apply Kd.N_drewN | apply Kd.N_drew)); exact HO185.out)) k_ hk_.2.1), (Kd.fresh' (Kd.R_lt (by (with_reducible repeat (first | apply Kd.R_alloc | apply Kd.R_drewN | apply Kd.R_drew)); exact HO189.out)) k_ hk_.2.1), (Kd.freshB (g := gb179) (o := .cells #[.int .i64 a0_0, .slice A0_1 l0_1.length c0_1] 30 (0, 0)) bK k_ hk_.2.1)⟩)) (below_size hB)); have n4_ := bS BK179 hb; have n5_ := hS HB hb; clear HO182; clear HO185; clear HO189; clear BK179; clear HB; have HO182 := n0_; have HO185 := n1_; have HO189 := n2_; have HO192 := n3_; have BK179 := n4_; have HB := n5_; clear n0_ n1_ n2_ n3_ n4_ n5_; (try clear hb); (try clear hb2); (try clear hk); (try clear hi); (try clear ho0); obtain ⟨Ao20, co20, eo20⟩ := Kd.N_slice HO192.out; subst eo20) | (go_at_call 89; (refine (spec_trGroups.calls k _ _ t190 _ _ ([] : List Int) a2 t193 _ ?side1 ?side2 ?side3 ?side4 A9.out).mono ?_); (case side1 => repeat (first | exact (Kd.N_reads' HO192.out).2.2 | (with_reducible refine Kd.C_alloc ?_ _) | (with_reducible refine Kd.C_drewN ?_ _) | (with_reducible refine Kd.C_drew ?_))); (case side2 => exact (Kd.N_reads' HO192.out).2.1); (case side3 => exact Kd.C_nil _ _); (case side4 => exact Nat.le_refl _); rintro e w21 ⟨v194, rfl, ho0, hb⟩; have n0_ := Aside0.mk (Kd.N_elder' (by (with_reducible repeat (first | apply Kd.N_alloc | apply Kd.N_drewN | apply Kd.N_drew)); exact HO182.out) (by first | exact Kd.N_base ho0 | exact Kd.S_base ho0) hb); have n1_ := Aside0.mk (Kd.N_elder' (by (with_reducible repeat (first | apply Kd.N_alloc | apply Kd.N_drewN | apply Kd.N_drew)); exact HO185.out) (by first | exact Kd.N_base ho0 | exact Kd.S_base ho0) hb); have n2_ := Aside0.mk (Kd.R_below (by (with_reducible repeat (first | apply Kd.R_alloc | apply Kd.R_drewN | apply Kd.R_drew)); exact HO189.out) hb); have n3_ := Aside0.mk (Kd.N_elder' (by (with_reducible repeat (first | apply Kd.N_alloc | apply Kd.N_drewN | apply Kd.N_drew)); exact HO192.out) (by first | exact Kd.N_base ho0 | exact Kd.S_base ho0) hb); have n4_ := Aside0.mk (Kd.N_lower (Kd.N_mono (ok' := fun k_ => some k_ ≠ (.slice Ao13 t180.length co13 : Value).ownBlock ∧ some k_ ≠ (.slice Ao15 t183.length co15 : Value).ownBlock ∧ some k_ ≠ (.slice Ao18 t187.length co18 : Value).ownBlock ∧ some k_ ≠ (.slice Ao20 t190.length co20 : Value).ownBlock ∧ k_ ≠ gb179) ho0 (fun k_ hk_ => ⟨(Kd.fresh' (Kd.N_lt (by (with_reducible repeat (first | apply Kd.N_alloc | apply Kd.N_drewN | apply Kd.N_drew)); exact HO182.out)) k_ hk_), (Kd.fresh' (Kd.N_lt (by (with_reducible repeat (first | apply Kd.N_alloc | apply Kd.N_drewN | apply Kd.N_drew)); exact HO185.out)) k_ hk_), (Kd.fresh' (Kd.R_lt (by (with_reducible repeat (first | apply Kd.R_alloc | apply Kd.R_drewN | apply Kd.R_drew)); exact HO189.out)) k_ hk_), (Kd.fresh' (Kd.N_lt (by (with_reducible repeat (first | apply Kd.N_alloc | apply Kd.N_drewN | apply Kd.N_drew)); exact HO192.out)) k_ hk_), (Kd.freshB (g := gb179) (o := .cells #[.int .i64 a0_0, .slice A0_1 l0_1.length c0_1] 30 (0, 0)) bK k_ hk_)⟩)) (below_size hB)); have n5_ := bS BK179 hb; have n6_ := hS HB hb; clear HO182; clear HO185; clear HO189; clear HO192; clear BK179; clear HB; have HO182 := n0_; have HO185 := n1_; have HO189 := n2_; have HO192 := n3_; have HO195 := n4_; have BK179 := n5_; have HB := n6_; clear n0_ n1_ n2_ n3_ n4_ n5_ n6_; (try clear hb); (try clear hb2); (try clear hk); (try clear hi); (try clear ho0); obtain ⟨Ao22, co22, eo22⟩ := Kd.N_slice HO195.out; subst eo22))
  go_ret
  exact ⟨by first | rfl | (simp [errW_none, errW_some] <;> rfl) | (simp [*, errW_none, errW_some] <;> rfl), hB⟩
 ·rw [if_neg c6] at H
  have c6b0 : ((t183.length : Int) == 0) = false := beq_eq_false_iff_ne.mpr c6
  have c6b1 : ((t183.length : Int) != 0) = true := bne_iff_ne.mpr c6
  have c6b2 : ¬ (t183 = []) := fun h_ => c6 (by rw [h_]; rfl)
  obtain rfl := Option.some.inj H
  go_enter Tryd.func45, Tryd.ntmps45
  go_wp2_with (first | ((with_reducible refine gate_dst (N := 3) rfl ?_); (try (refine gate_guard (by rfl) ?_; dsimp only)); refine box_event ?hg (N := 3) ?hd (cs := #[.int .i64 a0_0, .slice A0_1 l0_1.length c0_1]) (t := 30) ?hr ?_; (case hd => rfl); (case hg => rfl); (case hr => first | (go_simp; done) | (go_simp; rfl)); intro gb179 hg w23 hbox hb; have n0_ := hS HB hb; have n1_ := Aside0.mk (hbox); have n2_ := gS HB hg; have n3_ := gS HB hg; clear HB; have HB := n0_; have BK179 := n1_; have GW179 := n2_; have GE179 := n3_; clear n0_ n1_ n2_ n3_; clear hb hbox hg; have hcz24_0 : w23.cell? ⟨gb179, 0, none⟩ = some (.int .i64 a0_0) := (blk_cell BK179.out 0).trans rfl; have hcz24_1 : w23.cell? ⟨gb179, 1, none⟩ = some (.slice A0_1 l0_1.length c0_1) := (blk_cell BK179.out 1).trans rfl; have hfz24_0 := blk_frozen BK179.out 0; have hfz24_1 := blk_frozen BK179.out 1) | ((with_reducible refine gate_callee (f := 53) rfl ?_); refine goesL_ (some 8) rfl rfl Tryd.func53 (by kernel_rfl) rfl #[.agg #[.int .i64 a0_0, .slice A0_1 l0_1.length c0_1]] rfl mapT ?_; (with_reducible refine (spec_paTable.calls k a0_0 _ _ l0_1 t180 _ ?side1 ?side2 A4.out).mono ?_); (case side1 => repeat (first | exact (Kd.C_below HR0_1.out HB.out) | (with_reducible refine Kd.C_alloc ?_ _) | (with_reducible refine Kd.C_drewN ?_ _) | (with_reducible refine Kd.C_drew ?_))); (case side2 => exact HC0_1.out); rintro e w25 ⟨v181, rfl, ho0, hb⟩; refine ⟨_, rfl, ?_⟩; have n0_ := Aside0.mk (Kd.N_lower (Kd.N_mono (ok' := fun k_ => k_ ≠ gb179) (Kd.S_N (Kd.S_bound ho0)) (fun k_ hk_ => (Kd.freshB (g := gb179) (o := .cells #[.int .i64 a0_0, .slice A0_1 l0_1.length c0_1] 30 (0, 0)) bK k_ hk_.2.1))) (below_size hB)); have n1_ := bS BK179 hb; have n2_ := hS HB hb; clear BK179; clear HB; have HO182 := n0_; have BK179 := n1_; have HB := n2_; clear n0_ n1_ n2_; (try clear hb); (try clear hb2); (try clear hk); (try clear hi); (try clear ho0); obtain ⟨Ao26, co26, eo26⟩ := Kd.N_slice HO182.out; subst eo26) | ((with_reducible refine gate_callee (f := 89) rfl ?_); refine goesL_ (some 10) rfl rfl Tryd.func89 (by kernel_rfl) rfl #[.slice Ao26 t180.length co26, .slice none 0 0, .int .i64 a1] rfl mapT ?_; (refine (spec_trGroups.calls k _ _ t180 _ _ ([] : List Int) a1 t183 _ ?side1 ?side2 ?side3 ?side4 A5.out).mono ?_); (case side1 => repeat (first | exact (Kd.N_reads' HO182.out).2.2 | (with_reducible refine Kd.C_alloc ?_ _) | (with_reducible refine Kd.C_drewN ?_ _) | (with_reducible refine Kd.C_drew ?_))); (case side2 => exact (Kd.N_reads' HO182.out).2.1); (case side3 => exact Kd.C_nil _ _); (case side4 => exact Nat.le_refl _); rintro e w27 ⟨v184, rfl, ho0, hb⟩; refine ⟨_, rfl, ?_⟩; have n0_ := Aside0.mk (Kd.N_elder' (by (with_reducible repeat (first | apply Kd.N_alloc | apply Kd.N_drewN | apply Kd.N_drew)); exact HO182.out) (by first | exact Kd.N_base ho0 | exact Kd.S_base ho0) hb); have n1_ := Aside0.mk (Kd.N_lower (Kd.N_mono (ok' := fun k_ => some k_ ≠ (.slice Ao26 t180.length co26 : Value).ownBlock ∧ k_ ≠ gb179) ho0 (fun k_ hk_ => ⟨(Kd.fresh' (Kd.N_lt (by (with_reducible repeat (first | apply Kd.N_alloc | apply Kd.N_drewN | apply Kd.N_drew)); exact HO182.out)) k_ hk_), (Kd.freshB (g := gb179) (o := .cells #[.int .i64 a0_0, .slice A0_1 l0_1.length c0_1] 30 (0, 0)) bK k_ hk_)⟩)) (below_size hB)); have n2_ := bS BK179 hb; have n3_ := hS HB hb; clear HO182; clear BK179; clear HB; have HO182 := n0_; have HO185 := n1_; have BK179 := n2_; have HB := n3_; clear n0_ n1_ n2_ n3_; (try clear hb); (try clear hb2); (try clear hk); (try clear hi); (try clear ho0); obtain ⟨Ao28, co28, eo28⟩ := Kd.N_slice HO185.out; subst eo28))
  go_ret
  exact ⟨by first | rfl | (simp [errW_none, errW_some] <;> rfl) | (simp [*, errW_none, errW_some] <;> rfl), hB⟩

/-! ### spec_trSet: function 98 (a text of this session's own) -/

def spec_trSet.T1 : Bool × List (List Nat × List Nat) := (true, [([], []), ([], []), ([1], [1]), ([0, 2], [0, 2]), ([3], [3]), ([], []), ([5], [5]), ([], []), ([4, 6, 0, 1, 2, 3, 4, 5, 6, 7], [4, 6]), ([8, 7, 0, 1, 2, 3, 4, 5, 6, 7], [7, 8])])
def spec_trSet.T2 : Bool × List (List Nat × List Nat) := (true, [([], []), ([], []), ([1], [1]), ([0, 2], [0, 2]), ([3], [3]), ([], []), ([5], [5]), ([], []), ([4, 6, 0, 1, 2, 3, 4, 5, 6, 7], [4, 6]), ([8, 7, 0, 1, 2, 3, 4, 5, 6, 7], [7, 8])])
def spec_trSet.B1 : List Nat := [0, 0, 2, 7, 15, 0, 32, 0, 255, 511]
theorem spec_trSet.tab1 : rtab .any (opsOf Tryd.f98 1) = spec_trSet.T1 := by kernel_rfl
theorem spec_trSet.bits1 : waitsOk spec_trSet.T1.2 spec_trSet.B1 = true := by kernel_rfl
theorem spec_trSet.tab2 : rtab .any (opsOf Tryd.f98 2) = spec_trSet.T2 := by kernel_rfl
theorem spec_trSet.bits2 : waitsOk spec_trSet.T2.2 spec_trSet.B1 = true := by kernel_rfl
/-- One entry of a row within rows is stored. -/
theorem spec_trSet.put {W : World} {base n cap : Nat} {ok : Nat → Prop} {ad : Addr} {T : List (List Bool)} {ra : List Bool} (h : Kd.S (Kd.slice 4 Kd.bool) 122 W base ok (.slice (some ad) n cap) T) (a b : Int) (f : Bool) (ha0 : 0 ≤ a) (ha : a < n) (hb0 : 0 ≤ b) (hra : T.getD a.toNat [] = ra) (hb : b < (ra.length : Int)) :
    ∃ (g c : Nat), W.cell? (ad.add a.toNat) = some (.slice (some ⟨g, 0, none⟩) ra.length c) ∧ W.cell? ⟨g, b.toNat, none⟩ = some (.bool (rdOf false ra b)) ∧ W.frozen? ⟨g, b.toNat, none⟩ = false ∧ ok g ∧ base ≤ g ∧ g < W.heap.size ∧
      Kd.S (Kd.slice 4 Kd.bool) 122 (W.setCell ⟨g, b.toNat, none⟩ (.bool f)) base ok (.slice (some ad) n cap) (T.set a.toNat (ra.set b.toNat f)) := by
  obtain ⟨oki, cs, hcl, hM, hcc, hok, hbk⟩ := Kd.S_borrow h [] a ha0 ha
  obtain ⟨v, rfl, hv⟩ := hM
  rw [hra] at hv
  replace hv := (show Kd.R Kd.bool 4 W base oki v ra from hv)
  obtain ⟨g, c, rfl, hgb, hgl, _⟩ := Kd.R_form hv (by omega)
  have hc0 := hcc 0 _ rfl
  rw [Nat.add_zero, show (Kd.slice 4 Kd.bool).sz = 1 from rfl, Nat.mul_one] at hc0
  obtain ⟨hx, hf⟩ := Kd.R_celln false hv b hb0 hb
  have HP := Kd.R_putg hv b f
  exact ⟨g, c, hc0, hx, hf, (hok g (hv.1 g rfl)).1, hgb, hgl, hbk HP.2 (fun k e => by injection e with e; subst e; exact hv.1 _ rfl) (Kd.M_row HP.1)⟩
set_option maxHeartbeats 8000000 in
set_option maxRecDepth 100000 in
theorem spec_trSet.calls (ad : Addr) (n cap : Nat) (T : List (List Bool)) (a b : Int) (f : Bool) (w : World) (base : Nat) (ok : Nat → Prop) (ra rb : List Bool) (HO : Kd.S (Kd.slice 4 Kd.bool) 122 w base ok (.slice (some ad) n cap) T) (hbase : base ≤ w.heap.size)
    (ha0 : 0 ≤ a) (ha : a < n) (hb0 : 0 ≤ b) (hb : b < n) (hra : T.getD a.toNat [] = ra) (hla : b < (ra.length : Int)) (hrb : (T.set a.toNat (ra.set b.toNat f)).getD b.toNat [] = rb) (hlb : a < (rb.length : Int)) :
    Calls Tryd.prog 98 #[.slice (some ad) n cap, .agg #[.int .i64 a, .int .i64 b], .bool f] w fun e w' => e = .returned (.tuple #[]) ∧ Kd.S (Kd.slice 4 Kd.bool) 122 w' base ok (.slice (some ad) n cap) ((T.set a.toNat (ra.set b.toNat f)).set b.toNat (rb.set a.toNat f)) ∧ Below base w w' ∧ ∀ k, ¬ ok k → k < w.heap.size → w'.heap[k]? = w.heap[k]? := by
  have hu := Tryd.underlying89
  have HO_ := Aside0.mk (Kd.S_mono (ok' := fun k => ok k ∧ k < w.heap.size) (Kd.S_bound HO) (fun _ hk => ⟨hk.1, hk.2.2.1⟩))
  have HRA := Aside0.mk hra
  have HRB := Aside0.mk hrb
  have p1 : (0 ≤ a) = True := eq_true ha0
  have p2 : (a < (n : Int)) = True := eq_true ha
  have p3 : (0 ≤ b) = True := eq_true hb0
  have p4 : (b < (n : Int)) = True := eq_true hb
  have p5 : (b < (ra.length : Int)) = True := eq_true hla
  have p6 : (a < (rb.length : Int)) = True := eq_true hlb
  clear HO hra hrb
  go_enter Tryd.func98, Tryd.ntmps98
  go_wp2_with ((with_reducible refine gate_dst (N := 4) rfl ?_); refine box_event ?hg (N := 4) ?hd (cs := #[.int .i64 a, .int .i64 b]) (t := 89) ?hr ?_; (case hd => rfl); (case hg => rfl); (case hr => first | (go_simp; done) | (go_simp; rfl)); intro gb hg w3 hbox hb_; have S3 := Aside0.mk (Kd.S_below HO_.out hb_); have BK := Aside0.mk hbox; have HB3 := Aside0.mk (show Below base w w3 from ⟨hb_.os, hb_.tape, hb_.output, hb_.size, fun k hk => hb_.block k (Nat.lt_of_lt_of_le hk hbase)⟩); have HZ3 := Aside0.mk (show ∀ k, k < w.heap.size → w3.heap[k]? = w.heap[k]? from hb_.block); have HG := Aside0.mk hg; clear hbox hb_ hg)
  have Sd1 := Aside0.mk (Kd.S_drew S3.out)
  have Bd1 := Aside0.mk (blk_drew BK.out)
  have Hd1 := Aside0.mk (below_drew1 HB3.out)
  clear S3 BK HB3
  obtain ⟨g1, c1, hc1, hx1, hf1, hok1, hbg1, hgl1, hS1⟩ := spec_trSet.put Sd1.out a b f ha0 ha hb0 HRA.out hla
  have hne1 : gb ≠ g1 := by have := hok1.2; have := HG.out; omega
  have SS1 := Aside0.mk hS1
  clear hS1
  refine start_ (n := 10) (S := fun w' => w'.cell? ⟨gb, 0, none⟩ = some (.int .i64 a) ∧ w'.cell? ⟨gb, 1, none⟩ = some (.int .i64 b) ∧ w'.cell? (ad.add a.toNat) = some (.slice (some ⟨g1, 0, none⟩) ra.length c1)) (ds := [9]) (bz 10 0) (by kernel_rfl) rfl rfl ⟨(blk_cell Bd1.out 0).trans rfl, (blk_cell Bd1.out 1).trans rfl, hc1⟩ (fun hHeld => ?_)
  refine with_tabW spec_trSet.tab1 spec_trSet.bits1 (fun HT_ HW_ => ?_)
  have hq1 : w3.drew.heap = w3.heap := rfl
  generalize w3.drew = w1d at hq1 Sd1 Bd1 Hd1 SS1 hc1 hx1 hf1 hgl1 hHeld ⊢
  refine run_ [(0, 0, 1, some 6), (0, 1, 3, some 7), (0, 5, 35, some 11), (0, 7, 163, some 13), (1, 2, 167, some 8), (0, 3, 175, some 9), (1, 4, 191, some 10), (1, 6, 255, some 12), (0, 8, 511, some 14)] ?_
  repeat (first | (apply tag0; refine run_p (v := ?_) (a' := ?_) rfl rfl (any_of HT_.out (by kernel_rfl)) (fun _ _ _ h => h) (by rfl) ?_ ?_ ?_; rotate_left 2; (intro w'; go_simp; with_reducible rfl); (first | (simp only [Act.put, List.setIfInBounds_toArray, List.set_cons_zero, List.set_cons_succ, i64_w, i32_w]; rfl) | rfl)) | (apply tag1; refine run_t (v := ?_) (a' := ?_) rfl rfl (take_ofW HT_.out HW_.out (by kernel_rfl)) (fun _ _ _ h => h) (by rfl) ?_ hHeld ?_ ?_; rotate_left 2; (rintro w' ⟨s0, s1, s2⟩; go_simp; with_reducible rfl); (first | (simp only [Act.put, List.setIfInBounds_toArray, List.set_cons_zero, List.set_cons_succ, i64_w, i32_w]; rfl) | rfl)))
  refine run_nil ?_
  refine last_ (i := 9) (N := none) (bz 10 1023) rfl rfl (one_of HT_.out (by kernel_rfl)) (by decide) (fun K hK => ?_)
  refine skip_ (w1 := ?_) (by rfl) rfl ?_ ?_
  rotate_left
  · go_simp
    rfl
  refine hK.out _ _ ?_
  clear hK K
  refine done_ (done_of HT_.out (by kernel_rfl)) ?_
  clear HT_ HW_ hHeld hc1 hx1 hf1
  have BB1 := Aside0.mk (blk_far Bd1.out (p := ⟨g1, b.toNat, none⟩) hne1 (.bool f))
  have HH1 := Aside0.mk ((Hd1.out).setCell (p := ⟨g1, b.toNat, none⟩) (by exact hbg1) (.bool f))
  generalize hw5 : w1d.setCell ⟨g1, b.toNat, none⟩ (.bool f) = w5 at SS1 BB1 HH1 ⊢
  try go_wp2
  have Sd2 := Aside0.mk (Kd.S_drew SS1.out)
  have Bd2 := Aside0.mk (blk_drew BB1.out)
  have Hd2 := Aside0.mk (below_drew1 HH1.out)
  clear SS1 BB1 HH1
  obtain ⟨g2, c2, hc2, hx2, hf2, hok2, hbg2, hgl2, hS2⟩ := spec_trSet.put Sd2.out b a f hb0 hb ha0 HRB.out hlb
  have hne2 : gb ≠ g2 := by have := hok2.2; have := HG.out; omega
  have SS2 := Aside0.mk hS2
  clear hS2
  refine start_ (n := 10) (S := fun w' => w'.cell? ⟨gb, 0, none⟩ = some (.int .i64 a) ∧ w'.cell? ⟨gb, 1, none⟩ = some (.int .i64 b) ∧ w'.cell? (ad.add b.toNat) = some (.slice (some ⟨g2, 0, none⟩) rb.length c2)) (ds := [9]) (bz 10 0) (by kernel_rfl) rfl rfl ⟨(blk_cell Bd2.out 0).trans rfl, (blk_cell Bd2.out 1).trans rfl, hc2⟩ (fun hHeld => ?_)
  refine with_tabW spec_trSet.tab2 spec_trSet.bits2 (fun HT_ HW_ => ?_)
  have hq2 : w5.drew.heap = w5.heap := rfl
  generalize w5.drew = w2d at hq2 Sd2 Bd2 Hd2 SS2 hc2 hx2 hf2 hgl2 hHeld ⊢
  refine run_ [(0, 0, 1, some 15), (0, 1, 3, some 16), (0, 5, 35, some 20), (0, 7, 163, some 22), (1, 2, 167, some 17), (0, 3, 175, some 18), (1, 4, 191, some 19), (1, 6, 255, some 21), (0, 8, 511, some 23)] ?_
  repeat (first | (apply tag0; refine run_p (v := ?_) (a' := ?_) rfl rfl (any_of HT_.out (by kernel_rfl)) (fun _ _ _ h => h) (by rfl) ?_ ?_ ?_; rotate_left 2; (intro w'; go_simp; with_reducible rfl); (first | (simp only [Act.put, List.setIfInBounds_toArray, List.set_cons_zero, List.set_cons_succ, i64_w, i32_w]; rfl) | rfl)) | (apply tag1; refine run_t (v := ?_) (a' := ?_) rfl rfl (take_ofW HT_.out HW_.out (by kernel_rfl)) (fun _ _ _ h => h) (by rfl) ?_ hHeld ?_ ?_; rotate_left 2; (rintro w' ⟨s0, s1, s2⟩; go_simp; with_reducible rfl); (first | (simp only [Act.put, List.setIfInBounds_toArray, List.set_cons_zero, List.set_cons_succ, i64_w, i32_w]; rfl) | rfl)))
  refine run_nil ?_
  refine last_ (i := 9) (N := none) (bz 10 1023) rfl rfl (one_of HT_.out (by kernel_rfl)) (by decide) (fun K hK => ?_)
  refine skip_ (w1 := ?_) (by rfl) rfl ?_ ?_
  rotate_left
  · go_simp
    rfl
  refine hK.out _ _ ?_
  clear hK K
  refine done_ (done_of HT_.out (by kernel_rfl)) ?_
  clear HT_ HW_ hHeld hc2 hx2 hf2
  have BB2 := Aside0.mk (blk_far Bd2.out (p := ⟨g2, a.toNat, none⟩) hne2 (.bool f))
  have HH2 := Aside0.mk ((Hd2.out).setCell (p := ⟨g2, a.toNat, none⟩) (by exact hbg2) (.bool f))
  generalize hw6 : w2d.setCell ⟨g2, a.toNat, none⟩ (.bool f) = w6 at SS2 BB2 HH2 ⊢
  try go_wp2
  first | go_end0 | ((try simp only [Exit.inBlock, Exit.then]); refine bodyPost_ret (results_none rfl _ _ _) rfl ?_)
  refine ⟨rfl, Kd.S_mono SS2.out (fun _ hk => hk.1), ?_, fun k hk hl => ?_⟩
  · exact HH2.out
  · have n1 : k ≠ g1 := fun e => hk (by rw [e]; exact hok1.1)
    have n2 : k ≠ g2 := fun e => hk (by rw [e]; exact hok2.1)
    rw [← hw6, Below.heap_setCell w2d _ _ k n2, hq2, ← hw5, Below.heap_setCell w1d _ _ k n1, hq1]
    exact HZ3.out k hl
def setT (T : List (List Bool)) (a b : Int) (f : Bool) : Option (List (List Bool)) :=
  if 0 ≤ a ∧ a < (T.length : Int) ∧ 0 ≤ b ∧ b < (T.length : Int) ∧ b < ((T.getD a.toNat []).length : Int) ∧ a < (((T.set a.toNat ((T.getD a.toNat []).set b.toNat f)).getD b.toNat []).length : Int) then
    some ((T.set a.toNat ((T.getD a.toNat []).set b.toNat f)).set b.toNat (((T.set a.toNat ((T.getD a.toNat []).set b.toNat f)).getD b.toNat []).set a.toNat f)) else none
/-- What a call that writes the table's rows leaves. -/
structure TSt (w : World) (base : Nat) (ok : Nat → Prop) (v : Value) (w' : World) (T' : List (List Bool)) : Prop where
  row : Kd.S (Kd.slice 4 Kd.bool) 122 w' base ok v T'
  below : Below base w w'
  keep : ∀ k, ¬ ok k → k < w.heap.size → w'.heap[k]? = w.heap[k]?
section
variable {w w' w'' : World} {base : Nat} {ok : Nat → Prop} {v : Value} {T T' : List (List Bool)}
theorem TSt.trans (s : TSt w base ok v w' T) (u : TSt w' base ok v w'' T') : TSt w base ok v w'' T' :=
  ⟨u.row, s.below.trans u.below, fun k hk hl => (u.keep k hk (Nat.lt_of_lt_of_le hl s.below.size)).trans (s.keep k hk hl)⟩
theorem TSt.later (s : TSt w base ok v w' T) (hbase : base ≤ w'.heap.size) (hb : Below w'.heap.size w' w'') : TSt w base ok v w'' T :=
  ⟨Kd.S_below s.row hb, below_then s.below hbase hb, fun k hk hl => (hb.block k (Nat.lt_of_lt_of_le hl s.below.size)).trans (s.keep k hk hl)⟩
theorem TSt.foot {α : Type} {d : Kd α} {A : Option Addr} {n : Nat} {xs : List α} (s : TSt w base ok v w' T) (h : Kd.F d w (fun k => ¬ ok k) A n xs) : Kd.F d w' (fun k => ¬ ok k) A n xs := Kd.F_step h s.keep
theorem TSt.refl (h : Kd.S (Kd.slice 4 Kd.bool) 122 w base ok v T) : TSt w base ok v w T := ⟨h, Below.refl _ _, fun _ _ _ => rfl⟩
end
theorem spec_trSet.sets (A : Option Addr) (n cap : Nat) (T T' : List (List Bool)) (a b : Int) (f : Bool) (w : World) (base : Nat) (ok : Nat → Prop) (HO : Kd.S (Kd.slice 4 Kd.bool) 122 w base ok (.slice A n cap) T) (hbase : base ≤ w.heap.size) (h : setT T a b f = some T') :
    Calls Tryd.prog 98 #[.slice A n cap, .agg #[.int .i64 a, .int .i64 b], .bool f] w fun e w' => e = .returned (.tuple #[]) ∧ TSt w base ok (.slice A n cap) w' T' := by
  unfold setT at h
  by_cases c : 0 ≤ a ∧ a < (T.length : Int) ∧ 0 ≤ b ∧ b < (T.length : Int) ∧ b < ((T.getD a.toNat []).length : Int) ∧ a < (((T.set a.toNat ((T.getD a.toNat []).set b.toNat f)).getD b.toNat []).length : Int)
  · rw [if_pos c] at h
    obtain rfl := Option.some.inj h
    obtain ⟨c1, c2, c3, c4, c5, c6⟩ := c
    have hn := (Kd.S_reads' HO).1
    obtain ⟨ad, rfl⟩ : ∃ ad, A = some ad := by
      obtain ⟨g, c, e, _⟩ := Kd.R_form (Kd.S_R HO) (by omega)
      injection e with e
      exact ⟨_, e⟩
    refine (spec_trSet.calls ad n cap T a b f w base ok _ _ HO hbase c1 (by omega) c3 (by omega) rfl c5 rfl c6).mono ?_
    rintro e w' ⟨he, h1, h2, h3⟩
    exact ⟨he, h1, h2, h3⟩
  · rw [if_neg c] at h; cases h

end Go.Proofs.YtomlbbnoicpfpaaDoor.PFnExactFirstNeither
