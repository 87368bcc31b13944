-- Of this session's own program wip/gen/gen.py (it drives the kit's print): contracts of the functions that the law reaches.
import Derived.Shelf.Strings.OnBuilder
import Derived.Test.YtjpfbkkikcpmhaaDoorPFnExactPuzzleTextx0
import Derived.Test.YtjpfbkkikcpmhaaDoorPFnExactPuzzleTextx3
namespace Go.Proofs.YtjpfbkkikcpmhaaDoor.PFnExactPuzzleText
open Go.RowKit Go.Proofs.YtjpfbkkikcpmhaaDoorW.PrintWords Go.Proofs.YtjpfbkkikcpmhaaDoorW.PrintLast Go.Proofs.YtjpfbkkikcpmhaaDoorW.PrintMore Go.Proofs.YtjpfbkkikcpmhaaDoor.Base
attribute [local go_sem] max2_int min2_int max_two min_two max_three min_three max_four min_four   -- for this text's walks alone
set_option linter.unusedVariables false
set_option linter.unusedSimpArgs false

/-! ### impl_IsClue: function 116 -/
def impl_IsClue.j0 : Nat → Int → Int → Bool → Int → Int → Int → Option (Bool)
 | 0, _, _, _, _, _, _ => none
 | k + 1, x0, x9, x10, x165000, x165001, x165002 => if x10 = true then ((impl_within.f x165001 0 (wrap64 (x0 - 1))).bind fun t166 => (if t166 = true then ((impl_within.f x165002 0 (wrap64 (x0 - 1))).bind fun t167 => (if t167 = true then (some (decide (x165001 < x165002))) else (some false))) else (some false))) else (if x9 = 2 then ((impl_within.f x165001 0 (wrap64 (x0 - 1))).bind fun t168 => (if t168 = true then ((impl_within.f x165002 0 (wrap64 (x0 - 1))).bind fun t169 => (some t169)) else (some false))) else (if x9 = 3 then ((impl_choose.f k x0 2).bind fun t170 => ((impl_within.f x165001 0 t170).bind fun t171 => (if t171 = true then (some (x165002 == 0)) else (some false)))) else (if x9 = 4 then ((impl_within.f x165001 0 10).bind fun t172 => (if t172 = true then (some (x165002 == 0)) else (some false))) else (if x9 = 5 then ((impl_within.f x165001 1 x0).bind fun t173 => (if t173 = true then (some (x165002 == 0)) else (some false))) else (some false)))))
def impl_IsClue.f (k : Nat) (a0 : Int) (a1_0 : Int) (a1_1 : Int) (a1_2 : Int) : Option (Bool) := (impl_areGuests.f a0).bind fun t165 => (if t165 = true then (if a1_0 = 0 then (impl_IsClue.j0 k a0 a1_0 (a1_0 == 0) a1_0 a1_1 a1_2) else (impl_IsClue.j0 k a0 a1_0 (a1_0 == 1) a1_0 a1_1 a1_2)) else (some false))
theorem impl_IsClue.mono_l : ∀ k, (∀ y0 y1 y2 y3 y4 y5, LeO (impl_IsClue.j0 k y0 y1 y2 y3 y4 y5) (impl_IsClue.j0 (k + 1) y0 y1 y2 y3 y4 y5))
 | 0 => fun _ _ _ _ _ _ r h => by simp [impl_IsClue.j0] at h
 | k + 1 => by
  have ih0 := impl_IsClue.mono_l k
  ·intro y0 y1 y2 y3 y4 y5
   unfold impl_IsClue.j0
   repeat' first
   | (with_reducible exact ih0 _ _ _ _ _ _)
   | (with_reducible exact impl_choose.mono _ _ _)
   | (with_reducible exact LeO.refl _)
   | (with_reducible exact LeO.none _)
   | (with_reducible refine LeO.ite ?_ ?_)
   | (with_reducible refine LeO.bind ?_ (fun _ => ?_))
   | exact ih0 _ _ _ _ _ _
   | exact impl_choose.mono _ _ _
   | exact LeO.none _
   | refine LeO.ite ?_ ?_
   | refine LeO.bind ?_ (fun _ => ?_)
theorem impl_IsClue.mono : ∀ a0 a1 a2 a3 k, LeO (impl_IsClue.f k a0 a1 a2 a3) (impl_IsClue.f (k + 1) a0 a1 a2 a3) := by
 intro a0 a1 a2 a3 k
 have ih0 := impl_IsClue.mono_l k
 unfold impl_IsClue.f
 repeat' first
   | (with_reducible exact ih0 _ _ _ _ _ _)
   | (with_reducible exact impl_choose.mono _ _ _)
   | (with_reducible exact LeO.refl _)
   | (with_reducible exact LeO.none _)
   | (with_reducible refine LeO.ite ?_ ?_)
   | (with_reducible refine LeO.bind ?_ (fun _ => ?_))
   | exact ih0 _ _ _ _ _ _
   | exact impl_choose.mono _ _ _
   | exact LeO.none _
   | refine LeO.ite ?_ ?_
   | refine LeO.bind ?_ (fun _ => ?_)
set_option maxHeartbeats 8000000 in
set_option maxRecDepth 100000 in
theorem impl_IsClue.calls (k : Nat) (a0 : Int) (a1_0 : Int) (a1_1 : Int) (a1_2 : Int) (r : Bool) (w : World) (h : impl_IsClue.f k a0 a1_0 a1_1 a1_2 = some r) :
  Calls Tryd.prog 116 #[.int .i64 a0, .agg #[.int .i64 a1_0, .int .i64 a1_1, .int .i64 a1_2]] w fun e w' => e = .returned (.bool r) ∧ Below w.heap.size w w' := by
 have hu70 := Tryd.underlying70
 have HB := Aside0.mk (Below.refl w.heap.size w)
 have H : ((impl_areGuests.f a0).bind fun t165 => (if t165 = true then (if a1_0 = 0 then (impl_IsClue.j0 k a0 a1_0 (a1_0 == 0) a1_0 a1_1 a1_2) else (impl_IsClue.j0 k a0 a1_0 (a1_0 == 1) a1_0 a1_1 a1_2)) else (some false))) = some r := h
 clear h
 replace H := Option.bind_eq_some_iff.mp H
 obtain ⟨t165, A30, H⟩ := H
 try dsimp only at H
 have A3 := Aside0.mk A30
 clear A30
 by_cases c4 : t165 = true
 ·subst c4
  rw [if_pos rfl] at H
  have HC5 := Aside0.mk H
  clear H
  go_enter Tryd.func116, Tryd.ntmps116
  go_upto_if 10 with (first | ((with_reducible refine gate_dst (N := 3) rfl ?_); refine bxE 3 #[.int .i64 a1_0, .int .i64 a1_1, .int .i64 a1_2] 70 rfl ?_; intro gb164 hg w6 hbox hb; have BK164 := Aside0.mk (hbox); have GW164 := gS HB hg; have GE164 := gS HB hg; replace HB := hS HB hb; clear hb hbox hg) | (go_at_call 103; (with_reducible refine (impl_areGuests.calls a0 true _ A3.out).mono ?_); rintro e w' ⟨rfl, ⟨nd, rfl⟩⟩; (try first | exact ⟨rfl, _, World.drewN_drewN _ _ _⟩ | exact ⟨rfl, _, Eq.trans (World.drewN_drewN _ _ _) (congrArg (World.drewN _) (Nat.add_assoc _ _ _))⟩); have hcz7_0 := cz BK164 0; have hcz7_1 := cz BK164 1; have hcz7_2 := cz BK164 2; have hfz7_0 := fz BK164 0; have hfz7_1 := fz BK164 1; have hfz7_2 := fz BK164 2))
  repeat (go_quiet (first | ((with_reducible refine gate_dst (N := 3) rfl ?_); refine bxE 3 #[.int .i64 a1_0, .int .i64 a1_1, .int .i64 a1_2] 70 rfl ?_; intro gb164 hg w6 hbox hb; have BK164 := Aside0.mk (hbox); have GW164 := gS HB hg; have GE164 := gS HB hg; replace HB := hS HB hb; clear hb hbox hg) | (go_at_call 103; (with_reducible refine (impl_areGuests.calls a0 true _ A3.out).mono ?_); rintro e w' ⟨rfl, ⟨nd, rfl⟩⟩; (try first | exact ⟨rfl, _, World.drewN_drewN _ _ _⟩ | exact ⟨rfl, _, Eq.trans (World.drewN_drewN _ _ _) (congrArg (World.drewN _) (Nat.add_assoc _ _ _))⟩); have hcz7_0 := cz BK164 0; have hcz7_1 := cz BK164 1; have hcz7_2 := cz BK164 2; have hfz7_0 := fz BK164 0; have hfz7_1 := fz BK164 1; have hfz7_2 := fz BK164 2)); go_upto_if 10 with (first | ((with_reducible refine gate_dst (N := 3) rfl ?_); refine bxE 3 #[.int .i64 a1_0, .int .i64 a1_1, .int .i64 a1_2] 70 rfl ?_; intro gb164 hg w6 hbox hb; have BK164 := Aside0.mk (hbox); have GW164 := gS HB hg; have GE164 := gS HB hg; replace HB := hS HB hb; clear hb hbox hg) | (go_at_call 103; (with_reducible refine (impl_areGuests.calls a0 true _ A3.out).mono ?_); rintro e w' ⟨rfl, ⟨nd, rfl⟩⟩; (try first | exact ⟨rfl, _, World.drewN_drewN _ _ _⟩ | exact ⟨rfl, _, Eq.trans (World.drewN_drewN _ _ _) (congrArg (World.drewN _) (Nat.add_assoc _ _ _))⟩); have hcz7_0 := cz BK164 0; have hcz7_1 := cz BK164 1; have hcz7_2 := cz BK164 2; have hfz7_0 := fz BK164 0; have hfz7_1 := fz BK164 1; have hfz7_2 := fz BK164 2)))
  (try simp only [Act.put, List.setIfInBounds_toArray, List.set_cons_zero, List.set_cons_succ])
  go_cut [10] (fun v10 wc => ∃ (kq : Nat) (x10_4 : Bool), v10 = .bool x10_4 ∧ Aside0 (impl_IsClue.j0 kq a0 a1_0 x10_4 a1_0 a1_1 a1_2 = some r) ∧ Aside0 (kq ≤ k) ∧ Aside0 (wc.heap[gb164]? = some (.cells #[.int .i64 a1_0, .int .i64 a1_1, .int .i64 a1_2] 70 (0, 0))) ∧ Aside0 (Below w.heap.size w wc))
  case first =>
   have H := HC5.out
   clear HC5
   by_cases c8 : a1_0 = 0
   ·rw [if_pos c8] at H
    have c8b0 : (a1_0 == 0) = true := beq_iff_eq.mpr c8
    have c8b1 : (a1_0 != 0) = false := bne_eq_false_iff_eq.mpr c8
    clear c8
    (first | rw [c8b0] | (simp only [i64_w, i32_w]; rw [c8b0]) | skip)
    have H' := Aside0.mk H
    clear H
    go_wp2
    repeat (go_quiet (fail); try go_wp2)
    go_meet
    case rel => exact ⟨_, ((a1_0 == 0)), (by first | rfl | (simp; done) | (simp [*]; done)), H', ⟨by first | omega | exact Nat.le_refl _⟩, ⟨bK⟩, ⟨hB⟩⟩
   ·rw [if_neg c8] at H
    have c8b0 : (a1_0 == 0) = false := beq_eq_false_iff_ne.mpr c8
    have c8b1 : (a1_0 != 0) = true := bne_iff_ne.mpr c8
    (first | rw [c8b0] | (simp only [i64_w, i32_w]; rw [c8b0]) | skip)
    have H' := Aside0.mk H
    clear H
    go_wp2
    repeat (go_quiet (fail); try go_wp2)
    go_meet
    case rel => exact ⟨_, ((a1_0 == 1)), (by first | rfl | (simp; done) | (simp [*]; done)), H', ⟨by first | omega | exact Nat.le_refl _⟩, ⟨bK⟩, ⟨hB⟩⟩
  case rest =>
   clear HC5
   try clear c1
   try clear p2
   try clear c4
   try clear c8
   try clear c8b0
   try clear c8b1
   try clear hcz7_0
   try clear hcz7_1
   try clear hcz7_2
   try clear hfz7_0
   try clear hfz7_1
   try clear hfz7_2
   obtain ⟨kq, x10_4, rfl, HA, HJ4, BK164, HB⟩ := hcut
   cases kq with
   | zero => exact absurd HA.out (by simp [impl_IsClue.j0])
   | succ kj4 =>
    have H := HA.out
    clear HA
    simp only [impl_IsClue.j0] at H
    by_cases c9 : x10_4 = true
    ·subst c9
     rw [if_pos rfl] at H
     replace H := Option.bind_eq_some_iff.mp H
     obtain ⟨t166, A100, H⟩ := H
     try dsimp only at H
     have A10 := Aside0.mk A100
     clear A100
     by_cases c11 : t166 = true
     ·subst c11
      rw [if_pos rfl] at H
      replace H := Option.bind_eq_some_iff.mp H
      obtain ⟨t167, A120, H⟩ := H
      try dsimp only at H
      have A12 := Aside0.mk A120
      clear A120
      by_cases c13 : t167 = true
      ·subst c13
       have H1 : (some (decide (a1_1 < a1_2))) = some r := by rw [if_pos rfl] at H; exact H
       clear H
       have H := H1
       clear H1
       obtain rfl := Option.some.inj H
       have hcz14_0 := cz BK164 0
       have hcz14_1 := cz BK164 1
       have hcz14_2 := cz BK164 2
       have hfz14_0 := fz BK164 0
       have hfz14_1 := fz BK164 1
       have hfz14_2 := fz BK164 2
       go_wp2_with (first | (go_at_call 60; (with_reducible refine (impl_within.calls a1_1 0 (wrap64 (a0 - 1)) true _ A10.out).mono ?_); rintro e w' ⟨rfl, ⟨nd, rfl⟩⟩; (try first | exact ⟨rfl, _, World.drewN_drewN _ _ _⟩ | exact ⟨rfl, _, Eq.trans (World.drewN_drewN _ _ _) (congrArg (World.drewN _) (Nat.add_assoc _ _ _))⟩)) | (go_at_call 60; (with_reducible refine (impl_within.calls a1_2 0 (wrap64 (a0 - 1)) true _ A12.out).mono ?_); rintro e w' ⟨rfl, ⟨nd, rfl⟩⟩; (try first | exact ⟨rfl, _, World.drewN_drewN _ _ _⟩ | exact ⟨rfl, _, Eq.trans (World.drewN_drewN _ _ _) (congrArg (World.drewN _) (Nat.add_assoc _ _ _))⟩)))
       repeat (go_quiet (first | (go_at_call 60; (with_reducible refine (impl_within.calls a1_1 0 (wrap64 (a0 - 1)) true _ A10.out).mono ?_); rintro e w' ⟨rfl, ⟨nd, rfl⟩⟩; (try first | exact ⟨rfl, _, World.drewN_drewN _ _ _⟩ | exact ⟨rfl, _, Eq.trans (World.drewN_drewN _ _ _) (congrArg (World.drewN _) (Nat.add_assoc _ _ _))⟩)) | (go_at_call 60; (with_reducible refine (impl_within.calls a1_2 0 (wrap64 (a0 - 1)) true _ A12.out).mono ?_); rintro e w' ⟨rfl, ⟨nd, rfl⟩⟩; (try first | exact ⟨rfl, _, World.drewN_drewN _ _ _⟩ | exact ⟨rfl, _, Eq.trans (World.drewN_drewN _ _ _) (congrArg (World.drewN _) (Nat.add_assoc _ _ _))⟩))); try go_wp2_with (first | (go_at_call 60; (with_reducible refine (impl_within.calls a1_1 0 (wrap64 (a0 - 1)) true _ A10.out).mono ?_); rintro e w' ⟨rfl, ⟨nd, rfl⟩⟩; (try first | exact ⟨rfl, _, World.drewN_drewN _ _ _⟩ | exact ⟨rfl, _, Eq.trans (World.drewN_drewN _ _ _) (congrArg (World.drewN _) (Nat.add_assoc _ _ _))⟩)) | (go_at_call 60; (with_reducible refine (impl_within.calls a1_2 0 (wrap64 (a0 - 1)) true _ A12.out).mono ?_); rintro e w' ⟨rfl, ⟨nd, rfl⟩⟩; (try first | exact ⟨rfl, _, World.drewN_drewN _ _ _⟩ | exact ⟨rfl, _, Eq.trans (World.drewN_drewN _ _ _) (congrArg (World.drewN _) (Nat.add_assoc _ _ _))⟩))))
       go_ret
       exact ⟨by first | rfl | (simp [errW_none, errW_some] <;> rfl) | (simp [*, errW_none, errW_some] <;> rfl), hB⟩
      ·replace c13 := Bool.eq_false_iff.mpr c13
       subst c13
       have H1 : (some false) = some r := by rw [if_neg (show ¬ (false = true) by decide)] at H; exact H
       clear H
       have H := H1
       clear H1
       obtain rfl := Option.some.inj H
       have hcz15_0 := cz BK164 0
       have hcz15_1 := cz BK164 1
       have hcz15_2 := cz BK164 2
       have hfz15_0 := fz BK164 0
       have hfz15_1 := fz BK164 1
       have hfz15_2 := fz BK164 2
       go_wp2_with (first | (go_at_call 60; (with_reducible refine (impl_within.calls a1_1 0 (wrap64 (a0 - 1)) true _ A10.out).mono ?_); rintro e w' ⟨rfl, ⟨nd, rfl⟩⟩; (try first | exact ⟨rfl, _, World.drewN_drewN _ _ _⟩ | exact ⟨rfl, _, Eq.trans (World.drewN_drewN _ _ _) (congrArg (World.drewN _) (Nat.add_assoc _ _ _))⟩)) | (go_at_call 60; (with_reducible refine (impl_within.calls a1_2 0 (wrap64 (a0 - 1)) false _ A12.out).mono ?_); rintro e w' ⟨rfl, ⟨nd, rfl⟩⟩; (try first | exact ⟨rfl, _, World.drewN_drewN _ _ _⟩ | exact ⟨rfl, _, Eq.trans (World.drewN_drewN _ _ _) (congrArg (World.drewN _) (Nat.add_assoc _ _ _))⟩)))
       repeat (go_quiet (first | (go_at_call 60; (with_reducible refine (impl_within.calls a1_1 0 (wrap64 (a0 - 1)) true _ A10.out).mono ?_); rintro e w' ⟨rfl, ⟨nd, rfl⟩⟩; (try first | exact ⟨rfl, _, World.drewN_drewN _ _ _⟩ | exact ⟨rfl, _, Eq.trans (World.drewN_drewN _ _ _) (congrArg (World.drewN _) (Nat.add_assoc _ _ _))⟩)) | (go_at_call 60; (with_reducible refine (impl_within.calls a1_2 0 (wrap64 (a0 - 1)) false _ A12.out).mono ?_); rintro e w' ⟨rfl, ⟨nd, rfl⟩⟩; (try first | exact ⟨rfl, _, World.drewN_drewN _ _ _⟩ | exact ⟨rfl, _, Eq.trans (World.drewN_drewN _ _ _) (congrArg (World.drewN _) (Nat.add_assoc _ _ _))⟩))); try go_wp2_with (first | (go_at_call 60; (with_reducible refine (impl_within.calls a1_1 0 (wrap64 (a0 - 1)) true _ A10.out).mono ?_); rintro e w' ⟨rfl, ⟨nd, rfl⟩⟩; (try first | exact ⟨rfl, _, World.drewN_drewN _ _ _⟩ | exact ⟨rfl, _, Eq.trans (World.drewN_drewN _ _ _) (congrArg (World.drewN _) (Nat.add_assoc _ _ _))⟩)) | (go_at_call 60; (with_reducible refine (impl_within.calls a1_2 0 (wrap64 (a0 - 1)) false _ A12.out).mono ?_); rintro e w' ⟨rfl, ⟨nd, rfl⟩⟩; (try first | exact ⟨rfl, _, World.drewN_drewN _ _ _⟩ | exact ⟨rfl, _, Eq.trans (World.drewN_drewN _ _ _) (congrArg (World.drewN _) (Nat.add_assoc _ _ _))⟩))))
       go_ret
       exact ⟨by first | rfl | (simp [errW_none, errW_some] <;> rfl) | (simp [*, errW_none, errW_some] <;> rfl), hB⟩
     ·replace c11 := Bool.eq_false_iff.mpr c11
      subst c11
      have H1 : (some false) = some r := by rw [if_neg (show ¬ (false = true) by decide)] at H; exact H
      clear H
      have H := H1
      clear H1
      obtain rfl := Option.some.inj H
      have hcz16_0 := cz BK164 0
      have hcz16_1 := cz BK164 1
      have hcz16_2 := cz BK164 2
      have hfz16_0 := fz BK164 0
      have hfz16_1 := fz BK164 1
      have hfz16_2 := fz BK164 2
      go_wp2_with (first | (go_at_call 60; (with_reducible refine (impl_within.calls a1_1 0 (wrap64 (a0 - 1)) false _ A10.out).mono ?_); rintro e w' ⟨rfl, ⟨nd, rfl⟩⟩; (try first | exact ⟨rfl, _, World.drewN_drewN _ _ _⟩ | exact ⟨rfl, _, Eq.trans (World.drewN_drewN _ _ _) (congrArg (World.drewN _) (Nat.add_assoc _ _ _))⟩)))
      repeat (go_quiet (first | (go_at_call 60; (with_reducible refine (impl_within.calls a1_1 0 (wrap64 (a0 - 1)) false _ A10.out).mono ?_); rintro e w' ⟨rfl, ⟨nd, rfl⟩⟩; (try first | exact ⟨rfl, _, World.drewN_drewN _ _ _⟩ | exact ⟨rfl, _, Eq.trans (World.drewN_drewN _ _ _) (congrArg (World.drewN _) (Nat.add_assoc _ _ _))⟩))); try go_wp2_with (first | (go_at_call 60; (with_reducible refine (impl_within.calls a1_1 0 (wrap64 (a0 - 1)) false _ A10.out).mono ?_); rintro e w' ⟨rfl, ⟨nd, rfl⟩⟩; (try first | exact ⟨rfl, _, World.drewN_drewN _ _ _⟩ | exact ⟨rfl, _, Eq.trans (World.drewN_drewN _ _ _) (congrArg (World.drewN _) (Nat.add_assoc _ _ _))⟩))))
      go_ret
      exact ⟨by first | rfl | (simp [errW_none, errW_some] <;> rfl) | (simp [*, errW_none, errW_some] <;> rfl), hB⟩
    ·replace c9 := Bool.eq_false_iff.mpr c9
     subst c9
     rw [if_neg (show ¬ (false = true) by decide)] at H
     by_cases c17 : a1_0 = 2
     ·rw [if_pos c17] at H
      have c17b0 : (a1_0 == 2) = true := beq_iff_eq.mpr c17
      have c17b1 : (a1_0 != 2) = false := bne_eq_false_iff_eq.mpr c17
      clear c17
      replace H := Option.bind_eq_some_iff.mp H
      obtain ⟨t168, A180, H⟩ := H
      try dsimp only at H
      have A18 := Aside0.mk A180
      clear A180
      by_cases c19 : t168 = true
      ·subst c19
       rw [if_pos rfl] at H
       replace H := Option.bind_eq_some_iff.mp H
       obtain ⟨t169, A200, H⟩ := H
       replace H : (some t169) = some r := H
       have A20 := Aside0.mk A200
       clear A200
       obtain rfl := Option.some.inj H
       have hcz21_0 := cz BK164 0
       have hcz21_1 := cz BK164 1
       have hcz21_2 := cz BK164 2
       have hfz21_0 := fz BK164 0
       have hfz21_1 := fz BK164 1
       have hfz21_2 := fz BK164 2
       go_wp2_with (first | (go_at_call 60; (with_reducible refine (impl_within.calls a1_1 0 (wrap64 (a0 - 1)) true _ A18.out).mono ?_); rintro e w' ⟨rfl, ⟨nd, rfl⟩⟩; (try first | exact ⟨rfl, _, World.drewN_drewN _ _ _⟩ | exact ⟨rfl, _, Eq.trans (World.drewN_drewN _ _ _) (congrArg (World.drewN _) (Nat.add_assoc _ _ _))⟩)) | (go_at_call 60; (with_reducible refine (impl_within.calls a1_2 0 (wrap64 (a0 - 1)) t169 _ A20.out).mono ?_); rintro e w' ⟨rfl, ⟨nd, rfl⟩⟩; (try first | exact ⟨rfl, _, World.drewN_drewN _ _ _⟩ | exact ⟨rfl, _, Eq.trans (World.drewN_drewN _ _ _) (congrArg (World.drewN _) (Nat.add_assoc _ _ _))⟩)))
       repeat (go_quiet (first | (go_at_call 60; (with_reducible refine (impl_within.calls a1_1 0 (wrap64 (a0 - 1)) true _ A18.out).mono ?_); rintro e w' ⟨rfl, ⟨nd, rfl⟩⟩; (try first | exact ⟨rfl, _, World.drewN_drewN _ _ _⟩ | exact ⟨rfl, _, Eq.trans (World.drewN_drewN _ _ _) (congrArg (World.drewN _) (Nat.add_assoc _ _ _))⟩)) | (go_at_call 60; (with_reducible refine (impl_within.calls a1_2 0 (wrap64 (a0 - 1)) t169 _ A20.out).mono ?_); rintro e w' ⟨rfl, ⟨nd, rfl⟩⟩; (try first | exact ⟨rfl, _, World.drewN_drewN _ _ _⟩ | exact ⟨rfl, _, Eq.trans (World.drewN_drewN _ _ _) (congrArg (World.drewN _) (Nat.add_assoc _ _ _))⟩))); try go_wp2_with (first | (go_at_call 60; (with_reducible refine (impl_within.calls a1_1 0 (wrap64 (a0 - 1)) true _ A18.out).mono ?_); rintro e w' ⟨rfl, ⟨nd, rfl⟩⟩; (try first | exact ⟨rfl, _, World.drewN_drewN _ _ _⟩ | exact ⟨rfl, _, Eq.trans (World.drewN_drewN _ _ _) (congrArg (World.drewN _) (Nat.add_assoc _ _ _))⟩)) | (go_at_call 60; (with_reducible refine (impl_within.calls a1_2 0 (wrap64 (a0 - 1)) t169 _ A20.out).mono ?_); rintro e w' ⟨rfl, ⟨nd, rfl⟩⟩; (try first | exact ⟨rfl, _, World.drewN_drewN _ _ _⟩ | exact ⟨rfl, _, Eq.trans (World.drewN_drewN _ _ _) (congrArg (World.drewN _) (Nat.add_assoc _ _ _))⟩))))
       go_ret
       exact ⟨by first | rfl | (simp [errW_none, errW_some] <;> rfl) | (simp [*, errW_none, errW_some] <;> rfl), hB⟩
      ·replace c19 := Bool.eq_false_iff.mpr c19
       subst c19
       have H1 : (some false) = some r := by rw [if_neg (show ¬ (false = true) by decide)] at H; exact H
       clear H
       have H := H1
       clear H1
       obtain rfl := Option.some.inj H
       have hcz22_0 := cz BK164 0
       have hcz22_1 := cz BK164 1
       have hcz22_2 := cz BK164 2
       have hfz22_0 := fz BK164 0
       have hfz22_1 := fz BK164 1
       have hfz22_2 := fz BK164 2
       go_wp2_with (first | (go_at_call 60; (with_reducible refine (impl_within.calls a1_1 0 (wrap64 (a0 - 1)) false _ A18.out).mono ?_); rintro e w' ⟨rfl, ⟨nd, rfl⟩⟩; (try first | exact ⟨rfl, _, World.drewN_drewN _ _ _⟩ | exact ⟨rfl, _, Eq.trans (World.drewN_drewN _ _ _) (congrArg (World.drewN _) (Nat.add_assoc _ _ _))⟩)))
       repeat (go_quiet (first | (go_at_call 60; (with_reducible refine (impl_within.calls a1_1 0 (wrap64 (a0 - 1)) false _ A18.out).mono ?_); rintro e w' ⟨rfl, ⟨nd, rfl⟩⟩; (try first | exact ⟨rfl, _, World.drewN_drewN _ _ _⟩ | exact ⟨rfl, _, Eq.trans (World.drewN_drewN _ _ _) (congrArg (World.drewN _) (Nat.add_assoc _ _ _))⟩))); try go_wp2_with (first | (go_at_call 60; (with_reducible refine (impl_within.calls a1_1 0 (wrap64 (a0 - 1)) false _ A18.out).mono ?_); rintro e w' ⟨rfl, ⟨nd, rfl⟩⟩; (try first | exact ⟨rfl, _, World.drewN_drewN _ _ _⟩ | exact ⟨rfl, _, Eq.trans (World.drewN_drewN _ _ _) (congrArg (World.drewN _) (Nat.add_assoc _ _ _))⟩))))
       go_ret
       exact ⟨by first | rfl | (simp [errW_none, errW_some] <;> rfl) | (simp [*, errW_none, errW_some] <;> rfl), hB⟩
     ·rw [if_neg c17] at H
      have c17b0 : (a1_0 == 2) = false := beq_eq_false_iff_ne.mpr c17
      have c17b1 : (a1_0 != 2) = true := bne_iff_ne.mpr c17
      by_cases c23 : a1_0 = 3
      ·rw [if_pos c23] at H
       have c23b0 : (a1_0 == 3) = true := beq_iff_eq.mpr c23
       have c23b1 : (a1_0 != 3) = false := bne_eq_false_iff_eq.mpr c23
       clear c23
       replace H := Option.bind_eq_some_iff.mp H
       obtain ⟨t170, A240, H⟩ := H
       try dsimp only at H
       have A24 := Aside0.mk A240
       clear A240
       replace H := Option.bind_eq_some_iff.mp H
       obtain ⟨t171, A250, H⟩ := H
       try dsimp only at H
       have A25 := Aside0.mk A250
       clear A250
       by_cases c26 : t171 = true
       ·subst c26
        have H1 : (some (a1_2 == 0)) = some r := by rw [if_pos rfl] at H; exact H
        clear H
        have H := H1
        clear H1
        obtain rfl := Option.some.inj H
        have hcz27_0 := cz BK164 0
        have hcz27_1 := cz BK164 1
        have hcz27_2 := cz BK164 2
        have hfz27_0 := fz BK164 0
        have hfz27_1 := fz BK164 1
        have hfz27_2 := fz BK164 2
        go_wp2_with (first | (go_at_call 135; (with_reducible refine (impl_choose.calls kj4 a0 2 t170 _ A24.out).mono ?_); rintro e w' ⟨rfl, ⟨nd, rfl⟩⟩; (try first | exact ⟨rfl, _, World.drewN_drewN _ _ _⟩ | exact ⟨rfl, _, Eq.trans (World.drewN_drewN _ _ _) (congrArg (World.drewN _) (Nat.add_assoc _ _ _))⟩)) | (go_at_call 60; (with_reducible refine (impl_within.calls a1_1 0 t170 true _ A25.out).mono ?_); rintro e w' ⟨rfl, ⟨nd, rfl⟩⟩; (try first | exact ⟨rfl, _, World.drewN_drewN _ _ _⟩ | exact ⟨rfl, _, Eq.trans (World.drewN_drewN _ _ _) (congrArg (World.drewN _) (Nat.add_assoc _ _ _))⟩)))
        repeat (go_quiet (first | (go_at_call 135; (with_reducible refine (impl_choose.calls kj4 a0 2 t170 _ A24.out).mono ?_); rintro e w' ⟨rfl, ⟨nd, rfl⟩⟩; (try first | exact ⟨rfl, _, World.drewN_drewN _ _ _⟩ | exact ⟨rfl, _, Eq.trans (World.drewN_drewN _ _ _) (congrArg (World.drewN _) (Nat.add_assoc _ _ _))⟩)) | (go_at_call 60; (with_reducible refine (impl_within.calls a1_1 0 t170 true _ A25.out).mono ?_); rintro e w' ⟨rfl, ⟨nd, rfl⟩⟩; (try first | exact ⟨rfl, _, World.drewN_drewN _ _ _⟩ | exact ⟨rfl, _, Eq.trans (World.drewN_drewN _ _ _) (congrArg (World.drewN _) (Nat.add_assoc _ _ _))⟩))); try go_wp2_with (first | (go_at_call 135; (with_reducible refine (impl_choose.calls kj4 a0 2 t170 _ A24.out).mono ?_); rintro e w' ⟨rfl, ⟨nd, rfl⟩⟩; (try first | exact ⟨rfl, _, World.drewN_drewN _ _ _⟩ | exact ⟨rfl, _, Eq.trans (World.drewN_drewN _ _ _) (congrArg (World.drewN _) (Nat.add_assoc _ _ _))⟩)) | (go_at_call 60; (with_reducible refine (impl_within.calls a1_1 0 t170 true _ A25.out).mono ?_); rintro e w' ⟨rfl, ⟨nd, rfl⟩⟩; (try first | exact ⟨rfl, _, World.drewN_drewN _ _ _⟩ | exact ⟨rfl, _, Eq.trans (World.drewN_drewN _ _ _) (congrArg (World.drewN _) (Nat.add_assoc _ _ _))⟩))))
        go_ret
        exact ⟨by first | rfl | (simp [errW_none, errW_some] <;> rfl) | (simp [*, errW_none, errW_some] <;> rfl), hB⟩
       ·replace c26 := Bool.eq_false_iff.mpr c26
        subst c26
        have H1 : (some false) = some r := by rw [if_neg (show ¬ (false = true) by decide)] at H; exact H
        clear H
        have H := H1
        clear H1
        obtain rfl := Option.some.inj H
        have hcz28_0 := cz BK164 0
        have hcz28_1 := cz BK164 1
        have hcz28_2 := cz BK164 2
        have hfz28_0 := fz BK164 0
        have hfz28_1 := fz BK164 1
        have hfz28_2 := fz BK164 2
        go_wp2_with (first | (go_at_call 135; (with_reducible refine (impl_choose.calls kj4 a0 2 t170 _ A24.out).mono ?_); rintro e w' ⟨rfl, ⟨nd, rfl⟩⟩; (try first | exact ⟨rfl, _, World.drewN_drewN _ _ _⟩ | exact ⟨rfl, _, Eq.trans (World.drewN_drewN _ _ _) (congrArg (World.drewN _) (Nat.add_assoc _ _ _))⟩)) | (go_at_call 60; (with_reducible refine (impl_within.calls a1_1 0 t170 false _ A25.out).mono ?_); rintro e w' ⟨rfl, ⟨nd, rfl⟩⟩; (try first | exact ⟨rfl, _, World.drewN_drewN _ _ _⟩ | exact ⟨rfl, _, Eq.trans (World.drewN_drewN _ _ _) (congrArg (World.drewN _) (Nat.add_assoc _ _ _))⟩)))
        repeat (go_quiet (first | (go_at_call 135; (with_reducible refine (impl_choose.calls kj4 a0 2 t170 _ A24.out).mono ?_); rintro e w' ⟨rfl, ⟨nd, rfl⟩⟩; (try first | exact ⟨rfl, _, World.drewN_drewN _ _ _⟩ | exact ⟨rfl, _, Eq.trans (World.drewN_drewN _ _ _) (congrArg (World.drewN _) (Nat.add_assoc _ _ _))⟩)) | (go_at_call 60; (with_reducible refine (impl_within.calls a1_1 0 t170 false _ A25.out).mono ?_); rintro e w' ⟨rfl, ⟨nd, rfl⟩⟩; (try first | exact ⟨rfl, _, World.drewN_drewN _ _ _⟩ | exact ⟨rfl, _, Eq.trans (World.drewN_drewN _ _ _) (congrArg (World.drewN _) (Nat.add_assoc _ _ _))⟩))); try go_wp2_with (first | (go_at_call 135; (with_reducible refine (impl_choose.calls kj4 a0 2 t170 _ A24.out).mono ?_); rintro e w' ⟨rfl, ⟨nd, rfl⟩⟩; (try first | exact ⟨rfl, _, World.drewN_drewN _ _ _⟩ | exact ⟨rfl, _, Eq.trans (World.drewN_drewN _ _ _) (congrArg (World.drewN _) (Nat.add_assoc _ _ _))⟩)) | (go_at_call 60; (with_reducible refine (impl_within.calls a1_1 0 t170 false _ A25.out).mono ?_); rintro e w' ⟨rfl, ⟨nd, rfl⟩⟩; (try first | exact ⟨rfl, _, World.drewN_drewN _ _ _⟩ | exact ⟨rfl, _, Eq.trans (World.drewN_drewN _ _ _) (congrArg (World.drewN _) (Nat.add_assoc _ _ _))⟩))))
        go_ret
        exact ⟨by first | rfl | (simp [errW_none, errW_some] <;> rfl) | (simp [*, errW_none, errW_some] <;> rfl), hB⟩
      ·rw [if_neg c23] at H
       have c23b0 : (a1_0 == 3) = false := beq_eq_false_iff_ne.mpr c23
       have c23b1 : (a1_0 != 3) = true := bne_iff_ne.mpr c23
       by_cases c29 : a1_0 = 4
       ·rw [if_pos c29] at H
        have c29b0 : (a1_0 == 4) = true := beq_iff_eq.mpr c29
        have c29b1 : (a1_0 != 4) = false := bne_eq_false_iff_eq.mpr c29
        clear c29
        replace H := Option.bind_eq_some_iff.mp H
        obtain ⟨t172, A300, H⟩ := H
        try dsimp only at H
        have A30 := Aside0.mk A300
        clear A300
        by_cases c31 : t172 = true
        ·subst c31
         have H1 : (some (a1_2 == 0)) = some r := by rw [if_pos rfl] at H; exact H
         clear H
         have H := H1
         clear H1
         obtain rfl := Option.some.inj H
         have hcz32_0 := cz BK164 0
         have hcz32_1 := cz BK164 1
         have hcz32_2 := cz BK164 2
         have hfz32_0 := fz BK164 0
         have hfz32_1 := fz BK164 1
         have hfz32_2 := fz BK164 2
         go_wp2_with (first | (go_at_call 60; (with_reducible refine (impl_within.calls a1_1 0 10 true _ A30.out).mono ?_); rintro e w' ⟨rfl, ⟨nd, rfl⟩⟩; (try first | exact ⟨rfl, _, World.drewN_drewN _ _ _⟩ | exact ⟨rfl, _, Eq.trans (World.drewN_drewN _ _ _) (congrArg (World.drewN _) (Nat.add_assoc _ _ _))⟩)))
         repeat (go_quiet (first | (go_at_call 60; (with_reducible refine (impl_within.calls a1_1 0 10 true _ A30.out).mono ?_); rintro e w' ⟨rfl, ⟨nd, rfl⟩⟩; (try first | exact ⟨rfl, _, World.drewN_drewN _ _ _⟩ | exact ⟨rfl, _, Eq.trans (World.drewN_drewN _ _ _) (congrArg (World.drewN _) (Nat.add_assoc _ _ _))⟩))); try go_wp2_with (first | (go_at_call 60; (with_reducible refine (impl_within.calls a1_1 0 10 true _ A30.out).mono ?_); rintro e w' ⟨rfl, ⟨nd, rfl⟩⟩; (try first | exact ⟨rfl, _, World.drewN_drewN _ _ _⟩ | exact ⟨rfl, _, Eq.trans (World.drewN_drewN _ _ _) (congrArg (World.drewN _) (Nat.add_assoc _ _ _))⟩))))
         go_ret
         exact ⟨by first | rfl | (simp [errW_none, errW_some] <;> rfl) | (simp [*, errW_none, errW_some] <;> rfl), hB⟩
        ·replace c31 := Bool.eq_false_iff.mpr c31
         subst c31
         have H1 : (some false) = some r := by rw [if_neg (show ¬ (false = true) by decide)] at H; exact H
         clear H
         have H := H1
         clear H1
         obtain rfl := Option.some.inj H
         have hcz33_0 := cz BK164 0
         have hcz33_1 := cz BK164 1
         have hcz33_2 := cz BK164 2
         have hfz33_0 := fz BK164 0
         have hfz33_1 := fz BK164 1
         have hfz33_2 := fz BK164 2
         go_wp2_with (first | (go_at_call 60; (with_reducible refine (impl_within.calls a1_1 0 10 false _ A30.out).mono ?_); rintro e w' ⟨rfl, ⟨nd, rfl⟩⟩; (try first | exact ⟨rfl, _, World.drewN_drewN _ _ _⟩ | exact ⟨rfl, _, Eq.trans (World.drewN_drewN _ _ _) (congrArg (World.drewN _) (Nat.add_assoc _ _ _))⟩)))
         repeat (go_quiet (first | (go_at_call 60; (with_reducible refine (impl_within.calls a1_1 0 10 false _ A30.out).mono ?_); rintro e w' ⟨rfl, ⟨nd, rfl⟩⟩; (try first | exact ⟨rfl, _, World.drewN_drewN _ _ _⟩ | exact ⟨rfl, _, Eq.trans (World.drewN_drewN _ _ _) (congrArg (World.drewN _) (Nat.add_assoc _ _ _))⟩))); try go_wp2_with (first | (go_at_call 60; (with_reducible refine (impl_within.calls a1_1 0 10 false _ A30.out).mono ?_); rintro e w' ⟨rfl, ⟨nd, rfl⟩⟩; (try first | exact ⟨rfl, _, World.drewN_drewN _ _ _⟩ | exact ⟨rfl, _, Eq.trans (World.drewN_drewN _ _ _) (congrArg (World.drewN _) (Nat.add_assoc _ _ _))⟩))))
         go_ret
         exact ⟨by first | rfl | (simp [errW_none, errW_some] <;> rfl) | (simp [*, errW_none, errW_some] <;> rfl), hB⟩
       ·rw [if_neg c29] at H
        have c29b0 : (a1_0 == 4) = false := beq_eq_false_iff_ne.mpr c29
        have c29b1 : (a1_0 != 4) = true := bne_iff_ne.mpr c29
        by_cases c34 : a1_0 = 5
        ·rw [if_pos c34] at H
         have c34b0 : (a1_0 == 5) = true := beq_iff_eq.mpr c34
         have c34b1 : (a1_0 != 5) = false := bne_eq_false_iff_eq.mpr c34
         clear c34
         replace H := Option.bind_eq_some_iff.mp H
         obtain ⟨t173, A350, H⟩ := H
         try dsimp only at H
         have A35 := Aside0.mk A350
         clear A350
         by_cases c36 : t173 = true
         ·subst c36
          have H1 : (some (a1_2 == 0)) = some r := by rw [if_pos rfl] at H; exact H
          clear H
          have H := H1
          clear H1
          obtain rfl := Option.some.inj H
          have hcz37_0 := cz BK164 0
          have hcz37_1 := cz BK164 1
          have hcz37_2 := cz BK164 2
          have hfz37_0 := fz BK164 0
          have hfz37_1 := fz BK164 1
          have hfz37_2 := fz BK164 2
          go_wp2_with (first | (go_at_call 60; (with_reducible refine (impl_within.calls a1_1 1 a0 true _ A35.out).mono ?_); rintro e w' ⟨rfl, ⟨nd, rfl⟩⟩; (try first | exact ⟨rfl, _, World.drewN_drewN _ _ _⟩ | exact ⟨rfl, _, Eq.trans (World.drewN_drewN _ _ _) (congrArg (World.drewN _) (Nat.add_assoc _ _ _))⟩)))
          repeat (go_quiet (first | (go_at_call 60; (with_reducible refine (impl_within.calls a1_1 1 a0 true _ A35.out).mono ?_); rintro e w' ⟨rfl, ⟨nd, rfl⟩⟩; (try first | exact ⟨rfl, _, World.drewN_drewN _ _ _⟩ | exact ⟨rfl, _, Eq.trans (World.drewN_drewN _ _ _) (congrArg (World.drewN _) (Nat.add_assoc _ _ _))⟩))); try go_wp2_with (first | (go_at_call 60; (with_reducible refine (impl_within.calls a1_1 1 a0 true _ A35.out).mono ?_); rintro e w' ⟨rfl, ⟨nd, rfl⟩⟩; (try first | exact ⟨rfl, _, World.drewN_drewN _ _ _⟩ | exact ⟨rfl, _, Eq.trans (World.drewN_drewN _ _ _) (congrArg (World.drewN _) (Nat.add_assoc _ _ _))⟩))))
          go_ret
          exact ⟨by first | rfl | (simp [errW_none, errW_some] <;> rfl) | (simp [*, errW_none, errW_some] <;> rfl), hB⟩
         ·replace c36 := Bool.eq_false_iff.mpr c36
          subst c36
          have H1 : (some false) = some r := by rw [if_neg (show ¬ (false = true) by decide)] at H; exact H
          clear H
          have H := H1
          clear H1
          obtain rfl := Option.some.inj H
          have hcz38_0 := cz BK164 0
          have hcz38_1 := cz BK164 1
          have hcz38_2 := cz BK164 2
          have hfz38_0 := fz BK164 0
          have hfz38_1 := fz BK164 1
          have hfz38_2 := fz BK164 2
          go_wp2_with (first | (go_at_call 60; (with_reducible refine (impl_within.calls a1_1 1 a0 false _ A35.out).mono ?_); rintro e w' ⟨rfl, ⟨nd, rfl⟩⟩; (try first | exact ⟨rfl, _, World.drewN_drewN _ _ _⟩ | exact ⟨rfl, _, Eq.trans (World.drewN_drewN _ _ _) (congrArg (World.drewN _) (Nat.add_assoc _ _ _))⟩)))
          repeat (go_quiet (first | (go_at_call 60; (with_reducible refine (impl_within.calls a1_1 1 a0 false _ A35.out).mono ?_); rintro e w' ⟨rfl, ⟨nd, rfl⟩⟩; (try first | exact ⟨rfl, _, World.drewN_drewN _ _ _⟩ | exact ⟨rfl, _, Eq.trans (World.drewN_drewN _ _ _) (congrArg (World.drewN _) (Nat.add_assoc _ _ _))⟩))); try go_wp2_with (first | (go_at_call 60; (with_reducible refine (impl_within.calls a1_1 1 a0 false _ A35.out).mono ?_); rintro e w' ⟨rfl, ⟨nd, rfl⟩⟩; (try first | exact ⟨rfl, _, World.drewN_drewN _ _ _⟩ | exact ⟨rfl, _, Eq.trans (World.drewN_drewN _ _ _) (congrArg (World.drewN _) (Nat.add_assoc _ _ _))⟩))))
          go_ret
          exact ⟨by first | rfl | (simp [errW_none, errW_some] <;> rfl) | (simp [*, errW_none, errW_some] <;> rfl), hB⟩
        ·rw [if_neg c34] at H
         have c34b0 : (a1_0 == 5) = false := beq_eq_false_iff_ne.mpr c34
         have c34b1 : (a1_0 != 5) = true := bne_iff_ne.mpr c34
         obtain rfl := Option.some.inj H
         go_wp2
         repeat (go_quiet (fail); try go_wp2)
         go_ret
         exact ⟨by first | rfl | (simp [errW_none, errW_some] <;> rfl) | (simp [*, errW_none, errW_some] <;> rfl), hB⟩
 ·replace c4 := Bool.eq_false_iff.mpr c4
  subst c4
  have H1 : (some false) = some r := by rw [if_neg (show ¬ (false = true) by decide)] at H; exact H
  clear H
  have H := H1
  clear H1
  obtain rfl := Option.some.inj H
  go_enter Tryd.func116, Tryd.ntmps116
  go_wp2_with (first | ((with_reducible refine gate_dst (N := 3) rfl ?_); refine bxE 3 #[.int .i64 a1_0, .int .i64 a1_1, .int .i64 a1_2] 70 rfl ?_; intro gb164 hg w39 hbox hb; have BK164 := Aside0.mk (hbox); have GW164 := gS HB hg; have GE164 := gS HB hg; replace HB := hS HB hb; clear hb hbox hg) | (go_at_call 103; (with_reducible refine (impl_areGuests.calls a0 false _ A3.out).mono ?_); rintro e w' ⟨rfl, ⟨nd, rfl⟩⟩; (try first | exact ⟨rfl, _, World.drewN_drewN _ _ _⟩ | exact ⟨rfl, _, Eq.trans (World.drewN_drewN _ _ _) (congrArg (World.drewN _) (Nat.add_assoc _ _ _))⟩)))
  repeat (go_quiet (first | ((with_reducible refine gate_dst (N := 3) rfl ?_); refine bxE 3 #[.int .i64 a1_0, .int .i64 a1_1, .int .i64 a1_2] 70 rfl ?_; intro gb164 hg w39 hbox hb; have BK164 := Aside0.mk (hbox); have GW164 := gS HB hg; have GE164 := gS HB hg; replace HB := hS HB hb; clear hb hbox hg) | (go_at_call 103; (with_reducible refine (impl_areGuests.calls a0 false _ A3.out).mono ?_); rintro e w' ⟨rfl, ⟨nd, rfl⟩⟩; (try first | exact ⟨rfl, _, World.drewN_drewN _ _ _⟩ | exact ⟨rfl, _, Eq.trans (World.drewN_drewN _ _ _) (congrArg (World.drewN _) (Nat.add_assoc _ _ _))⟩))); try go_wp2_with (first | ((with_reducible refine gate_dst (N := 3) rfl ?_); refine bxE 3 #[.int .i64 a1_0, .int .i64 a1_1, .int .i64 a1_2] 70 rfl ?_; intro gb164 hg w39 hbox hb; have BK164 := Aside0.mk (hbox); have GW164 := gS HB hg; have GE164 := gS HB hg; replace HB := hS HB hb; clear hb hbox hg) | (go_at_call 103; (with_reducible refine (impl_areGuests.calls a0 false _ A3.out).mono ?_); rintro e w' ⟨rfl, ⟨nd, rfl⟩⟩; (try first | exact ⟨rfl, _, World.drewN_drewN _ _ _⟩ | exact ⟨rfl, _, Eq.trans (World.drewN_drewN _ _ _) (congrArg (World.drewN _) (Nat.add_assoc _ _ _))⟩))))
  go_ret
  exact ⟨by first | rfl | (simp [errW_none, errW_some] <;> rfl) | (simp [*, errW_none, errW_some] <;> rfl), hB⟩
theorem impl_IsClue.ok (k : Nat) (n kd a b : Int) : impl_IsClue.f (k + 4) n kd a b = some (guests n && clueI n kd a b) := by
  unfold impl_IsClue.f impl_areGuests.f guests
  simp only [impl_within.ok, Option.bind_some]
  by_cases hn : 1 ≤ n ∧ n ≤ 5
  · have e1 : wrap64 (n - 1) = n - 1 := wrap_id (by omega) (by omega)
    have e2 := impl_choose.two k n (by omega) (by omega)
    simp only [hn, and_self, decide_true, Bool.true_and, if_true]
    unfold clueI
    simp only [impl_IsClue.j0, impl_within.ok, e1, e2, Option.bind_some]
    generalize n * (n - 1) / 2 = m at *
    clear e1 e2
    by_cases k0 : kd = 0
    · simp only [k0, if_true, beq_self_eq_true, true_or]
      repeat' split
      all_goals (rw [Option.some_inj, Bool.eq_iff_iff]; first | done | (simp_all; done) | (simp_all; omega))
    · by_cases k1 : kd = 1
      · subst k1
        simp only [show ((1 : Int) = 0) = False from by simp, if_true, if_false, beq_self_eq_true, or_true]
        repeat' split
        all_goals (rw [Option.some_inj, Bool.eq_iff_iff]; first | done | (simp_all; done) | (simp_all; omega))
      · simp only [k0, k1, if_false, or_self, beq_iff_eq]
        repeat' split
        all_goals (rw [Option.some_inj, Bool.eq_iff_iff]; first | done | (simp_all; done) | (simp_all; omega))
  · simp [hn]

/-! ### impl_IsPuzzle_1: function 115 (a text of this session's own) -/
def puzzleC (n : Int) (c : S70) : Bool := guests n && clueI n c.f0 c.f1 c.f2
theorem impl_IsPuzzle_1.calls (n : Int) (sv : Value) (b : Nat) (x : S70) (w W : World) (hb : Below w.heap.size w W) (hw : w.cell? ⟨b, 0, none⟩ = some (.int .i64 n)) :
    Calls Tryd.prog 115 #[.agg #[.int .i64 x.f0, .int .i64 x.f1, .int .i64 x.f2], .pointer (some ⟨b, 0, none⟩)] W fun e w' => e = .returned (.bool (!puzzleC n x)) ∧ Below w.heap.size w w' := by
  have hu := Tryd.underlying70
  have hu2 := Tryd.underlying28
  have hc := (hb.cell (World.block_lt_of_cell? w _ hw)).trans hw
  have hlt := World.block_lt_of_cell? W _ hc
  simp only at hlt
  have HB := Aside0.mk hb
  have HI := Aside0.mk (show impl_IsClue.f 4 n x.f0 x.f1 x.f2 = some (puzzleC n x) from impl_IsClue.ok 0 n x.f0 x.f1 x.f2)
  clear hb hw
  go_enter Tryd.func115, Tryd.ntmps115
  go_wp2_with (go_at_call 116; refine (impl_IsClue.calls _ _ _ _ _ _ _ HI.out).mono ?_; rintro e w' ⟨rfl, hb⟩; have HB2 := Aside0.mk hb; clear hb)
  go_ret
  exact ⟨rfl, (HB.out.alloc (below_size HB.out) _).trans (HB2.out.mono (by have := below_size HB.out; simp; omega))⟩

/-! ### impl_IsPuzzle: function 73 (a text of this session's own) -/
def impl_IsPuzzle.f (a0_0 : Int) (l0_1 : List S70) : Option Bool := some (guests a0_0 && decide (l0_1.length ≤ 8) && l0_1.all (puzzleC a0_0))
set_option maxHeartbeats 4000000 in
set_option maxRecDepth 100000 in
theorem impl_IsPuzzle.calls (a0_0 : Int) (A0_1 : Option Addr) (c0_1 : Nat) (l0_1 : List S70) (r : Bool) (w : World) (hr0_1 : Kd.C k70 w A0_1 l0_1.length l0_1) (hc0_1 : l0_1.length ≤ c0_1) (h : impl_IsPuzzle.f a0_0 l0_1 = some r) :
    Calls Tryd.prog 73 #[.agg #[.int .i64 a0_0, .slice A0_1 l0_1.length c0_1]] w fun e w' => e = .returned (.bool r) ∧ Below w.heap.size w w' := by
  have hu := Tryd.underlying28
  have hg : impl_areGuests.f a0_0 = some (guests a0_0) := by unfold impl_areGuests.f guests; simp [impl_within.ok]
  unfold impl_IsPuzzle.f at h
  have hlen : l0_1.length ≤ 9223372036854775807 := hr0_1.2.1
  have eg := enters_of Tryd.func115 (by kernel_rfl) rfl
  have HR := Aside0.mk hr0_1
  clear hr0_1 hc0_1
  by_cases h1 : guests a0_0 = true
  · rw [h1] at h hg
    have HG := Aside0.mk hg
    clear hg
    by_cases h2 : l0_1.length ≤ 8
    · have h2b : decide ((l0_1.length : Int) ≤ 8) = true := by simp only [decide_eq_true_eq]; omega
      rw [decide_eq_true h2] at h
      have HC := Aside0.mk (fun W (hb : Below w.heap.size w W) hw => impl_Clue_114.calls A0_1 c0_1 l0_1 (fun x => !puzzleC a0_0 x) 115 #[.pointer (some ⟨w.heap.size, 0, none⟩)] W eg (Kd.C_below HR.out hb) (fun W' x _ hb' => (impl_IsPuzzle_1.calls a0_0 (.slice A0_1 l0_1.length c0_1) w.heap.size x W W' hb' hw)))
      have H := Aside0.mk h
      clear h hlen eg HR h1 h2
      go_enter Tryd.func73, Tryd.ntmps73
      go_wp2_with (first | (go_at_call 103; refine (impl_areGuests.calls _ _ _ HG.out).mono ?_; rintro e w' ⟨rfl, ⟨m, rfl⟩⟩) | (go_at_call 114; refine (HC.out _ (by repeat (first | exact Below.refl _ _ | apply below_alloc | apply pw_below_drewN)) (by go_simp)).mono ?_; rintro e w' ⟨rfl, hb⟩; have HB := Aside0.mk hb; clear hb))
      go_ret
      have e := Option.some.inj H.out
      refine ⟨?_, below_step (by repeat (first | exact Below.refl _ _ | apply below_alloc | apply pw_below_drewN)) HB.out⟩
      rw [← e]
      show Ending.returned (.bool (!(l0_1.any fun x => !puzzleC a0_0 x))) = _
      congr 2
      rw [List.all_eq_not_any_not]; simp
    · have h2b : decide ((l0_1.length : Int) ≤ 8) = false := by simp only [decide_eq_false_iff_not]; omega
      rw [decide_eq_false h2] at h
      have H := Aside0.mk h
      clear h hlen eg HR h1 h2
      go_enter Tryd.func73, Tryd.ntmps73
      go_wp2_with (go_at_call 103; refine (impl_areGuests.calls _ _ _ HG.out).mono ?_; rintro e w' ⟨rfl, ⟨m, rfl⟩⟩)
      go_ret
      have e := Option.some.inj H.out
      exact ⟨by rw [← e]; rfl, by repeat (first | exact Below.refl _ _ | apply below_alloc | apply pw_below_drewN)⟩
  · have h1 : guests a0_0 = false := by simpa using h1
    rw [h1] at h hg
    have HG := Aside0.mk hg
    have H := Aside0.mk h
    clear hg h hlen eg HR h1
    go_enter Tryd.func73, Tryd.ntmps73
    go_wp2_with (go_at_call 103; refine (impl_areGuests.calls _ _ _ HG.out).mono ?_; rintro e w' ⟨rfl, ⟨m, rfl⟩⟩)
    go_ret
    have e := Option.some.inj H.out
    exact ⟨by rw [← e]; rfl, by repeat (first | exact Below.refl _ _ | apply below_alloc | apply pw_below_drewN)⟩

/-! ### strconv_Itoa: function 129 (a text of this session's own) -/
/-- A number up to ten, told. -/
def strconv_Itoa.dg (a0 : Int) : ByteArray := if a0 < 10 then strOfNums [48 + a0] else strOfNums [49, 48]
def strconv_Itoa.f (a0 : Int) : Option ByteArray := if 0 ≤ a0 then (if a0 < 11 then some (strconv_Itoa.dg a0) else none) else none
set_option maxHeartbeats 4000000 in
set_option maxRecDepth 100000 in
theorem strconv_Itoa.small (a0 : Int) (h0 : 0 ≤ a0) (h1 : a0 < 11) (w : World) : Calls Tryd.prog 157 #[.int .i64 a0] w fun e w' => e = .returned (.string (strconv_Itoa.dg a0)) ∧ w' = w := by
  obtain rfl | rfl | rfl | rfl | rfl | rfl | rfl | rfl | rfl | rfl | rfl : a0 = 0 ∨ a0 = 1 ∨ a0 = 2 ∨ a0 = 3 ∨ a0 = 4 ∨ a0 = 5 ∨ a0 = 6 ∨ a0 = 7 ∨ a0 = 8 ∨ a0 = 9 ∨ a0 = 10 := by omega
  all_goals
    go_enter Tryd.func157, Tryd.ntmps157
    go_wp2
    go_ret
    exact ⟨by kernel_rfl, rfl⟩
set_option maxHeartbeats 4000000 in
set_option maxRecDepth 100000 in
theorem strconv_Itoa.format (a0 : Int) (h0 : 0 ≤ a0) (h1 : a0 < 11) (w : World) : Calls Tryd.prog 154 #[.int .i64 a0, .int .i64 10] w fun e w' => e = .returned (.string (strconv_Itoa.dg a0)) ∧ w' = w := by
  have H0 := Aside0.mk h0
  have H1 := Aside0.mk h1
  have c0 : decide (0 ≤ a0) = true := decide_eq_true h0
  have c1 : decide (a0 < 100) = true := decide_eq_true (by omega)
  clear h0 h1
  go_enter Tryd.func154, Tryd.ntmps154
  go_wp2_with ((with_reducible refine gate_callee (f := 157) rfl ?_); refine goC (N := some 19) Tryd.func157 #[.int .i64 a0] rfl ?_; refine (strconv_Itoa.small a0 H0.out H1.out _).mono ?_; rintro e w' ⟨rfl, rfl⟩; refine ⟨_, rfl, ?_⟩)
  go_ret
  exact ⟨rfl, rfl⟩
set_option maxHeartbeats 4000000 in
set_option maxRecDepth 100000 in
theorem strconv_Itoa.inner (a0 : Int) (h0 : 0 ≤ a0) (h1 : a0 < 11) (w : World) : Calls Tryd.prog 148 #[.int .i64 a0] w fun e w' => e = .returned (.string (strconv_Itoa.dg a0)) ∧ w' = w := by
  have H0 := Aside0.mk h0
  have H1 := Aside0.mk h1
  clear h0 h1
  go_enter Tryd.func148, Tryd.ntmps148
  go_wp2_with ((with_reducible refine gate_callee (f := 154) rfl ?_); refine goC (N := some 4) Tryd.func154 #[.int .i64 a0, .int .i64 10] rfl ?_; refine (strconv_Itoa.format a0 H0.out H1.out _).mono ?_; rintro e w' ⟨rfl, rfl⟩; refine ⟨_, rfl, ?_⟩)
  go_ret
  exact ⟨rfl, rfl⟩
set_option maxHeartbeats 4000000 in
set_option maxRecDepth 100000 in
theorem strconv_Itoa.calls (a0 : Int) (r : ByteArray) (w : World) (h : strconv_Itoa.f a0 = some r) : Calls Tryd.prog 129 #[.int .i64 a0] w fun e w' => e = .returned (.string r) ∧ Below w.heap.size w w' := by
  unfold strconv_Itoa.f at h
  by_cases h0 : 0 ≤ a0
  · rw [if_pos h0] at h
    by_cases h1 : a0 < 11
    · rw [if_pos h1] at h
      obtain rfl := Option.some.inj h
      have H0 := Aside0.mk h0
      have H1 := Aside0.mk h1
      clear h0 h1 h
      go_enter Tryd.func129, Tryd.ntmps129
      go_wp2_with ((with_reducible refine gate_callee (f := 148) rfl ?_); refine goC (N := some 4) Tryd.func148 #[.int .i64 a0] rfl ?_; refine (strconv_Itoa.inner a0 H0.out H1.out _).mono ?_; rintro e w' ⟨rfl, rfl⟩; refine ⟨_, rfl, ?_⟩)
      go_ret
      exact ⟨rfl, Below.refl _ _⟩
    · rw [if_neg h1] at h; cases h
  · rw [if_neg h0] at h; cases h

/-! ### strings_Join: function 130 (a text of this session's own) -/
-- WANTS Derived.Shelf.Strings.OnBuilder

/-- Texts joined. -/
def strings_Join.f (l0 : List ByteArray) (a1 : ByteArray) : Option ByteArray := if l0.length ≤ 1000000 then (if (Lib.join (l0.map (·.data.toList)) a1.data.toList).length ≤ 1000000 then some ⟨(Lib.join (l0.map (·.data.toList)) a1.data.toList).toArray⟩ else none) else none
section
open Go.Shelf
def strings_Join.jn_ren : Go.Shelf.Ren := ⟨fun | 156 => 130 | 165 => 149 | 166 => 150 | 169 => 151 | 240 => 155 | 241 => 156 | 276 => 161 | 277 => 162 | n => n, fun | 31 => 143 | 9 => 9 | 3 => 3 | 4 => 4 | 0 => 0 | 20 => 20 | 72 => 164 | 76 => 168 | 70 => 162 | 37 => 161 | 75 => 167 | 127 => 173 | 164 => 180 | 5 => 5 | 80 => 170 | n => n, fun | n => n⟩
theorem strings_Join.jn : Go.Proofs.Lays.n156 Tryd.prog strings_Join.jn_ren := {
  mixed := by kernel_rfl
  f156 := Tryd.func130.trans (congrArg some (by kernel_rfl))
  f165 := Tryd.func149.trans (congrArg some (by kernel_rfl))
  f166 := Tryd.func150.trans (congrArg some (by kernel_rfl))
  f169 := Tryd.func151.trans (congrArg some (by kernel_rfl))
  f240 := Tryd.func155.trans (congrArg some (by kernel_rfl))
  f241 := Tryd.func156.trans (congrArg some (by kernel_rfl))
  f276 := Tryd.func161.trans (congrArg some (by kernel_rfl))
  f277 := Tryd.func162.trans (congrArg some (by kernel_rfl))
  t0 := Tryd.underlying0
  a0 := Tryd.isAgg0
  z0 := Tryd.sizeOf0
  v0 := Tryd.zeroValue0
  t3 := Tryd.underlying3
  a3 := Tryd.isAgg3
  z3 := Tryd.sizeOf3
  v3 := Tryd.zeroValue3
  t4 := Tryd.underlying4
  a4 := Tryd.isAgg4
  z4 := Tryd.sizeOf4
  v4 := Tryd.zeroValue4
  t9 := Tryd.underlying9
  a9 := Tryd.isAgg9
  z9 := Tryd.sizeOf9
  v9 := Tryd.zeroValue9
  t20 := Tryd.underlying20
  a20 := Tryd.isAgg20
  z20 := Tryd.sizeOf20
  v20 := Tryd.zeroValue20
  t31 := Tryd.underlying143
  a31 := Tryd.isAgg143
  z31 := Tryd.sizeOf143
  v31 := Tryd.zeroValue143
  t37 := Tryd.underlying161
  a37 := Tryd.isAgg161
  z37 := Tryd.sizeOf161
  v37 := Tryd.zeroValue161
  t70 := Tryd.underlying162
  a70 := Tryd.isAgg162
  z70 := Tryd.sizeOf162
  v70 := Tryd.zeroValue162
  t72 := Tryd.underlying164
  a72 := Tryd.isAgg164
  z72 := Tryd.sizeOf164
  v72 := Tryd.zeroValue164
  t75 := Tryd.underlying167
  a75 := Tryd.isAgg167
  z75 := Tryd.sizeOf167
  v75 := Tryd.zeroValue167
  t76 := Tryd.underlying168
  a76 := Tryd.isAgg168
  z76 := Tryd.sizeOf168
  v76 := Tryd.zeroValue168
  t127 := Tryd.underlying173
  a127 := Tryd.isAgg173
  z127 := Tryd.sizeOf173
  v127 := Tryd.zeroValue173
  t164 := Tryd.underlying180
  a164 := Tryd.isAgg180
  z164 := Tryd.sizeOf180
  v164 := Tryd.zeroValue180 }
theorem strings_Join.jx : Builder.Extra Tryd.prog strings_Join.jn_ren := {
  sizeBuilder := by kernel_rfl
  liesBuilder := by kernel_rfl
  t5 := Tryd.underlying5
  a5 := Tryd.isAgg5
  z5 := Tryd.sizeOf5
  v5 := Tryd.zeroValue5
  infoByte := by kernel_rfl
  cellsByte := by kernel_rfl
  sizeByte := by kernel_rfl
  neB5 := by decide }
end
theorem strings_Join.calls (A0 : Option Addr) (c0 : Nat) (l0 : List ByteArray) (a1 : ByteArray) (r : ByteArray) (w : World) (hr0 : Kd.C Kd.string w A0 l0.length l0) (hc0 : l0.length ≤ c0) (h : strings_Join.f l0 a1 = some r) :
    Calls Tryd.prog 130 #[.slice A0 l0.length c0, .string a1] w fun e w' => e = .returned (.string r) ∧ Below w.heap.size w w' := by
  unfold strings_Join.f at h
  by_cases h0 : l0.length ≤ 1000000
  · rw [if_pos h0] at h
    by_cases h1 : (Lib.join (l0.map (·.data.toList)) a1.data.toList).length ≤ 1000000
    · rw [if_pos h1] at h
      obtain rfl := Option.some.inj h
      clear h
      cases l0 with
      | nil =>
        refine (Any.strings_Join_none strings_Join.jn strings_Join.jx A0 c0 a1 w).mono ?_
        rintro e w' ⟨rfl, rfl⟩
        refine ⟨?_, Below.refl _ _⟩
        simp [Lib.join]
      | cons x l =>
        have hcell : ∃ b o, A0 = some ⟨b, o, none⟩ ∧ b < w.heap.size ∧ ∀ (j : Nat) y, (x :: l)[j]? = some y → w.cell? ⟨b, o + j, none⟩ = some (.string y) := by
          obtain ⟨ad, rfl, hc⟩ := hr0.2.2 (by simp)
          have hj : ∀ (j : Nat) y, (x :: l)[j]? = some y → w.cell? (ad.add j) = some (.string y) := by
            intro j y hy
            obtain ⟨c, _, hk, hcc⟩ := hc j y hy
            have hk2 : c = [.string y] := hk
            subst hk2
            have h3 := hcc 0 _ rfl
            have h4 : Kd.string.sz = 1 := rfl
            rw [h4, Nat.mul_one, Nat.add_zero] at h3
            exact h3
          clear hc
          obtain ⟨b, o, t⟩ := ad
          have hc0 : w.cell? ⟨b, o, t⟩ = some (.string x) := hj 0 x rfl
          have ht : t = none := by
            cases t with
            | none => rfl
            | some t =>
              simp [World.cell?] at hc0
              split at hc0 <;> cases hc0
          subst ht
          refine ⟨b, o, rfl, ?_, fun j y hy => (by
            have h5 := hj j y hy
            by_cases e : j = 0
            · subst e
              simpa [Addr.add] using h5
            · simpa [Addr.add, e] using h5)⟩
          refine Nat.lt_of_not_le (fun hh => ?_)
          have : w.heap[b]? = none := Array.getElem?_eq_none hh
          simp [World.cell?, this] at hc0
        obtain ⟨b, o, rfl, hb, hcells⟩ := hcell
        exact Any.strings_Join strings_Join.jn strings_Join.jx b o c0 (x :: l) a1 w hcells hb (by omega) hc0 (by omega)
    · rw [if_neg h1] at h; cases h
  · rw [if_neg h0] at h; cases h

end Go.Proofs.YtjpfbkkikcpmhaaDoor.PFnExactPuzzleText
