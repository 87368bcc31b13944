-- Of this session's own program wip/gen/gen.py (it drives the kit's print): contracts of the functions that the law reaches.
import Derived.Test.YtomlbbnoicpfpaaDoorPFnExactCountNeitherx0
import Derived.Test.YtomlbbnoicpfpaaDoorPFnExactCountNeitherx5
import Derived.Test.YtomlbbnoicpfpaaDoorPFnExactCountNeitherx6
namespace Go.Proofs.YtomlbbnoicpfpaaDoor.PFnExactCountNeither
open Go.RowKit Go.Proofs.YtomlbbnoicpfpaaDoorW.PrintWords Go.Proofs.YtomlbbnoicpfpaaDoorW.PrintLast Go.Proofs.YtomlbbnoicpfpaaDoorW.PrintMore Go.Proofs.YtomlbbnoicpfpaaDoor.Base
attribute [local go_sem] max2_int min2_int max_two min_two max_three min_three max_four min_four   -- for this text's walks alone
set_option linter.unusedVariables false
set_option linter.unusedSimpArgs false

/-! ### impl_CountNeither: function 19 -/
mutual
def impl_CountNeither.j0 : Nat → Int → Int → Int → Bool → Option (Int × Bool)
 | 0, _, _, _, _ => none
 | k + 1, x0, x1, x2, x23 => if x23 = true then (some (0, false)) else ((impl_FullParty.f k x0).bind fun bt257 => (impl_CountNeither.l0 k x0 x1 x2 0 (shl .i64 1 (bt257.2.1.length : Int)) 0 bt257.1 bt257.2.1))
def impl_CountNeither.l0 : Nat → Int → Int → Int → Int → Int → Int → Int → List (S89) → Option (Int × Bool)
 | 0, _, _, _, _, _, _, _, _ => none
 | k + 1, x0, x1, x2, x10, x32, x33, x263000, x263001 => if x33 < x32 then (if 0 ≤ x0 then (if (x0 : Int).toNat ≤ 140737488355328 then (impl_CountNeither.l1 k x0 x1 x2 x10 x33 (List.replicate (x0 : Int).toNat 0) x32 x33 x263001 (x263001.length : Int) 0 x263000 x263001) else (none)) else (none)) else (some (x10, true))
def impl_CountNeither.l1 : Nat → Int → Int → Int → Int → Int → List Int → Int → Int → List (S89) → Int → Int → Int → List (S89) → Option (Int × Bool)
 | 0, _, _, _, _, _, _, _, _, _, _, _, _, _ => none
 | k + 1, x0, x1, x2, x10, x11, x12, x32, x33, x39, x40, x41, x263000, x263001 => if x41 < x40 then (if 0 ≤ x41 then (if x41 < (x39.length : Int) then (if (Go.bits .and .i64 (shr .i64 x11 x41) 1) = 1 then ((impl_table_put.f x12 ((rd_T89 x39 x41).f0) ((rd_T89 x39 x41).f1)).bind fun t268 => (impl_CountNeither.l1 k x0 x1 x2 x10 x11 t268 x32 x33 x39 x40 (wrap64 (x41 + 1)) x263000 x263001)) else (impl_CountNeither.l1 k x0 x1 x2 x10 x11 x12 x32 x33 x39 x40 (wrap64 (x41 + 1)) x263000 x263001)) else (none)) else (none)) else ((impl_table_hasNeither.f k x12 x1 x2).bind fun t269 => ((impl_bit.f t269).bind fun t270 => (impl_CountNeither.l0 k x0 x1 x2 (wrap64 (x10 + t270)) x32 (wrap64 (x33 + 1)) x263000 x263001)))
end
def impl_CountNeither.f (k : Nat) (a0 : Int) (a1 : Int) (a2 : Int) : Option (Int × Bool) := (impl_within.f a0 0 6).bind fun t255 => (if t255 = true then ((impl_areSides.f a1 a2).bind fun t256 => (impl_CountNeither.j0 k a0 a1 a2 (!t256))) else (impl_CountNeither.j0 k a0 a1 a2 true))
theorem impl_CountNeither.mono_l : ∀ k, (∀ y0 y1 y2 y3, LeO (impl_CountNeither.j0 k y0 y1 y2 y3) (impl_CountNeither.j0 (k + 1) y0 y1 y2 y3)) ∧ (∀ y0 y1 y2 y3 y4 y5 y6 y7, LeO (impl_CountNeither.l0 k y0 y1 y2 y3 y4 y5 y6 y7) (impl_CountNeither.l0 (k + 1) y0 y1 y2 y3 y4 y5 y6 y7)) ∧ (∀ y0 y1 y2 y3 y4 y5 y6 y7 y8 y9 y10 y11 y12, LeO (impl_CountNeither.l1 k y0 y1 y2 y3 y4 y5 y6 y7 y8 y9 y10 y11 y12) (impl_CountNeither.l1 (k + 1) y0 y1 y2 y3 y4 y5 y6 y7 y8 y9 y10 y11 y12))
 | 0 => ⟨fun _ _ _ _ r h => by simp [impl_CountNeither.j0] at h, fun _ _ _ _ _ _ _ _ r h => by simp [impl_CountNeither.l0] at h, fun _ _ _ _ _ _ _ _ _ _ _ _ _ r h => by simp [impl_CountNeither.l1] at h⟩
 | k + 1 => by
  obtain ⟨ih0, ih1, ih2⟩ := impl_CountNeither.mono_l k
  refine ⟨?_, ?_, ?_⟩
  ·intro y0 y1 y2 y3
   unfold impl_CountNeither.j0
   repeat' first
   | (with_reducible exact ih0 _ _ _ _)
   | (with_reducible exact ih1 _ _ _ _ _ _ _ _)
   | (with_reducible exact ih2 _ _ _ _ _ _ _ _ _ _ _ _ _)
   | (with_reducible exact impl_FullParty.mono _ _)
   | (with_reducible exact impl_table_hasNeither.mono _ _ _ _)
   | (with_reducible exact LeO.refl _)
   | (with_reducible exact LeO.none _)
   | (with_reducible refine LeO.ite ?_ ?_)
   | (with_reducible refine LeO.bind ?_ (fun _ => ?_))
   | exact ih0 _ _ _ _
   | exact ih1 _ _ _ _ _ _ _ _
   | exact ih2 _ _ _ _ _ _ _ _ _ _ _ _ _
   | exact impl_FullParty.mono _ _
   | exact impl_table_hasNeither.mono _ _ _ _
   | exact LeO.none _
   | refine LeO.ite ?_ ?_
   | refine LeO.bind ?_ (fun _ => ?_)
  ·intro y0 y1 y2 y3 y4 y5 y6 y7
   unfold impl_CountNeither.l0
   repeat' first
   | (with_reducible exact ih0 _ _ _ _)
   | (with_reducible exact ih1 _ _ _ _ _ _ _ _)
   | (with_reducible exact ih2 _ _ _ _ _ _ _ _ _ _ _ _ _)
   | (with_reducible exact impl_FullParty.mono _ _)
   | (with_reducible exact impl_table_hasNeither.mono _ _ _ _)
   | (with_reducible exact LeO.refl _)
   | (with_reducible exact LeO.none _)
   | (with_reducible refine LeO.ite ?_ ?_)
   | (with_reducible refine LeO.bind ?_ (fun _ => ?_))
   | exact ih0 _ _ _ _
   | exact ih1 _ _ _ _ _ _ _ _
   | exact ih2 _ _ _ _ _ _ _ _ _ _ _ _ _
   | exact impl_FullParty.mono _ _
   | exact impl_table_hasNeither.mono _ _ _ _
   | exact LeO.none _
   | refine LeO.ite ?_ ?_
   | refine LeO.bind ?_ (fun _ => ?_)
  ·intro y0 y1 y2 y3 y4 y5 y6 y7 y8 y9 y10 y11 y12
   unfold impl_CountNeither.l1
   repeat' first
   | (with_reducible exact ih0 _ _ _ _)
   | (with_reducible exact ih1 _ _ _ _ _ _ _ _)
   | (with_reducible exact ih2 _ _ _ _ _ _ _ _ _ _ _ _ _)
   | (with_reducible exact impl_FullParty.mono _ _)
   | (with_reducible exact impl_table_hasNeither.mono _ _ _ _)
   | (with_reducible exact LeO.refl _)
   | (with_reducible exact LeO.none _)
   | (with_reducible refine LeO.ite ?_ ?_)
   | (with_reducible refine LeO.bind ?_ (fun _ => ?_))
   | exact ih0 _ _ _ _
   | exact ih1 _ _ _ _ _ _ _ _
   | exact ih2 _ _ _ _ _ _ _ _ _ _ _ _ _
   | exact impl_FullParty.mono _ _
   | exact impl_table_hasNeither.mono _ _ _ _
   | exact LeO.none _
   | refine LeO.ite ?_ ?_
   | refine LeO.bind ?_ (fun _ => ?_)
theorem impl_CountNeither.mono : ∀ a0 a1 a2 k, LeO (impl_CountNeither.f k a0 a1 a2) (impl_CountNeither.f (k + 1) a0 a1 a2) := by
 intro a0 a1 a2 k
 obtain ⟨ih0, ih1, ih2⟩ := impl_CountNeither.mono_l k
 unfold impl_CountNeither.f
 repeat' first
   | (with_reducible exact ih0 _ _ _ _)
   | (with_reducible exact ih1 _ _ _ _ _ _ _ _)
   | (with_reducible exact ih2 _ _ _ _ _ _ _ _ _ _ _ _ _)
   | (with_reducible exact impl_FullParty.mono _ _)
   | (with_reducible exact impl_table_hasNeither.mono _ _ _ _)
   | (with_reducible exact LeO.refl _)
   | (with_reducible exact LeO.none _)
   | (with_reducible refine LeO.ite ?_ ?_)
   | (with_reducible refine LeO.bind ?_ (fun _ => ?_))
   | exact ih0 _ _ _ _
   | exact ih1 _ _ _ _ _ _ _ _
   | exact ih2 _ _ _ _ _ _ _ _ _ _ _ _ _
   | exact impl_FullParty.mono _ _
   | exact impl_table_hasNeither.mono _ _ _ _
   | exact LeO.none _
   | refine LeO.ite ?_ ?_
   | refine LeO.bind ?_ (fun _ => ?_)
set_option maxHeartbeats 8000000 in
set_option maxRecDepth 100000 in
theorem impl_CountNeither.calls (k : Nat) (a0 : Int) (a1 : Int) (a2 : Int) (r1 : Int) (r2 : Bool) (w : World) (h : impl_CountNeither.f k a0 a1 a2 = some (r1, r2)) (hG : GTab 0 w := by first | exact Aside0.out ‹Aside0 (GTab _ _)› | exact GTab.up (Aside0.out ‹Aside0 (GTab _ _)›) (by repeat (first | (with_reducible first | exact Below.refl _ _ | exact Aside0.out ‹Aside0 (Below _ _ _)› | apply below_alloc | apply pw_below_drewN | apply below_drew1 | refine below_set ?_ (Aside0.out (by assumption))) | exact Aside0.out ‹Aside0 (Below _ _ _)›))) :
  Calls Tryd.prog 19 #[.int .i64 a0, .int .i64 a1, .int .i64 a2] w fun e w' => e = .returned (.tuple #[.int .i64 r1, .bool r2]) ∧ Below w.heap.size w w' := by
 have hu30 := Tryd.underlying30
 have hu89 := Tryd.underlying89
 have HG := Aside0.mk (p := GTab _ _) hG
 clear hG
 have HB := Aside0.mk (Below.refl w.heap.size w)
 have H : ((impl_within.f a0 0 6).bind fun t255 => (if t255 = true then ((impl_areSides.f a1 a2).bind fun t256 => (impl_CountNeither.j0 k a0 a1 a2 (!t256))) else (impl_CountNeither.j0 k a0 a1 a2 true))) = some (r1, r2) := h
 clear h
 have HC4 := Aside0.mk H
 clear H
 go_enter Tryd.func19, Tryd.ntmps19
 go_upto_region 1 with (fail)
 go_cut [23] (fun v23 wc => ∃ (kq : Nat) (x23_3 : Bool), v23 = .bool x23_3 ∧ Aside0 (impl_CountNeither.j0 kq a0 a1 a2 x23_3 = some (r1, r2)) ∧ Aside0 (kq ≤ k) ∧ Aside0 (Below w.heap.size w wc))
 case first =>
  have H := HC4.out
  clear HC4
  replace H := Option.bind_eq_some_iff.mp H
  obtain ⟨t255, A50, H⟩ := H
  replace H : (if t255 = true then ((impl_areSides.f a1 a2).bind fun t256 => (impl_CountNeither.j0 k a0 a1 a2 (!t256))) else (impl_CountNeither.j0 k a0 a1 a2 true)) = some (r1, r2) := H
  have A5 := Aside0.mk A50
  clear A50
  by_cases c6 : t255 = true
  ·subst c6
   have H1 : ((impl_areSides.f a1 a2).bind fun t256 => (impl_CountNeither.j0 k a0 a1 a2 (!t256))) = some (r1, r2) := by rw [if_pos rfl] at H; exact H
   clear H
   have H := H1
   clear H1
   replace H := Option.bind_eq_some_iff.mp H
   obtain ⟨t256, A70, H⟩ := H
   replace H : (impl_CountNeither.j0 k a0 a1 a2 (!t256)) = some (r1, r2) := H
   have A7 := Aside0.mk A70
   clear A70
   have H' := Aside0.mk H
   clear H
   go_wp2_with (first | ((with_reducible refine gate_callee (f := 54) rfl ?_); refine goesL_ (some 16) rfl rfl Tryd.func54 (by kernel_rfl) rfl #[.int .i64 a0, .int .i64 0, .int .i64 6] rfl mapT ?_; (with_reducible refine (impl_within.calls a0 0 6 true _ A5.out).mono ?_); rintro e w' ⟨rfl, ⟨nd, rfl⟩⟩; refine ⟨_, rfl, ?_⟩) | (go_at_call 48; (with_reducible refine (impl_areSides.calls a1 a2 t256 _ A7.out).mono ?_); rintro e w' ⟨rfl, ⟨nd, rfl⟩⟩))
   go_meet
   case rel => exact ⟨_, (!t256), (by first | rfl | (simp; done) | (simp [*]; done)), H', ⟨by first | omega | exact Nat.le_refl _⟩, ⟨hB⟩⟩
  ·replace c6 := Bool.eq_false_iff.mpr c6
   subst c6
   have H1 : (impl_CountNeither.j0 k a0 a1 a2 true) = some (r1, r2) := by rw [if_neg (show ¬ (false = true) by decide)] at H; exact H
   clear H
   have H := H1
   clear H1
   have H' := Aside0.mk H
   clear H
   go_wp2_with (first | ((with_reducible refine gate_callee (f := 54) rfl ?_); refine goesL_ (some 16) rfl rfl Tryd.func54 (by kernel_rfl) rfl #[.int .i64 a0, .int .i64 0, .int .i64 6] rfl mapT ?_; (with_reducible refine (impl_within.calls a0 0 6 false _ A5.out).mono ?_); rintro e w' ⟨rfl, ⟨nd, rfl⟩⟩; refine ⟨_, rfl, ?_⟩))
   go_meet
   case rel => exact ⟨_, (true), (by first | rfl | (simp; done) | (simp [*]; done)), H', ⟨by first | omega | exact Nat.le_refl _⟩, ⟨hB⟩⟩
 case rest =>
  clear HC4
  try clear c1
  try clear p2
  try clear c5
  try clear c6
  obtain ⟨kq, x23_3, rfl, HA, HJ3, HB⟩ := hcut
  cases kq with
  | zero => exact absurd HA.out (by simp [impl_CountNeither.j0])
  | succ kj3 =>
   have H := HA.out
   clear HA
   simp only [impl_CountNeither.j0] at H
   by_cases c8 : x23_3 = true
   ·subst c8
    have H1 : (some (0, false)) = some (r1, r2) := by rw [if_pos rfl] at H; exact H
    clear H
    have H := H1
    clear H1
    simp only [Option.some.injEq, Prod.mk.injEq] at H
    obtain ⟨rfl, rfl⟩ := H
    go_wp2
    go_ret2
    exact ⟨by first | rfl | (simp [errW_none, errW_some] <;> rfl) | (simp [*, errW_none, errW_some] <;> rfl), hB⟩
   ·replace c8 := Bool.eq_false_iff.mpr c8
    subst c8
    have H1 : ((impl_FullParty.f kj3 a0).bind fun bt257 => (impl_CountNeither.l0 kj3 a0 a1 a2 0 (shl .i64 1 (bt257.2.1.length : Int)) 0 bt257.1 bt257.2.1)) = some (r1, r2) := by rw [if_neg (show ¬ (false = true) by decide)] at H; exact H
    clear H
    have H := H1
    clear H1
    replace H := Option.bind_eq_some_iff.mp H
    obtain ⟨⟨t257, t258, t261⟩, A90, H⟩ := H
    replace H : (impl_CountNeither.l0 kj3 a0 a1 a2 0 (shl .i64 1 (t258.length : Int)) 0 t257 t258) = some (r1, r2) := H
    have A9 := Aside0.mk A90
    clear A90
    obtain ⟨ji10, hji10⟩ : ∃ j_ : Int, (shl .i64 1 (t258.length : Int)) = j_ := ⟨_, rfl⟩
    replace H : (impl_CountNeither.l0 kj3 a0 a1 a2 0 ji10 0 t257 t258) = some (r1, r2) := by first | (rw [hji10] at H; exact H) | (simp only [hji10] at H ⊢; exact H)
    (try rw [hji10] at A9)
    have hji10_ : (IntKind.i64.wrap (1 * 2 ^ min (t258.length : Int).toNat 64)) = ji10 := hji10
    have hji10z : (t258.length : Int) ≤ 64 → (IntKind.i64.wrap (1 * 2 ^ (t258.length : Int).toNat)) = ji10 := shl_small hji10
    have hji10p : (IntKind.i64.wrap (1 * 2 ^ min t258.length 64)) = ji10 := hji10_
    have hji10q : (t258.length : Int) ≤ 64 → (IntKind.i64.wrap (1 * 2 ^ t258.length)) = ji10 := hji10z
    have hji10r : (IntKind.i64.wrap (2 ^ min t258.length 64)) = ji10 := by have h_ := hji10p; rw [Int.one_mul] at h_; exact h_
    have hji10s : (t258.length : Int) ≤ 64 → (IntKind.i64.wrap (2 ^ t258.length)) = ji10 := fun hle_ => by have h_ := hji10q hle_; rw [Int.one_mul] at h_; exact h_
    have hji10u : (IntKind.i64.wrap (2 ^ min (t258.length : Int).toNat 64)) = ji10 := by have h_ := hji10_; rw [Int.one_mul] at h_; exact h_
    have hji10v : (t258.length : Int) ≤ 64 → (IntKind.i64.wrap (2 ^ (t258.length : Int).toNat)) = ji10 := fun hle_ => by have h_ := hji10z hle_; rw [Int.one_mul] at h_; exact h_
    have hji10y : (wrap64 (1 * 2 ^ min (t258.length : Int).toNat 64)) = ji10 := (i64_w _).symm.trans hji10_
    have hji10x : (t258.length : Int) ≤ 64 → (wrap64 (1 * 2 ^ (t258.length : Int).toNat)) = ji10 := fun h_ => (i64_w _).symm.trans (hji10z h_)
    have H' := Aside0.mk H
    clear H
    go_wp2_with (first | ((with_reducible refine gate_callee (f := 59) rfl ?_); refine goesL_ (some 26) rfl rfl Tryd.func59 (by kernel_rfl) rfl #[.int .i64 a0] rfl mapT ?_; (with_reducible refine (impl_FullParty.calls kj3 a0 t257 t258 t261 _ A9.out).mono ?_); rintro e w11 ⟨v259, rfl, ho0, hb⟩; refine ⟨_, rfl, ?_⟩; have n0_ := Aside0.mk (Kd.R_lower ho0 (below_size hB)); have n1_ := hS HB hb; clear HB; have HO260 := n0_; have HB := n1_; clear n0_ n1_; (try clear hb); (try clear hb2); (try clear hk); (try clear hi); (try clear ho0)) | ((with_reducible refine gate_dst (N := 8) rfl ?_); refine box_event ?hg (N := 8) ?hd (cs := #[.int .i64 0, .slice none 0 0]) (t := 30) ?hr ?_; (case hd => rfl); (case hg => rfl); (case hr => first | (go_simp; done) | (go_simp; rfl)); intro gb262 hg w12 hbox hb; have n0_ := Aside0.mk (Kd.R_below (by (with_reducible repeat (first | apply Kd.R_alloc | apply Kd.R_drewN | apply Kd.R_drew)); exact HO260.out) hb); have n1_ := hS HB hb; have n2_ := Aside0.mk (hbox); have n3_ := gS HB hg; have n4_ := gS HB hg; clear HO260; clear HB; have HO260 := n0_; have HB := n1_; have BK262 := n2_; have GW262 := n3_; have GE262 := n4_; clear n0_ n1_ n2_ n3_ n4_; clear hb hbox hg; have hcz13_0 : w12.cell? ⟨gb262, 0, none⟩ = some (.int .i64 0) := (blk_cell BK262.out 0).trans rfl; have hcz13_1 : w12.cell? ⟨gb262, 1, none⟩ = some (.slice none 0 0) := (blk_cell BK262.out 1).trans rfl; have hfz13_0 := blk_frozen BK262.out 0; have hfz13_1 := blk_frozen BK262.out 1; obtain ⟨Ao14, co14, eo14⟩ := Kd.R_slice HO260.out; subst eo14))
    go_loopg [10, 33] kj3 (fun kq v10 v33 w' => ∃ (x10_2 : Int) (x33_2 : Int), v10 = .int .i64 x10_2 ∧ v33 = .int .i64 x33_2 ∧ Aside0 (impl_CountNeither.l0 kq a0 a1 a2 x10_2 ji10 x33_2 t257 t258 = some (r1, r2)) ∧ Aside0 (kq ≤ kj3) ∧ Aside0 (Kd.R k89 89 w' w.heap.size (fun _ => True) (.slice Ao14 t258.length co14) t258) ∧ Aside0 (w'.heap[gb262]? = some (.cells #[.int .i64 t257, (.slice Ao14 t258.length co14)] 30 (0, 0))) ∧ Aside0 (Below w.heap.size w w'))
    case atStart => exact ⟨(0), (0), (by first | rfl | (simp; done) | (simp [*]; done)), (by first | rfl | (simp; done) | (simp [*]; done)), H', ⟨Nat.le_refl _⟩, ⟨by (with_reducible repeat (first | apply Kd.R_alloc | apply Kd.R_drewN | apply Kd.R_drew)); exact Kd.R_mono (Kd.R_far (p := ⟨gb262, 1, none⟩) (Kd.R_far (p := ⟨gb262, 0, none⟩) (Kd.R_types HO260.out BK262.out (by decide)) (fun _ hk => hk.2) (.int .i64 t257)) (fun _ hk => hk.2) (.slice Ao14 t258.length co14)) (fun _ hk => trivial)⟩, ⟨by (with_reducible repeat (first | refine blk_drewN ?_ _ | refine blk_drew ?_ | refine blk_alloc ?_ _)); refine blk_put (cs := #[.int .i64 t257, .slice none 0 0]) ?_ 1 _ rfl; (with_reducible repeat (first | refine blk_drewN ?_ _ | refine blk_drew ?_ | refine blk_alloc ?_ _)); refine blk_put (cs := #[.int .i64 0, .slice none 0 0]) ?_ 0 _ rfl; (with_reducible repeat (first | refine blk_drewN ?_ _ | refine blk_drew ?_ | refine blk_alloc ?_ _)); exact BK262.out⟩, ⟨hB⟩⟩
    case round =>
     clear H'
     try clear c1
     try clear p2
     try clear c5
     try clear c6
     try clear p6
     try clear c8
     try clear hcz13_0
     try clear hcz13_1
     try clear hfz13_0
     try clear hfz13_1
     try clear p2
     obtain ⟨x10_2, x33_2, rfl, rfl, HA, HK2, HO_263001, BK262, HB⟩ := hrel
     cases gk with
     | zero => exact absurd HA.out (by simp [impl_CountNeither.l0])
     | succ k2 =>
      have H := HA.out
      clear HA
      simp only [impl_CountNeither.l0] at H
      by_cases c15 : x33_2 < ji10
      ·rw [if_pos c15] at H
       have c15b0 : decide (x33_2 < ji10) = true := decide_eq_true c15
       clear c15
       by_cases c16 : 0 ≤ a0
       ·rw [if_pos c16] at H
        have c16b0 := eq_true c16
        have c16b1 : decide (0 ≤ a0) = true := decide_eq_true c16
        clear c16
        by_cases c17 : (a0 : Int).toNat ≤ 140737488355328
        ·rw [if_pos c17] at H
         have c17b0 := eq_true c17
         have c17b1 : decide ((a0 : Int).toNat ≤ 140737488355328) = true := decide_eq_true c17
         clear c17
         obtain ⟨y263, hy263⟩ : ∃ y_ : List Int, y_ = (List.replicate (a0 : Int).toNat 0) := ⟨_, rfl⟩
         replace H : (impl_CountNeither.l1 k2 a0 a1 a2 x10_2 x33_2 y263 ji10 x33_2 t258 (t258.length : Int) 0 t257 t258) = some (r1, r2) := by first | (rw [hy263]; with_reducible exact H) | (have H2_ := (Option.bind_some _ _).symm.trans H; rw [hy263]; with_reducible exact H2_) | (have H2_ := (Option.bind_some _ _).symm.trans H; with_reducible exact H2_) | with_reducible exact H | (rw [hy263]; exact H) | exact H
         have Ny263 := Aside0.mk hy263
         clear hy263
         have H' := Aside0.mk H
         clear H
         go_wp2_with (first | ((with_reducible refine gate_dst (N := 37) rfl ?_); refine Kd.R_make (Kd.int .u16) _ 83 rfl (N := 37) rfl 76 _ _ rfl a0 rfl rfl Tryd.underlying76 (.int .u16 0) 2 info83 rfl (by decide) (by omega) 0 (ok := fun _ => True) (okp := fun _ => True) rfl (fun _ hk => hk) trivial (of_decide_eq_true (by first | (with_reducible assumption) | assumption)) (Nat.le_trans (Nat.mul_le_mul_right _ (of_decide_eq_true (by first | (with_reducible assumption) | assumption) : a0.toNat ≤ 140737488355328)) (by omega)) (Below.refl _ _) (Nat.le_refl _) ?_; intro v264 w18 ho19 hb hg_ hnew_; clear hg_ hnew_; (first | rw [← Ny263.out] at ho19 | (simp only [Int.reduceToNat] at ho19; rw [← Ny263.out] at ho19)); have n0_ := Aside0.mk (Kd.R_below (by (with_reducible repeat (first | apply Kd.R_alloc | apply Kd.R_drewN | apply Kd.R_drew)); exact HO_263001.out) hb); have n1_ := Aside0.mk (Kd.R_lower ho19 (below_size hB)); have n2_ := bS BK262 hb; have n3_ := hS HB hb; clear HO_263001; clear BK262; clear HB; have HO_263001 := n0_; have HO265 := n1_; have BK262 := n2_; have HB := n3_; clear n0_ n1_ n2_ n3_; clear hb ho19; have hcz20_0 : w18.cell? ⟨gb262, 0, none⟩ = some (.int .i64 t257) := (blk_cell BK262.out 0).trans rfl; have hcz20_1 : w18.cell? ⟨gb262, 1, none⟩ = some (.slice Ao14 t258.length co14) := (blk_cell BK262.out 1).trans rfl; have hfz20_0 := blk_frozen BK262.out 0; have hfz20_1 := blk_frozen BK262.out 1))
         go_loopg [41] k2 (fun kq v41 w' => ∃ (x12_3 : List Int) (x41_3 : Int), v41 = .int .i64 x41_3 ∧ Aside0 (impl_CountNeither.l1 kq a0 a1 a2 x10_2 x33_2 x12_3 ji10 x33_2 t258 (t258.length : Int) x41_3 t257 t258 = some (r1, r2)) ∧ Aside0 (kq ≤ k2) ∧ Aside0 (Kd.R (Kd.int .u16) 83 w' w.heap.size (fun _ => True) v264 x12_3) ∧ Aside0 (Kd.R k89 89 w' w.heap.size (fun _ => True) (.slice Ao14 t258.length co14) t258) ∧ Aside0 (Kd.R k89 89 w' w.heap.size (fun _ => True) (.slice Ao14 t258.length co14) t258) ∧ Aside0 (w'.heap[gb262]? = some (.cells #[.int .i64 t257, (.slice Ao14 t258.length co14)] 30 (0, 0))) ∧ Aside0 (Below w.heap.size w w'))
         case atStart => exact ⟨(y263), (0), (by first | rfl | (simp; done) | (simp [*]; done)), H', ⟨Nat.le_refl _⟩, ⟨by (with_reducible repeat (first | apply Kd.R_alloc | apply Kd.R_drewN | apply Kd.R_drew)); exact HO265.out⟩, ⟨by (with_reducible repeat (first | apply Kd.R_alloc | apply Kd.R_drewN | apply Kd.R_drew)); exact HO_263001.out⟩, ⟨by (with_reducible repeat (first | apply Kd.R_alloc | apply Kd.R_drewN | apply Kd.R_drew)); exact HO_263001.out⟩, ⟨bK⟩, ⟨hB⟩⟩
         case round =>
          clear H'
          try clear c1
          try clear p2
          try clear c5
          try clear c6
          try clear p6
          try clear c8
          try clear c15
          try clear c15b0
          try clear c16
          try clear c16b0
          try clear c16b1
          try clear c17
          try clear c17b0
          try clear c17b1
          try clear c19
          try clear hcz13_0
          try clear hcz13_1
          try clear hcz20_0
          try clear hcz20_1
          try clear hfz13_0
          try clear hfz13_1
          try clear hfz20_0
          try clear hfz20_1
          try clear p2
          try clear p6
          obtain ⟨x12_3, x41_3, rfl, HA, HK3, HO_12, HO_39, HO_263001, BK262, HB⟩ := hrel
          cases gk with
          | zero => exact absurd HA.out (by simp [impl_CountNeither.l1])
          | succ k3 =>
           have H := HA.out
           clear HA
           simp only [impl_CountNeither.l1] at H
           by_cases c21 : x41_3 < (t258.length : Int)
           ·rw [if_pos c21] at H
            have c21b0 : decide (x41_3 < (t258.length : Int)) = true := decide_eq_true c21
            clear c21
            by_cases c22 : 0 ≤ x41_3
            ·rw [if_pos c22] at H
             have c22b0 : decide (0 ≤ x41_3) = true := decide_eq_true c22
             clear c22
             by_cases c23 : x41_3 < (t258.length : Int)
             ·rw [if_pos c23] at H
              have c23b0 : decide (x41_3 < (t258.length : Int)) = true := decide_eq_true c23
              clear c23
              have c24b0 := eq_true (of_decide_eq_true (by first | (with_reducible assumption) | assumption) : 0 ≤ x41_3)
              obtain ⟨ji25, hji25⟩ : ∃ j_ : Int, (shr .i64 x33_2 x41_3) = j_ := ⟨_, rfl⟩
              replace H : (if (Go.bits .and .i64 (ji25) 1) = 1 then ((impl_table_put.f x12_3 ((rd_T89 t258 x41_3).f0) ((rd_T89 t258 x41_3).f1)).bind fun t268 => (impl_CountNeither.l1 k3 a0 a1 a2 x10_2 x33_2 t268 ji10 x33_2 t258 (t258.length : Int) (wrap64 (x41_3 + 1)) t257 t258)) else (impl_CountNeither.l1 k3 a0 a1 a2 x10_2 x33_2 x12_3 ji10 x33_2 t258 (t258.length : Int) (wrap64 (x41_3 + 1)) t257 t258)) = some (r1, r2) := by first | (rw [hji25] at H; exact H) | (simp only [hji25] at H ⊢; exact H)
              have hji25_ : (x33_2 / 2 ^ min x41_3.toNat 64) = ji25 := hji25
              have hji25z : x41_3 ≤ 64 → (x33_2 / 2 ^ x41_3.toNat) = ji25 := shr_small hji25
              by_cases c26 : (Go.bits .and .i64 (ji25) 1) = 1
              ·rw [if_pos c26] at H
               have c26b0 : ((Go.bits .and .i64 (ji25) 1) == 1) = true := beq_iff_eq.mpr c26
               have c26b1 : ((Go.bits .and .i64 (ji25) 1) != 1) = false := bne_eq_false_iff_eq.mpr c26
               clear c26
               replace H := Option.bind_eq_some_iff.mp H
               obtain ⟨t268, A270, H⟩ := H
               replace H : (impl_CountNeither.l1 k3 a0 a1 a2 x10_2 x33_2 t268 ji10 x33_2 t258 (t258.length : Int) (wrap64 (x41_3 + 1)) t257 t258) = some (r1, r2) := H
               have A27 := Aside0.mk A270
               clear A270
               have H' := Aside0.mk H
               clear H
               have p266 : 0 ≤ (x41_3 : Int) := of_decide_eq_true (by first | (with_reducible assumption) | assumption)
               have q266 : x41_3 < (t258.length : Int) := of_decide_eq_true (by first | (with_reducible assumption) | assumption)
               obtain ⟨ad266, e266, hx266_0, hx266_1⟩ := at_T89 (Kd.R_reads' HO_39.out).2.2 x41_3 p266 q266
               cases e266
               replace p266 := eq_true p266
               replace q266 := eq_true q266
               go_wp2_with (first | ((with_reducible refine gate_dst (N := 14) rfl ?_); refine box_event ?hg (N := 14) ?hd (cs := #[.int .i64 0, .int .i64 0]) (t := 89) ?hr ?_; (case hd => rfl); (case hg => rfl); (case hr => first | (go_simp; done) | (go_simp; rfl)); intro gb267 hg w28 hbox hb; have n0_ := Aside0.mk (Kd.R_below (by (with_reducible repeat (first | apply Kd.R_alloc | apply Kd.R_drewN | apply Kd.R_drew)); exact HO_12.out) hb); have n1_ := Aside0.mk (Kd.R_below (Kd.R_elderB (by (with_reducible repeat (first | apply Kd.R_alloc | apply Kd.R_drewN | apply Kd.R_drew)); exact HO_39.out) gb267 (Nat.le_of_eq hg.symm)) hb); have n2_ := Aside0.mk (Kd.R_below (Kd.R_elderB (by (with_reducible repeat (first | apply Kd.R_alloc | apply Kd.R_drewN | apply Kd.R_drew)); exact HO_263001.out) gb267 (Nat.le_of_eq hg.symm)) hb); have n3_ := bS BK262 hb; have n4_ := hS HB hb; have n5_ := Aside0.mk (hbox); have n6_ := gS HB hg; have n7_ := gS HB hg; have n8_ := nL BK262 hg; have n9_ := nG BK262 hg; clear HO_12; clear HO_39; clear HO_263001; clear BK262; clear HB; have HO_12 := n0_; have HO_39 := n1_; have HO_263001 := n2_; have BK262 := n3_; have HB := n4_; have BK267 := n5_; have GW267 := n6_; have GE267 := n7_; have NB262_267 := n8_; have NB267_262 := n9_; clear n0_ n1_ n2_ n3_ n4_ n5_ n6_ n7_ n8_ n9_; clear hb hbox hg; have hnb29 := NB267_262.out; have hnc29 := NB262_267.out; have hcz30_0 : w28.cell? ⟨gb267, 0, none⟩ = some (.int .i64 0) := (blk_cell BK267.out 0).trans rfl; have hcz30_1 : w28.cell? ⟨gb267, 1, none⟩ = some (.int .i64 0) := (blk_cell BK267.out 1).trans rfl; have hfz30_0 := blk_frozen BK267.out 0; have hfz30_1 := blk_frozen BK267.out 1) | ((with_reducible refine gate_store (t := 89) (p := 14) rfl ?_); refine store_event (t := 89) (p := 14) (v := ?vo_w31) (w1 := ((w28.setCell ⟨gb267, 0, none⟩ (.int .i64 ((rd_T89 t258 x41_3).f0))).setCell ⟨gb267, 1, none⟩ (.int .i64 ((rd_T89 t258 x41_3).f1)))) ?hg ?ho ?hn ?hr ?_; (case ho => rfl); (case hg => rfl); (case hn => rfl); (case hr => first | (go_simp; done) | (go_simp; rfl)); intro w31 hw; have n0_ : Aside0 (Kd.R (Kd.int .u16) 83 w31 w.heap.size (fun _ => True) v264 x12_3) := ⟨(by rw [hw]; exact (by (with_reducible repeat (first | apply Kd.R_alloc | apply Kd.R_drewN | apply Kd.R_drew)); exact Kd.R_mono (Kd.R_far (p := ⟨gb267, 1, none⟩) (Kd.R_far (p := ⟨gb267, 0, none⟩) (Kd.R_types HO_12.out BK267.out (by decide)) (fun _ hk => hk.2) (.int .i64 ((rd_T89 t258 x41_3).f0))) (fun _ hk => hk.2) (.int .i64 ((rd_T89 t258 x41_3).f1))) (fun _ hk => trivial)))⟩; have n1_ : Aside0 (Kd.R k89 89 w31 w.heap.size (fun k_ => k_ ≠ gb267) (.slice (some ad266) t258.length co14) t258) := ⟨(by rw [hw]; exact (by (with_reducible repeat (first | apply Kd.R_alloc | apply Kd.R_drewN | apply Kd.R_drew)); exact Kd.R_mono (Kd.R_far (p := ⟨gb267, 1, none⟩) (Kd.R_far (p := ⟨gb267, 0, none⟩) (Kd.R_mono HO_39.out (fun k_ hk => (⟨hk, hk.2⟩ : _ ∧ k_ ≠ gb267))) (fun _ hk => hk.2) (.int .i64 ((rd_T89 t258 x41_3).f0))) (fun _ hk => hk.2) (.int .i64 ((rd_T89 t258 x41_3).f1))) (fun _ hk => hk.1.2)))⟩; have n2_ : Aside0 (Kd.R k89 89 w31 w.heap.size (fun k_ => k_ ≠ gb267) (.slice (some ad266) t258.length co14) t258) := ⟨(by rw [hw]; exact (by (with_reducible repeat (first | apply Kd.R_alloc | apply Kd.R_drewN | apply Kd.R_drew)); exact Kd.R_mono (Kd.R_far (p := ⟨gb267, 1, none⟩) (Kd.R_far (p := ⟨gb267, 0, none⟩) (Kd.R_mono HO_263001.out (fun k_ hk => (⟨hk, hk.2⟩ : _ ∧ k_ ≠ gb267))) (fun _ hk => hk.2) (.int .i64 ((rd_T89 t258 x41_3).f0))) (fun _ hk => hk.2) (.int .i64 ((rd_T89 t258 x41_3).f1))) (fun _ hk => hk.1.2)))⟩; have n3_ : Aside0 (w31.heap[gb262]? = some (.cells #[.int .i64 t257, .slice (some ad266) t258.length co14] 30 (0, 0))) := ⟨(by rw [hw]; exact (by (with_reducible repeat (first | refine blk_drewN ?_ _ | refine blk_drew ?_ | refine blk_alloc ?_ _)); refine blk_far ?_ NB262_267.out _; (with_reducible repeat (first | refine blk_drewN ?_ _ | refine blk_drew ?_ | refine blk_alloc ?_ _)); refine blk_far ?_ NB262_267.out _; (with_reducible repeat (first | refine blk_drewN ?_ _ | refine blk_drew ?_ | refine blk_alloc ?_ _)); exact BK262.out))⟩; have n4_ : Aside0 (w31.heap[gb267]? = some (.cells #[.int .i64 ((rd_T89 t258 x41_3).f0), .int .i64 ((rd_T89 t258 x41_3).f1)] 89 (0, 0))) := ⟨(by rw [hw]; exact (by (with_reducible repeat (first | refine blk_drewN ?_ _ | refine blk_drew ?_ | refine blk_alloc ?_ _)); refine blk_put (cs := #[.int .i64 ((rd_T89 t258 x41_3).f0), .int .i64 0]) ?_ 1 _ rfl; (with_reducible repeat (first | refine blk_drewN ?_ _ | refine blk_drew ?_ | refine blk_alloc ?_ _)); refine blk_put (cs := #[.int .i64 0, .int .i64 0]) ?_ 0 _ rfl; (with_reducible repeat (first | refine blk_drewN ?_ _ | refine blk_drew ?_ | refine blk_alloc ?_ _)); exact BK267.out))⟩; have n5_ : Aside0 (Below w.heap.size w w31) := ⟨(by rw [hw]; exact hB)⟩; clear hw; clear HO_12; clear HO_39; clear HO_263001; clear BK262; clear BK267; clear HB; have HO_12 := n0_; have HO_39 := n1_; have HO_263001 := n2_; have BK262 := n3_; have BK267 := n4_; have HB := n5_; clear n0_ n1_ n2_ n3_ n4_ n5_; have hcz32_0 : w31.cell? ⟨gb267, 0, none⟩ = some (.int .i64 ((rd_T89 t258 x41_3).f0)) := (blk_cell BK267.out 0).trans rfl; have hcz32_1 : w31.cell? ⟨gb267, 1, none⟩ = some (.int .i64 ((rd_T89 t258 x41_3).f1)) := (blk_cell BK267.out 1).trans rfl; have hfz32_0 := blk_frozen BK267.out 0; have hfz32_1 := blk_frozen BK267.out 1; obtain ⟨Ao33, co33, eo33⟩ := Kd.R_slice HO_12.out; subst eo33) | ((with_reducible refine gate_callee (f := 60) rfl ?_); refine goesL_ (some 56) rfl rfl Tryd.func60 (by kernel_rfl) rfl #[.slice Ao33 x12_3.length co33, .int .i64 ((rd_T89 t258 x41_3).f0), .int .i64 ((rd_T89 t258 x41_3).f1)] rfl mapT ?_; (with_reducible refine (impl_table_put.calls (fun k_ => some k_ = (.slice Ao33 x12_3.length co33 : Value).ownBlock) (.slice Ao33 x12_3.length co33) x12_3 ((rd_T89 t258 x41_3).f0) ((rd_T89 t258 x41_3).f1) t268 w _ ?side1 ?side2 A27.out).mono ?_); (case side1 => repeat (first | (with_reducible first | exact HB.out | apply below_alloc | apply pw_below_drewN | apply below_drew1 | refine below_set ?_ GE262.out | refine below_set ?_ GE267.out) | exact HB.out)); (case side2 => exact Kd.R_tight rfl HO_12.out); rintro e w34 ⟨rfl, hy0, hb, hkp⟩; refine ⟨_, rfl, ?_⟩; have n0_ := Aside0.mk (Kd.R_reok rfl hy0 (fun k_ e_ => HO_12.out.1 k_ e_)); have n1_ := Aside0.mk (Kd.R_mono (ok' := fun k_ => k_ ≠ gb267) (Kd.R_keptB ((Kd.R_apart' HO_39.out (Kd.R_typed HO_12.out) (by decide))) hkp (fun k_ hk_ hs_ => (hk_.2) hs_)) (fun k_ hk_ => hk_.1.1)); have n2_ := Aside0.mk (Kd.R_mono (ok' := fun k_ => k_ ≠ gb267) (Kd.R_keptB ((Kd.R_apart' HO_263001.out (Kd.R_typed HO_12.out) (by decide))) hkp (fun k_ hk_ hs_ => (hk_.2) hs_)) (fun k_ hk_ => hk_.1.1)); have n3_ := Aside0.mk (blk_kept bK hkp (fun hs_ => (fun e_ => (Kd.R_ne HO_12.out BK262.out (by decide)) e_) hs_)); have n4_ := Aside0.mk (blk_kept bK hkp (fun hs_ => (fun e_ => (Kd.R_ne HO_12.out BK267.out (by decide)) e_) hs_)); have n5_ := Aside0.mk (hb); clear HO_12; clear HO_39; clear HO_263001; clear BK262; clear BK267; clear HB; have HO_12 := n0_; have HO_39 := n1_; have HO_263001 := n2_; have BK262 := n3_; have BK267 := n4_; have HB := n5_; clear n0_ n1_ n2_ n3_ n4_ n5_; (try clear hb); (try clear hkp); (try clear hy0)))
               go_roundg k3
               case measure => have := HJ3.out; have := HK2.out; have := HK3.out; omega
               case rel => exact ⟨(t268), (wrap64 (x41_3 + 1)), (by first | rfl | (simp; done) | (simp [*]; done)), H', ⟨by have := HJ3.out; have := HK2.out; have := HK3.out; omega⟩, ⟨by (with_reducible repeat (first | apply Kd.R_alloc | apply Kd.R_drewN | apply Kd.R_drew)); exact HO_12.out⟩, ⟨by (with_reducible repeat (first | apply Kd.R_alloc | apply Kd.R_drewN | apply Kd.R_drew)); exact Kd.R_mono HO_39.out (fun _ hk => trivial)⟩, ⟨by (with_reducible repeat (first | apply Kd.R_alloc | apply Kd.R_drewN | apply Kd.R_drew)); exact Kd.R_mono HO_263001.out (fun _ hk => trivial)⟩, ⟨bK⟩, ⟨hB⟩⟩
              ·rw [if_neg c26] at H
               have c26b0 : ((Go.bits .and .i64 (ji25) 1) == 1) = false := beq_eq_false_iff_ne.mpr c26
               have c26b1 : ((Go.bits .and .i64 (ji25) 1) != 1) = true := bne_iff_ne.mpr c26
               have H' := Aside0.mk H
               clear H
               have p266 : 0 ≤ (x41_3 : Int) := of_decide_eq_true (by first | (with_reducible assumption) | assumption)
               have q266 : x41_3 < (t258.length : Int) := of_decide_eq_true (by first | (with_reducible assumption) | assumption)
               obtain ⟨ad266, e266, hx266_0, hx266_1⟩ := at_T89 (Kd.R_reads' HO_39.out).2.2 x41_3 p266 q266
               cases e266
               replace p266 := eq_true p266
               replace q266 := eq_true q266
               go_wp2_with (first | ((with_reducible refine gate_dst (N := 14) rfl ?_); refine box_event ?hg (N := 14) ?hd (cs := #[.int .i64 0, .int .i64 0]) (t := 89) ?hr ?_; (case hd => rfl); (case hg => rfl); (case hr => first | (go_simp; done) | (go_simp; rfl)); intro gb267 hg w35 hbox hb; have n0_ := Aside0.mk (Kd.R_below (by (with_reducible repeat (first | apply Kd.R_alloc | apply Kd.R_drewN | apply Kd.R_drew)); exact HO_12.out) hb); have n1_ := Aside0.mk (Kd.R_below (Kd.R_elderB (by (with_reducible repeat (first | apply Kd.R_alloc | apply Kd.R_drewN | apply Kd.R_drew)); exact HO_39.out) gb267 (Nat.le_of_eq hg.symm)) hb); have n2_ := Aside0.mk (Kd.R_below (Kd.R_elderB (by (with_reducible repeat (first | apply Kd.R_alloc | apply Kd.R_drewN | apply Kd.R_drew)); exact HO_263001.out) gb267 (Nat.le_of_eq hg.symm)) hb); have n3_ := bS BK262 hb; have n4_ := hS HB hb; have n5_ := Aside0.mk (hbox); have n6_ := gS HB hg; have n7_ := gS HB hg; have n8_ := nL BK262 hg; have n9_ := nG BK262 hg; clear HO_12; clear HO_39; clear HO_263001; clear BK262; clear HB; have HO_12 := n0_; have HO_39 := n1_; have HO_263001 := n2_; have BK262 := n3_; have HB := n4_; have BK267 := n5_; have GW267 := n6_; have GE267 := n7_; have NB262_267 := n8_; have NB267_262 := n9_; clear n0_ n1_ n2_ n3_ n4_ n5_ n6_ n7_ n8_ n9_; clear hb hbox hg; have hnb36 := NB267_262.out; have hnc36 := NB262_267.out; have hcz37_0 : w35.cell? ⟨gb267, 0, none⟩ = some (.int .i64 0) := (blk_cell BK267.out 0).trans rfl; have hcz37_1 : w35.cell? ⟨gb267, 1, none⟩ = some (.int .i64 0) := (blk_cell BK267.out 1).trans rfl; have hfz37_0 := blk_frozen BK267.out 0; have hfz37_1 := blk_frozen BK267.out 1))
               go_roundg k3
               case measure => have := HJ3.out; have := HK2.out; have := HK3.out; omega
               case rel => exact ⟨(x12_3), (wrap64 (x41_3 + 1)), (by first | rfl | (simp; done) | (simp [*]; done)), H', ⟨by have := HJ3.out; have := HK2.out; have := HK3.out; omega⟩, ⟨by (with_reducible repeat (first | apply Kd.R_alloc | apply Kd.R_drewN | apply Kd.R_drew)); exact Kd.R_mono (Kd.R_far (p := ⟨gb267, 1, none⟩) (Kd.R_far (p := ⟨gb267, 0, none⟩) (Kd.R_types HO_12.out BK267.out (by decide)) (fun _ hk => hk.2) (.int .i64 ((rd_T89 t258 x41_3).f0))) (fun _ hk => hk.2) (.int .i64 ((rd_T89 t258 x41_3).f1))) (fun _ hk => trivial)⟩, ⟨by (with_reducible repeat (first | apply Kd.R_alloc | apply Kd.R_drewN | apply Kd.R_drew)); exact Kd.R_mono (Kd.R_far (p := ⟨gb267, 1, none⟩) (Kd.R_far (p := ⟨gb267, 0, none⟩) (Kd.R_mono HO_39.out (fun k_ hk => (⟨hk, hk.2⟩ : _ ∧ k_ ≠ gb267))) (fun _ hk => hk.2) (.int .i64 ((rd_T89 t258 x41_3).f0))) (fun _ hk => hk.2) (.int .i64 ((rd_T89 t258 x41_3).f1))) (fun _ hk => trivial)⟩, ⟨by (with_reducible repeat (first | apply Kd.R_alloc | apply Kd.R_drewN | apply Kd.R_drew)); exact Kd.R_mono (Kd.R_far (p := ⟨gb267, 1, none⟩) (Kd.R_far (p := ⟨gb267, 0, none⟩) (Kd.R_mono HO_263001.out (fun k_ hk => (⟨hk, hk.2⟩ : _ ∧ k_ ≠ gb267))) (fun _ hk => hk.2) (.int .i64 ((rd_T89 t258 x41_3).f0))) (fun _ hk => hk.2) (.int .i64 ((rd_T89 t258 x41_3).f1))) (fun _ hk => trivial)⟩, ⟨by (with_reducible repeat (first | refine blk_drewN ?_ _ | refine blk_drew ?_ | refine blk_alloc ?_ _)); refine blk_far ?_ NB262_267.out _; (with_reducible repeat (first | refine blk_drewN ?_ _ | refine blk_drew ?_ | refine blk_alloc ?_ _)); refine blk_far ?_ NB262_267.out _; (with_reducible repeat (first | refine blk_drewN ?_ _ | refine blk_drew ?_ | refine blk_alloc ?_ _)); exact BK262.out⟩, ⟨hB⟩⟩
             ·rw [if_neg c23] at H
              exact absurd H (by simp)
            ·rw [if_neg c22] at H
             exact absurd H (by simp)
           ·rw [if_neg c21] at H
            have c21b0 : decide (x41_3 < (t258.length : Int)) = false := decide_eq_false c21
            clear c21
            replace H := Option.bind_eq_some_iff.mp H
            obtain ⟨t269, A380, H⟩ := H
            replace H : ((impl_bit.f t269).bind fun t270 => (impl_CountNeither.l0 k3 a0 a1 a2 (wrap64 (x10_2 + t270)) ji10 (wrap64 (x33_2 + 1)) t257 t258)) = some (r1, r2) := H
            have A38 := Aside0.mk A380
            clear A380
            replace H := Option.bind_eq_some_iff.mp H
            obtain ⟨t270, A390, H⟩ := H
            replace H : (impl_CountNeither.l0 k3 a0 a1 a2 (wrap64 (x10_2 + t270)) ji10 (wrap64 (x33_2 + 1)) t257 t258) = some (r1, r2) := H
            have A39 := Aside0.mk A390
            clear A390
            have H' := Aside0.mk H
            clear H
            obtain ⟨Ao40, co40, eo40⟩ := Kd.R_slice HO_12.out
            subst eo40
            go_wp2_with (first | ((with_reducible refine gate_callee (f := 50) rfl ?_); refine goesL_ (some 62) rfl rfl Tryd.func50 (by kernel_rfl) rfl #[.slice Ao40 x12_3.length co40, .int .i64 a1, .int .i64 a2] rfl mapT ?_; (with_reducible refine (impl_table_hasNeither.calls k3 _ _ x12_3 a1 a2 t269 _ ?side1 ?side2 A38.out).mono ?_); (case side1 => repeat (first | exact (Kd.R_reads' HO_12.out).2.2 | (with_reducible refine Kd.C_alloc ?_ _) | (with_reducible refine Kd.C_drewN ?_ _) | (with_reducible refine Kd.C_drew ?_))); (case side2 => exact (Kd.R_reads' HO_12.out).2.1); rintro e w41 ⟨rfl, hb⟩; refine ⟨_, rfl, ?_⟩; have n0_ := Aside0.mk (Kd.R_below (by (with_reducible repeat (first | apply Kd.R_alloc | apply Kd.R_drewN | apply Kd.R_drew)); exact HO_12.out) hb); have n1_ := Aside0.mk (Kd.R_below (by (with_reducible repeat (first | apply Kd.R_alloc | apply Kd.R_drewN | apply Kd.R_drew)); exact HO_39.out) hb); have n2_ := Aside0.mk (Kd.R_below (by (with_reducible repeat (first | apply Kd.R_alloc | apply Kd.R_drewN | apply Kd.R_drew)); exact HO_263001.out) hb); have n3_ := bS BK262 hb; have n4_ := hS HB hb; clear HO_12; clear HO_39; clear HO_263001; clear BK262; clear HB; have HO_12 := n0_; have HO_39 := n1_; have HO_263001 := n2_; have BK262 := n3_; have HB := n4_; clear n0_ n1_ n2_ n3_ n4_; (try clear hb); (try clear hb2); (try clear hk); (try clear hi)) | ((with_reducible refine gate_callee (f := 61) rfl ?_); refine goesL_ (some 63) rfl rfl Tryd.func61 (by kernel_rfl) rfl #[.bool t269] rfl mapT ?_; (with_reducible refine (impl_bit.calls t269 t270 _ A39.out).mono ?_); rintro e w' ⟨rfl, ⟨nd, rfl⟩⟩; refine ⟨_, rfl, ?_⟩))
            go_roundg k3
            case measure => have := HJ3.out; have := HK2.out; have := HK3.out; omega
            case rel => exact ⟨(wrap64 (x10_2 + t270)), (wrap64 (x33_2 + 1)), (by first | rfl | (simp; done) | (simp [*]; done)), (by first | rfl | (simp; done) | (simp [*]; done)), H', ⟨by have := HJ3.out; have := HK2.out; have := HK3.out; omega⟩, ⟨by (with_reducible repeat (first | apply Kd.R_alloc | apply Kd.R_drewN | apply Kd.R_drew)); exact HO_263001.out⟩, ⟨bK⟩, ⟨hB⟩⟩
        ·rw [if_neg c17] at H
         exact absurd H (by simp)
       ·rw [if_neg c16] at H
        exact absurd H (by simp)
      ·rw [if_neg c15] at H
       have c15b0 : decide (x33_2 < ji10) = false := decide_eq_false c15
       clear c15
       simp only [Option.some.injEq, Prod.mk.injEq] at H
       obtain ⟨rfl, rfl⟩ := H
       go_wp2
       go_ret2
       exact ⟨by first | rfl | (simp [errW_none, errW_some] <;> rfl) | (simp only [← hji10]; first | rfl | (simp [errW_none, errW_some] <;> rfl)) | (simp [*, errW_none, errW_some] <;> rfl), hB⟩

/-! ### laws_FnExactCountNeither: function 5 -/
def laws_FnExactCountNeither.f (k : Nat) (a0 : Int) (a1 : Int) (a2 : Int) : Option (Bool) := (spec_CountNeither.f k a0 a1 a2).bind fun bt271 => ((impl_CountNeither.f k a0 a1 a2).bind fun bt273 => (if bt273.1 = bt271.1 then (if (bt273.2 != bt271.2) = true then (none) else (some true)) else (none)))
theorem laws_FnExactCountNeither.mono : ∀ a0 a1 a2 k, LeO (laws_FnExactCountNeither.f k a0 a1 a2) (laws_FnExactCountNeither.f (k + 1) a0 a1 a2) := by
 intro a0 a1 a2 k
 unfold laws_FnExactCountNeither.f
 repeat' first
   | (with_reducible exact impl_CountNeither.mono _ _ _ _)
   | (with_reducible exact spec_CountNeither.mono _ _ _ _)
   | (with_reducible exact LeO.refl _)
   | (with_reducible exact LeO.none _)
   | (with_reducible refine LeO.ite ?_ ?_)
   | (with_reducible refine LeO.bind ?_ (fun _ => ?_))
   | exact impl_CountNeither.mono _ _ _ _
   | exact spec_CountNeither.mono _ _ _ _
   | exact LeO.none _
   | refine LeO.ite ?_ ?_
   | refine LeO.bind ?_ (fun _ => ?_)
set_option maxHeartbeats 8000000 in
set_option maxRecDepth 100000 in
theorem laws_FnExactCountNeither.calls (k : Nat) (a0 : Int) (a1 : Int) (a2 : Int) (r : Bool) (w : World) (h : laws_FnExactCountNeither.f k a0 a1 a2 = some r) (hG : GTab 0 w := by first | exact Aside0.out ‹Aside0 (GTab _ _)› | exact GTab.up (Aside0.out ‹Aside0 (GTab _ _)›) (by repeat (first | (with_reducible first | exact Below.refl _ _ | exact Aside0.out ‹Aside0 (Below _ _ _)› | apply below_alloc | apply pw_below_drewN | apply below_drew1 | refine below_set ?_ (Aside0.out (by assumption))) | exact Aside0.out ‹Aside0 (Below _ _ _)›))) :
  Calls Tryd.prog 5 #[.int .i64 a0, .int .i64 a1, .int .i64 a2] w fun e w' => e = .returned (.bool r) ∧ Below w.heap.size w w' := by
 have HG := Aside0.mk (p := GTab _ _) hG
 clear hG
 have HB := Aside0.mk (Below.refl w.heap.size w)
 have H : ((spec_CountNeither.f k a0 a1 a2).bind fun bt271 => ((impl_CountNeither.f k a0 a1 a2).bind fun bt273 => (if bt273.1 = bt271.1 then (if (bt273.2 != bt271.2) = true then (none) else (some true)) else (none)))) = some r := h
 clear h
 replace H := Option.bind_eq_some_iff.mp H
 obtain ⟨⟨t271, t272⟩, A40, H⟩ := H
 replace H : ((impl_CountNeither.f k a0 a1 a2).bind fun bt273 => (if bt273.1 = t271 then (if (bt273.2 != t272) = true then (none) else (some true)) else (none))) = some r := H
 have A4 := Aside0.mk A40
 clear A40
 replace H := Option.bind_eq_some_iff.mp H
 obtain ⟨⟨t273, t274⟩, A50, H⟩ := H
 replace H : (if t273 = t271 then (if (t274 != t272) = true then (none) else (some true)) else (none)) = some r := H
 have A5 := Aside0.mk A50
 clear A50
 by_cases c6 : t273 = t271
 ·rw [if_pos c6] at H
  have c6b0 : (t273 == t271) = true := beq_iff_eq.mpr c6
  have c6b1 : (t273 != t271) = false := bne_eq_false_iff_eq.mpr c6
  clear c6
  by_cases c7 : (t274 != t272) = true
  ·rw [if_pos c7] at H
   exact absurd H (by simp)
  ·rw [if_neg c7] at H
   have c7b0 : (t274 != t272) = false := by simpa using c7
   (try (have c7b1 : decide (t274 = t272) = true := by simpa using c7))
   (try (have c7b2 : (t274 == t272) = true := by simpa using c7))
   clear c7
   obtain rfl := Option.some.inj H
   go_enter Tryd.func5, Tryd.ntmps5
   go_wp2_with (first | ((with_reducible refine gate_callee (f := 18) rfl ?_); refine goesL_ (some 15) rfl rfl Tryd.func18 (by kernel_rfl) rfl #[.int .i64 a0, .int .i64 a1, .int .i64 a2] rfl mapT ?_; (with_reducible refine (spec_CountNeither.calls k a0 a1 a2 t271 t272 _ A4.out).mono ?_); rintro e w8 ⟨rfl, hb⟩; refine ⟨_, rfl, ?_⟩; have n0_ := hS HB hb; clear HB; have HB := n0_; clear n0_; (try clear hb); (try clear hb2); (try clear hk); (try clear hi)) | ((with_reducible refine gate_callee (f := 19) rfl ?_); refine goesL_ (some 22) rfl rfl Tryd.func19 (by kernel_rfl) rfl #[.int .i64 a0, .int .i64 a1, .int .i64 a2] rfl mapT ?_; (with_reducible refine (impl_CountNeither.calls k a0 a1 a2 t273 t274 _ A5.out).mono ?_); rintro e w9 ⟨rfl, hb⟩; refine ⟨_, rfl, ?_⟩; have n0_ := hS HB hb; clear HB; have HB := n0_; clear n0_; (try clear hb); (try clear hb2); (try clear hk); (try clear hi)))
   go_ret
   exact ⟨by first | rfl | (simp [errW_none, errW_some] <;> rfl) | (simp [*, errW_none, errW_some] <;> rfl), hB⟩
 ·rw [if_neg c6] at H
  exact absurd H (by simp)


end Go.Proofs.YtomlbbnoicpfpaaDoor.PFnExactCountNeither
