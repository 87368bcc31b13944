-- Of this session's own program wip/gen/gen.py (it drives the kit's print): contracts of the functions that the law reaches.
import Derived.Test.YtjpfbkkikcpmhaaDoorPFnExactMakePuzzlex0
import Derived.Test.YtjpfbkkikcpmhaaDoorPFnExactMakePuzzlex1
import Derived.Test.YtjpfbkkikcpmhaaDoorPFnExactMakePuzzlex2
import Derived.Test.YtjpfbkkikcpmhaaDoorPFnExactMakePuzzlex3
import Derived.Test.YtjpfbkkikcpmhaaDoorPFnExactMakePuzzlex4
namespace Go.Proofs.YtjpfbkkikcpmhaaDoor.PFnExactMakePuzzle
open Go.RowKit Go.Proofs.YtjpfbkkikcpmhaaDoorW.PrintWords Go.Proofs.YtjpfbkkikcpmhaaDoorW.PrintLast Go.Proofs.YtjpfbkkikcpmhaaDoorW.PrintMore Go.Proofs.YtjpfbkkikcpmhaaDoor.Base
attribute [local go_sem] max2_int min2_int max_two min_two max_three min_three max_four min_four   -- for this text's walks alone
set_option linter.unusedVariables false
set_option linter.unusedSimpArgs false

/-! ### spec_MakePuzzle: function 13 -/
def spec_MakePuzzle.lastB (ops : Array Oper) (d : Nat) : Bool := match ops[d]? with
 | some o => (List.range ops.size).all fun j => Nat.beq j d || o.after.toList.any fun e => Region.binds .any e && Nat.beq e.on j
 | none => false
theorem spec_MakePuzzle.ready {ops : Array Oper} {d : Nat} {l : Array Bool} (hd : spec_MakePuzzle.lastB ops d = true) (hr : d ∈ Region.ready .any ops l) : Region.ready .any ops (l.setIfInBounds d true) = [] := by
 obtain ⟨h0, o, ho, hall⟩ := mem_ready.1 hr
 unfold spec_MakePuzzle.lastB at hd
 rw [ho] at hd
 simp only at hd
 refine List.eq_nil_iff_forall_not_mem.2 fun j hj => ?_
 obtain ⟨h1, oj, hoj, _⟩ := mem_ready.1 hj
 have h2 := List.all_eq_true.1 hd j (List.mem_range.2 (Array.getElem?_eq_some_iff.1 hoj).1)
 by_cases e : j = d
 ·subst e
  by_cases hl : j < l.size
  ·simp [hl] at h1
  ·simp [hl] at h0
 ·rw [Bool.or_eq_true] at h2
  rcases h2 with h2 | h2
  ·exact e (Nat.eq_of_beq_eq_true h2)
  ·obtain ⟨x, hx, hb⟩ := List.any_eq_true.1 h2
   rw [Bool.and_eq_true] at hb
   have h3 := hall x (by simpa using hx) hb.1
   rw [Nat.eq_of_beq_eq_true hb.2] at h3
   by_cases hl : j < l.size
   ·simp [hl] at h3
    simp [hl, Ne.symm e, h3] at h1
   ·simp [hl] at h3
theorem spec_MakePuzzle.more {P : Program} {ops : Array Oper} {Q : Exit → Act → World → Prop} {S : World → Prop} (S' : World → Prop) (hS : ∀ w, S' w → S w) (d : Nat) (hd : spec_MakePuzzle.lastB ops d = true) : ∀ (fuel : Nat) (l : Array Bool) (a : Act) (w : World), S' w → wpAnyLast P .any ops Q S' [d] fuel l a w → wpAnyLast P .any ops Q S [d] fuel l a w
 | 0, _, _, _, _, h => h
 | fuel + 1, l, a, w, hw, h => ⟨h.1, fun i hi => wpOp_mono (fun a' w' h' => ⟨fun hn _ => hS _ (h'.1 hn hw), by
   by_cases hn : i ∈ [d]
   ·obtain rfl : i = d := by simpa using hn
    have hr := spec_MakePuzzle.ready hd hi
    cases fuel with
    | zero => exact h'.2
    | succ fuel => exact ⟨h'.2.1, fun j hj => by rw [hr] at hj; cases hj⟩
   ·exact spec_MakePuzzle.more S' hS d hd fuel _ a' w' (h'.1 hn hw) h'.2⟩) (h.2 i hi)⟩
mutual
def spec_MakePuzzle.j0 : Nat → Int → Int → Int → Bool → Int → List (S105) → Option (Int × (List (S70)) × Bool)
 | 0, _, _, _, _, _, _ => none
 | k + 1, x1, x2, x8, x33, x235000, x235001 => if x33 = true then (some (0, ([] : List (S70)), false)) else (spec_MakePuzzle.l0 k x1 x8 x2 x235000 x235001 x8 ([] : List (S70)))
def spec_MakePuzzle.l0 : Nat → Int → Int → Int → Int → List (S105) → Int → List (S70) → Option (Int × (List (S70)) × Bool)
 | 0, _, _, _, _, _, _, _ => none
 | k + 1, x1, x8, x10, x235000, x235001, x241000, x241001 => if x1 > 0 then ((spec_pzNext.f x10).bind fun t241 => (if (Int.tmod t241 6) = 0 then (spec_MakePuzzle.j2 k x1 x8 t241 (Int.tmod t241 6) ((Int.tmod t241 6) == 0) x235000 x235001 x241000 x241001 (Int.tmod t241 6) 0 0) else (spec_MakePuzzle.j2 k x1 x8 t241 (Int.tmod t241 6) ((Int.tmod t241 6) == 1) x235000 x235001 x241000 x241001 (Int.tmod t241 6) 0 0))) else (some (x241000, x241001, true))
def spec_MakePuzzle.j2 : Nat → Int → Int → Int → Int → Bool → Int → List (S105) → Int → List (S70) → Int → Int → Int → Option (Int × (List (S70)) × Bool)
 | 0, _, _, _, _, _, _, _, _, _, _, _, _ => none
 | k + 1, x1, x8, x10, x48, x53, x235000, x235001, x241000, x241001, x243000, x243001, x243002 => if x53 = true then ((spec_pzNext.f x10).bind fun t243 => (if x8 = 0 then (none) else ((spec_pzNext.f t243).bind fun t244 => (if (wrap64 (x8 - 1)) = 0 then (none) else ((spec_l1Least.f (Int.tmod t243 x8) (Int.tmod (wrap64 ((wrap64 ((Int.tmod t244 (wrap64 (x8 - 1))) + (Int.tmod t243 x8))) + 1)) x8)).bind fun t245 => ((spec_l1Most.f (Int.tmod t243 x8) (Int.tmod (wrap64 ((wrap64 ((Int.tmod t244 (wrap64 (x8 - 1))) + (Int.tmod t243 x8))) + 1)) x8)).bind fun t246 => ((spec_paTable.f k x235000 x235001).bind fun t247 => (if 0 ≤ (Int.tmod t243 x8) then (if (Int.tmod t243 x8) < (t247.length : Int) then (if 0 ≤ (Int.tmod (wrap64 ((wrap64 ((Int.tmod t244 (wrap64 (x8 - 1))) + (Int.tmod t243 x8))) + 1)) x8) then (if (Int.tmod (wrap64 ((wrap64 ((Int.tmod t244 (wrap64 (x8 - 1))) + (Int.tmod t243 x8))) + 1)) x8) < ((rd_L4 t247 (Int.tmod t243 x8)).length : Int) then (if rdOf false (rd_L4 t247 (Int.tmod t243 x8)) (Int.tmod (wrap64 ((wrap64 ((Int.tmod t244 (wrap64 (x8 - 1))) + (Int.tmod t243 x8))) + 1)) x8) = true then (if x241001.length < 5864062014805 then (spec_MakePuzzle.l0 k (wrap64 (x1 - 1)) x8 t244 x235000 x235001 x241000 (x241001 ++ [(⟨0, t245, t246⟩ : S70)])) else (none)) else (if x241001.length < 5864062014805 then (spec_MakePuzzle.l0 k (wrap64 (x1 - 1)) x8 t244 x235000 x235001 x241000 (x241001 ++ [(⟨1, t245, t246⟩ : S70)])) else (none))) else (none)) else (none)) else (none)) else (none))))))))) else (if x48 = 2 then ((spec_pzNext.f x10).bind fun t258 => (if x8 = 0 then (none) else ((spec_paNumbers.f k x235000 x235001).bind fun t259 => (if 0 ≤ (Int.tmod t258 x8) then (if (Int.tmod t258 x8) < (t259.length : Int) then (if x241001.length < 5864062014805 then (spec_MakePuzzle.l0 k (wrap64 (x1 - 1)) x8 t258 x235000 x235001 x241000 (x241001 ++ [(⟨x243000, Int.tmod t258 x8, rd t259 (Int.tmod t258 x8)⟩ : S70)])) else (none)) else (none)) else (none))))) else (if x48 = 3 then (if x241001.length < 5864062014805 then (spec_MakePuzzle.l0 k (wrap64 (x1 - 1)) x8 x10 x235000 x235001 x241000 (x241001 ++ [(⟨x243000, (x235001.length : Int), x243002⟩ : S70)])) else (none)) else (if x48 = 4 then ((spec_pzThrees.f k x235000 x235001).bind fun t269 => (if x241001.length < 5864062014805 then (spec_MakePuzzle.l0 k (wrap64 (x1 - 1)) x8 x10 x235000 x235001 x241000 (x241001 ++ [(⟨x243000, t269, x243002⟩ : S70)])) else (none))) else ((spec_paParts.f k x235000 x235001).bind fun t273 => (if x241001.length < 5864062014805 then (spec_MakePuzzle.l0 k (wrap64 (x1 - 1)) x8 x10 x235000 x235001 x241000 (x241001 ++ [(⟨x243000, (t273.length : Int), x243002⟩ : S70)])) else (none))))))
end
def spec_MakePuzzle.f (k : Nat) (a0_0 : Int) (l0_1 : List (S105)) (a1 : Int) (a2 : Int) : Option (Int × (List (S70)) × Bool) := (spec_paGood.f k a0_0 l0_1).bind fun t236 => (if t236 = true then ((spec_l1In.f a0_0 2 5).bind fun t237 => (if t237 = true then ((spec_l1In.f a1 0 8).bind fun t238 => (if t238 = true then ((spec_l1In.f a2 0 9999).bind fun t239 => (spec_MakePuzzle.j0 k a1 a2 a0_0 (!t239) a0_0 l0_1)) else (spec_MakePuzzle.j0 k a1 a2 a0_0 true a0_0 l0_1))) else (spec_MakePuzzle.j0 k a1 a2 a0_0 true a0_0 l0_1))) else (spec_MakePuzzle.j0 k a1 a2 a0_0 true a0_0 l0_1))
theorem spec_MakePuzzle.mono_l : ∀ k, (∀ y0 y1 y2 y3 y4 y5, LeO (spec_MakePuzzle.j0 k y0 y1 y2 y3 y4 y5) (spec_MakePuzzle.j0 (k + 1) y0 y1 y2 y3 y4 y5)) ∧ (∀ y0 y1 y2 y3 y4 y5 y6, LeO (spec_MakePuzzle.l0 k y0 y1 y2 y3 y4 y5 y6) (spec_MakePuzzle.l0 (k + 1) y0 y1 y2 y3 y4 y5 y6)) ∧ (∀ y0 y1 y2 y3 y4 y5 y6 y7 y8 y9 y10 y11, LeO (spec_MakePuzzle.j2 k y0 y1 y2 y3 y4 y5 y6 y7 y8 y9 y10 y11) (spec_MakePuzzle.j2 (k + 1) y0 y1 y2 y3 y4 y5 y6 y7 y8 y9 y10 y11))
 | 0 => ⟨fun _ _ _ _ _ _ r h => by simp [spec_MakePuzzle.j0] at h, fun _ _ _ _ _ _ _ r h => by simp [spec_MakePuzzle.l0] at h, fun _ _ _ _ _ _ _ _ _ _ _ _ r h => by simp [spec_MakePuzzle.j2] at h⟩
 | k + 1 => by
  obtain ⟨ih0, ih1, ih2⟩ := spec_MakePuzzle.mono_l k
  refine ⟨?_, ?_, ?_⟩
  ·intro y0 y1 y2 y3 y4 y5
   unfold spec_MakePuzzle.j0
   repeat' first
   | (with_reducible exact ih0 _ _ _ _ _ _)
   | (with_reducible exact ih1 _ _ _ _ _ _ _)
   | (with_reducible exact ih2 _ _ _ _ _ _ _ _ _ _ _ _)
   | (with_reducible exact spec_paGood.mono _ _ _)
   | (with_reducible exact spec_paNumbers.mono _ _ _)
   | (with_reducible exact spec_paParts.mono _ _ _)
   | (with_reducible exact spec_paTable.mono _ _ _)
   | (with_reducible exact spec_pzThrees.mono _ _ _)
   | (with_reducible exact LeO.refl _)
   | (with_reducible exact LeO.none _)
   | (with_reducible refine LeO.ite ?_ ?_)
   | (with_reducible refine LeO.bind ?_ (fun _ => ?_))
   | exact ih0 _ _ _ _ _ _
   | exact ih1 _ _ _ _ _ _ _
   | exact ih2 _ _ _ _ _ _ _ _ _ _ _ _
   | exact spec_paGood.mono _ _ _
   | exact spec_paNumbers.mono _ _ _
   | exact spec_paParts.mono _ _ _
   | exact spec_paTable.mono _ _ _
   | exact spec_pzThrees.mono _ _ _
   | exact LeO.none _
   | refine LeO.ite ?_ ?_
   | refine LeO.bind ?_ (fun _ => ?_)
  ·intro y0 y1 y2 y3 y4 y5 y6
   unfold spec_MakePuzzle.l0
   repeat' first
   | (with_reducible exact ih0 _ _ _ _ _ _)
   | (with_reducible exact ih1 _ _ _ _ _ _ _)
   | (with_reducible exact ih2 _ _ _ _ _ _ _ _ _ _ _ _)
   | (with_reducible exact spec_paGood.mono _ _ _)
   | (with_reducible exact spec_paNumbers.mono _ _ _)
   | (with_reducible exact spec_paParts.mono _ _ _)
   | (with_reducible exact spec_paTable.mono _ _ _)
   | (with_reducible exact spec_pzThrees.mono _ _ _)
   | (with_reducible exact LeO.refl _)
   | (with_reducible exact LeO.none _)
   | (with_reducible refine LeO.ite ?_ ?_)
   | (with_reducible refine LeO.bind ?_ (fun _ => ?_))
   | exact ih0 _ _ _ _ _ _
   | exact ih1 _ _ _ _ _ _ _
   | exact ih2 _ _ _ _ _ _ _ _ _ _ _ _
   | exact spec_paGood.mono _ _ _
   | exact spec_paNumbers.mono _ _ _
   | exact spec_paParts.mono _ _ _
   | exact spec_paTable.mono _ _ _
   | exact spec_pzThrees.mono _ _ _
   | exact LeO.none _
   | refine LeO.ite ?_ ?_
   | refine LeO.bind ?_ (fun _ => ?_)
  ·intro y0 y1 y2 y3 y4 y5 y6 y7 y8 y9 y10 y11
   unfold spec_MakePuzzle.j2
   repeat' first
   | (with_reducible exact ih0 _ _ _ _ _ _)
   | (with_reducible exact ih1 _ _ _ _ _ _ _)
   | (with_reducible exact ih2 _ _ _ _ _ _ _ _ _ _ _ _)
   | (with_reducible exact spec_paGood.mono _ _ _)
   | (with_reducible exact spec_paNumbers.mono _ _ _)
   | (with_reducible exact spec_paParts.mono _ _ _)
   | (with_reducible exact spec_paTable.mono _ _ _)
   | (with_reducible exact spec_pzThrees.mono _ _ _)
   | (with_reducible exact LeO.refl _)
   | (with_reducible exact LeO.none _)
   | (with_reducible refine LeO.ite ?_ ?_)
   | (with_reducible refine LeO.bind ?_ (fun _ => ?_))
   | exact ih0 _ _ _ _ _ _
   | exact ih1 _ _ _ _ _ _ _
   | exact ih2 _ _ _ _ _ _ _ _ _ _ _ _
   | exact spec_paGood.mono _ _ _
   | exact spec_paNumbers.mono _ _ _
   | exact spec_paParts.mono _ _ _
   | exact spec_paTable.mono _ _ _
   | exact spec_pzThrees.mono _ _ _
   | exact LeO.none _
   | refine LeO.ite ?_ ?_
   | refine LeO.bind ?_ (fun _ => ?_)
theorem spec_MakePuzzle.mono : ∀ a0 a1 a2 a3 k, LeO (spec_MakePuzzle.f k a0 a1 a2 a3) (spec_MakePuzzle.f (k + 1) a0 a1 a2 a3) := by
 intro a0 a1 a2 a3 k
 obtain ⟨ih0, ih1, ih2⟩ := spec_MakePuzzle.mono_l k
 unfold spec_MakePuzzle.f
 repeat' first
   | (with_reducible exact ih0 _ _ _ _ _ _)
   | (with_reducible exact ih1 _ _ _ _ _ _ _)
   | (with_reducible exact ih2 _ _ _ _ _ _ _ _ _ _ _ _)
   | (with_reducible exact spec_paGood.mono _ _ _)
   | (with_reducible exact spec_paNumbers.mono _ _ _)
   | (with_reducible exact spec_paParts.mono _ _ _)
   | (with_reducible exact spec_paTable.mono _ _ _)
   | (with_reducible exact spec_pzThrees.mono _ _ _)
   | (with_reducible exact LeO.refl _)
   | (with_reducible exact LeO.none _)
   | (with_reducible refine LeO.ite ?_ ?_)
   | (with_reducible refine LeO.bind ?_ (fun _ => ?_))
   | exact ih0 _ _ _ _ _ _
   | exact ih1 _ _ _ _ _ _ _
   | exact ih2 _ _ _ _ _ _ _ _ _ _ _ _
   | exact spec_paGood.mono _ _ _
   | exact spec_paNumbers.mono _ _ _
   | exact spec_paParts.mono _ _ _
   | exact spec_paTable.mono _ _ _
   | exact spec_pzThrees.mono _ _ _
   | exact LeO.none _
   | refine LeO.ite ?_ ?_
   | refine LeO.bind ?_ (fun _ => ?_)
def spec_MakePuzzle.T26 : Bool × List (List Nat × List Nat) := (true, [([], []), ([0], [0]), ([], []), ([2], [2]), ([1, 3], [1, 3]), ([4], [4]), ([0, 1, 2, 3, 4, 5], []), ([6, 5, 1, 0, 1, 2, 3, 4, 5], [5, 6])])
def spec_MakePuzzle.B26 : List Nat := [0, 1, 0, 4, 15, 31, 63, 127]
theorem spec_MakePuzzle.tab26 : rtab .any (opsOf Tryd.f13 26) = spec_MakePuzzle.T26 := by kernel_rfl
theorem spec_MakePuzzle.bits26 : waitsOk spec_MakePuzzle.T26.2 spec_MakePuzzle.B26 = true := by kernel_rfl
set_option maxHeartbeats 8000000 in
set_option maxRecDepth 100000 in
theorem spec_MakePuzzle.calls (k : Nat) (a0_0 : Int) (A0_1 : Option Addr) (c0_1 : Nat) (l0_1 : List (S105)) (a1 : Int) (a2 : Int) (r1 : Int) (r2 : List (S70)) (r3 : Bool) (w : World) (hr0_1 : Kd.C k105 w A0_1 l0_1.length l0_1) (hc0_1 : l0_1.length ≤ c0_1) (h : spec_MakePuzzle.f k a0_0 l0_1 a1 a2 = some (r1, r2, r3)) :
  Calls Tryd.prog 13 #[.agg #[.int .i64 a0_0, .slice A0_1 l0_1.length c0_1], .int .i64 a1, .int .i64 a2] w fun e w' => ∃ v1_ : Value, e = .returned (.tuple #[.agg #[.int .i64 r1, v1_], .bool r3]) ∧ Kd.R k70 70 w' w.heap.size (fun _ => True) v1_ r2 ∧ Below w.heap.size w w' := by
 have hu33 := Tryd.underlying33
 have hu28 := Tryd.underlying28
 have hu70 := Tryd.underlying70
 have HR0_1 := Aside0.mk hr0_1
 have HC0_1 := Aside0.mk hc0_1
 clear hr0_1 hc0_1
 have HB := Aside0.mk (Below.refl w.heap.size w)
 have H : ((spec_paGood.f k a0_0 l0_1).bind fun t236 => (if t236 = true then ((spec_l1In.f a0_0 2 5).bind fun t237 => (if t237 = true then ((spec_l1In.f a1 0 8).bind fun t238 => (if t238 = true then ((spec_l1In.f a2 0 9999).bind fun t239 => (spec_MakePuzzle.j0 k a1 a2 a0_0 (!t239) a0_0 l0_1)) else (spec_MakePuzzle.j0 k a1 a2 a0_0 true a0_0 l0_1))) else (spec_MakePuzzle.j0 k a1 a2 a0_0 true a0_0 l0_1))) else (spec_MakePuzzle.j0 k a1 a2 a0_0 true a0_0 l0_1))) = some (r1, r2, r3) := h
 clear h
 have HC4 := Aside0.mk H
 clear H
 go_enter Tryd.func13, Tryd.ntmps13
 go_upto_region 2 with (first | ((with_reducible refine gate_dst (N := 3) rfl ?_); refine bxE 3 #[.int .i64 a0_0, .slice A0_1 l0_1.length c0_1] 33 rfl ?_; intro gb234 hg w5 hbox hb; have BK234 := Aside0.mk (hbox); have GW234 := gS HB hg; have GE234 := gS HB hg; replace HB := hS HB hb; clear hb hbox hg) | ((with_reducible refine gate_dst (N := 6) rfl ?_); refine bxE 6 #[.int .i64 0, .slice none 0 0] 28 rfl ?_; intro gb235 hg w6 hbox hb; have BK235 := Aside0.mk (hbox); have GW235 := gS HB hg; have GE235 := gS HB hg; have NB234_235 := nL BK234 hg; have NB235_234 := nG BK234 hg; replace BK234 := bS BK234 hb; replace HB := hS HB hb; clear hb hbox hg; have hnb7 := NB234_235.out; have hnc7 := NB235_234.out; have hcz8_0 := cz BK234 0; have hcz8_1 := cz BK234 1; have hfz8_0 := fz BK234 0; have hfz8_1 := fz BK234 1))
 (try simp only [Act.put, List.setIfInBounds_toArray, List.set_cons_zero, List.set_cons_succ])
 go_cut [33] (fun v33 wc => ∃ (kq : Nat) (x33_3 : Bool), v33 = .bool x33_3 ∧ Aside0 (spec_MakePuzzle.j0 kq a1 a2 a0_0 x33_3 a0_0 l0_1 = some (r1, r2, r3)) ∧ Aside0 (kq ≤ k) ∧ Aside0 (wc.heap[gb234]? = some (.cells #[.int .i64 a0_0, (.slice A0_1 l0_1.length c0_1)] 33 (0, 0))) ∧ Aside0 (wc.heap[gb235]? = some (.cells #[.int .i64 0, (.slice none 0 0)] 28 (0, 0))) ∧ Aside0 (Below w.heap.size w wc))
 case first =>
  have H := HC4.out
  clear HC4
  replace H := Option.bind_eq_some_iff.mp H
  obtain ⟨t236, A90, H⟩ := H
  try dsimp only at H
  have A9 := Aside0.mk A90
  clear A90
  by_cases c10 : t236 = true
  ·subst c10
   rw [if_pos rfl] at H
   replace H := Option.bind_eq_some_iff.mp H
   obtain ⟨t237, A110, H⟩ := H
   try dsimp only at H
   have A11 := Aside0.mk A110
   clear A110
   by_cases c12 : t237 = true
   ·subst c12
    rw [if_pos rfl] at H
    replace H := Option.bind_eq_some_iff.mp H
    obtain ⟨t238, A130, H⟩ := H
    try dsimp only at H
    have A13 := Aside0.mk A130
    clear A130
    by_cases c14 : t238 = true
    ·subst c14
     rw [if_pos rfl] at H
     replace H := Option.bind_eq_some_iff.mp H
     obtain ⟨t239, A150, H⟩ := H
     try dsimp only at H
     have A15 := Aside0.mk A150
     clear A150
     have H' := Aside0.mk H
     clear H
     have hnb16 := NB234_235.out
     have hnc16 := NB235_234.out
     have hcz17_0 := cz BK234 0
     have hcz17_1 := cz BK234 1
     have hfz17_0 := fz BK234 0
     have hfz17_1 := fz BK234 1
     go_wp2_with (first | ((with_reducible refine gate_callee (f := 49) rfl ?_); refine goC (N := some 17) Tryd.func49 #[.agg #[.int .i64 a0_0, .slice A0_1 l0_1.length c0_1]] rfl ?_; (with_reducible refine (spec_paGood.calls k a0_0 _ _ l0_1 true _ ?side1 ?side2 A9.out).mono ?_); (case side1 => exact cS (Kd.C_below HR0_1.out HB.out)); (case side2 => exact HC0_1.out); rintro e w18 ⟨rfl, hb⟩; refine ⟨_, rfl, ?_⟩; replace BK234 := bS BK234 hb; replace BK235 := bS BK235 hb; replace HB := hS HB hb; (try clear hb); (try clear hb2); (try clear hk); (try clear hi)) | (go_at_call 50; (with_reducible refine (spec_l1In.calls a0_0 2 5 true _ A11.out).mono ?_); rintro e w' ⟨rfl, ⟨nd, rfl⟩⟩) | (go_at_call 50; (with_reducible refine (spec_l1In.calls a1 0 8 true _ A13.out).mono ?_); rintro e w' ⟨rfl, ⟨nd, rfl⟩⟩) | (go_at_call 50; (with_reducible refine (spec_l1In.calls a2 0 9999 t239 _ A15.out).mono ?_); rintro e w' ⟨rfl, ⟨nd, rfl⟩⟩))
     go_meet
     case rel => exact ⟨_, (!t239), (by first | rfl | (simp; done) | (simp [*]; done)), H', ⟨by first | omega | exact Nat.le_refl _⟩, ⟨bK⟩, ⟨bK⟩, ⟨hB⟩⟩
    ·replace c14 := Bool.eq_false_iff.mpr c14
     subst c14
     rw [if_neg (show ¬ (false = true) by decide)] at H
     have H' := Aside0.mk H
     clear H
     have hnb19 := NB234_235.out
     have hnc19 := NB235_234.out
     have hcz20_0 := cz BK234 0
     have hcz20_1 := cz BK234 1
     have hfz20_0 := fz BK234 0
     have hfz20_1 := fz BK234 1
     go_wp2_with (first | ((with_reducible refine gate_callee (f := 49) rfl ?_); refine goC (N := some 17) Tryd.func49 #[.agg #[.int .i64 a0_0, .slice A0_1 l0_1.length c0_1]] rfl ?_; (with_reducible refine (spec_paGood.calls k a0_0 _ _ l0_1 true _ ?side1 ?side2 A9.out).mono ?_); (case side1 => exact cS (Kd.C_below HR0_1.out HB.out)); (case side2 => exact HC0_1.out); rintro e w21 ⟨rfl, hb⟩; refine ⟨_, rfl, ?_⟩; replace BK234 := bS BK234 hb; replace BK235 := bS BK235 hb; replace HB := hS HB hb; (try clear hb); (try clear hb2); (try clear hk); (try clear hi)) | (go_at_call 50; (with_reducible refine (spec_l1In.calls a0_0 2 5 true _ A11.out).mono ?_); rintro e w' ⟨rfl, ⟨nd, rfl⟩⟩) | (go_at_call 50; (with_reducible refine (spec_l1In.calls a1 0 8 false _ A13.out).mono ?_); rintro e w' ⟨rfl, ⟨nd, rfl⟩⟩))
     go_meet
     case rel => exact ⟨_, (true), (by first | rfl | (simp; done) | (simp [*]; done)), H', ⟨by first | omega | exact Nat.le_refl _⟩, ⟨bK⟩, ⟨bK⟩, ⟨hB⟩⟩
   ·replace c12 := Bool.eq_false_iff.mpr c12
    subst c12
    rw [if_neg (show ¬ (false = true) by decide)] at H
    have H' := Aside0.mk H
    clear H
    have hnb22 := NB234_235.out
    have hnc22 := NB235_234.out
    have hcz23_0 := cz BK234 0
    have hcz23_1 := cz BK234 1
    have hfz23_0 := fz BK234 0
    have hfz23_1 := fz BK234 1
    go_wp2_with (first | ((with_reducible refine gate_callee (f := 49) rfl ?_); refine goC (N := some 17) Tryd.func49 #[.agg #[.int .i64 a0_0, .slice A0_1 l0_1.length c0_1]] rfl ?_; (with_reducible refine (spec_paGood.calls k a0_0 _ _ l0_1 true _ ?side1 ?side2 A9.out).mono ?_); (case side1 => exact cS (Kd.C_below HR0_1.out HB.out)); (case side2 => exact HC0_1.out); rintro e w24 ⟨rfl, hb⟩; refine ⟨_, rfl, ?_⟩; replace BK234 := bS BK234 hb; replace BK235 := bS BK235 hb; replace HB := hS HB hb; (try clear hb); (try clear hb2); (try clear hk); (try clear hi)) | (go_at_call 50; (with_reducible refine (spec_l1In.calls a0_0 2 5 false _ A11.out).mono ?_); rintro e w' ⟨rfl, ⟨nd, rfl⟩⟩))
    go_meet
    case rel => exact ⟨_, (true), (by first | rfl | (simp; done) | (simp [*]; done)), H', ⟨by first | omega | exact Nat.le_refl _⟩, ⟨bK⟩, ⟨bK⟩, ⟨hB⟩⟩
  ·replace c10 := Bool.eq_false_iff.mpr c10
   subst c10
   rw [if_neg (show ¬ (false = true) by decide)] at H
   have H' := Aside0.mk H
   clear H
   have hnb25 := NB234_235.out
   have hnc25 := NB235_234.out
   have hcz26_0 := cz BK234 0
   have hcz26_1 := cz BK234 1
   have hfz26_0 := fz BK234 0
   have hfz26_1 := fz BK234 1
   go_wp2_with (first | ((with_reducible refine gate_callee (f := 49) rfl ?_); refine goC (N := some 17) Tryd.func49 #[.agg #[.int .i64 a0_0, .slice A0_1 l0_1.length c0_1]] rfl ?_; (with_reducible refine (spec_paGood.calls k a0_0 _ _ l0_1 false _ ?side1 ?side2 A9.out).mono ?_); (case side1 => exact cS (Kd.C_below HR0_1.out HB.out)); (case side2 => exact HC0_1.out); rintro e w27 ⟨rfl, hb⟩; refine ⟨_, rfl, ?_⟩; replace BK234 := bS BK234 hb; replace BK235 := bS BK235 hb; replace HB := hS HB hb; (try clear hb); (try clear hb2); (try clear hk); (try clear hi)))
   go_meet
   case rel => exact ⟨_, (true), (by first | rfl | (simp; done) | (simp [*]; done)), H', ⟨by first | omega | exact Nat.le_refl _⟩, ⟨bK⟩, ⟨bK⟩, ⟨hB⟩⟩
 case rest =>
  clear HC4
  try clear c1
  try clear c2
  try clear p2
  try clear c4
  try clear c7
  try clear c10
  try clear c12
  try clear c13
  try clear c14
  try clear c16
  try clear c19
  try clear c22
  try clear c25
  try clear hcz17_0
  try clear hcz17_1
  try clear hcz20_0
  try clear hcz20_1
  try clear hcz23_0
  try clear hcz23_1
  try clear hcz26_0
  try clear hcz26_1
  try clear hcz8_0
  try clear hcz8_1
  try clear hfz17_0
  try clear hfz17_1
  try clear hfz20_0
  try clear hfz20_1
  try clear hfz23_0
  try clear hfz23_1
  try clear hfz26_0
  try clear hfz26_1
  try clear hfz8_0
  try clear hfz8_1
  obtain ⟨kq, x33_3, rfl, HA, HJ3, BK234, BK235, HB⟩ := hcut
  cases kq with
  | zero => exact absurd HA.out (by simp [spec_MakePuzzle.j0])
  | succ kj3 =>
   have H := HA.out
   clear HA
   simp only [spec_MakePuzzle.j0] at H
   by_cases c28 : x33_3 = true
   ·subst c28
    rw [if_pos rfl] at H
    simp only [Option.some.injEq, Prod.mk.injEq] at H
    obtain ⟨rfl, rfl, rfl⟩ := H
    have hnb29 := NB235_234.out
    have hnc29 := NB234_235.out
    have hcz30_0 := cz BK235 0
    have hcz30_1 := cz BK235 1
    have hfz30_0 := fz BK235 0
    have hfz30_1 := fz BK235 1
    go_wp2
    refine bodyPost_ret (results_ct rfl _ _ gb235 28 #[.int .i64 0, .slice none 0 0] (0, 0) _ rfl (by (with_reducible repeat (first | refine blk_drewN ?_ _ | refine blk_drew ?_ | refine blk_alloc ?_ _)); refine blk_put (cs := #[.int .i64 0, .slice none 0 0]) ?_ 1 _ rfl; (with_reducible repeat (first | refine blk_drewN ?_ _ | refine blk_drew ?_ | refine blk_alloc ?_ _)); refine blk_put (cs := #[.int .i64 0, .slice none 0 0]) ?_ 0 _ rfl; (with_reducible repeat (first | refine blk_drewN ?_ _ | refine blk_drew ?_ | refine blk_alloc ?_ _)); exact BK235.out) Tryd.underlying28 rfl (by kernel_rfl)) rfl ?_
    exact ⟨_, by first | rfl | (simp [errW_none, errW_some] <;> rfl) | (simp [*, errW_none, errW_some] <;> rfl), by first | exact Kd.R_nil _ _ _ _ _ | exact Kd.N_nil _ _ _ _ _ | exact Kd.V_nil _ _ _ _ _ | exact Kd.Q_nil _ _ _ _ _ | exact Kd.S_nil _ _ _ _ _, hB⟩
   ·replace c28 := Bool.eq_false_iff.mpr c28
    subst c28
    rw [if_neg (show ¬ (false = true) by decide)] at H
    have H' := Aside0.mk H
    clear H
    go_wp2_with (first | ((with_reducible refine gate_dst (N := 9) rfl ?_); refine bxE 9 #[.int .i64 0, .slice none 0 0] 28 rfl ?_; intro gb240 hg w31 hbox hb; have BK240 := Aside0.mk (hbox); have GW240 := gS HB hg; have GE240 := gS HB hg; have NB234_240 := nL BK234 hg; have NB240_234 := nG BK234 hg; have NB235_240 := nL BK235 hg; have NB240_235 := nG BK235 hg; replace BK234 := bS BK234 hb; replace BK235 := bS BK235 hb; replace HB := hS HB hb; clear hb hbox hg; have hnb32 := NB240_234.out; have hnc32 := NB234_240.out; have hnb33 := NB240_235.out; have hnc33 := NB235_240.out; have hcz34_0 := cz BK240 0; have hcz34_1 := cz BK240 1; have hfz34_0 := fz BK240 0; have hfz34_1 := fz BK240 1))
    go_loopg [1, 10] kj3 (fun kq v1 v10 w' => ∃ (x1_2 : Int) (x10_2 : Int) (x241001_2 : List (S70)) (u241001 : Value), v1 = .int .i64 x1_2 ∧ v10 = .int .i64 x10_2 ∧ Aside0 (spec_MakePuzzle.l0 kq x1_2 a0_0 x10_2 a0_0 l0_1 a0_0 x241001_2 = some (r1, r2, r3)) ∧ Aside0 (kq ≤ kj3) ∧ Aside0 (Kd.R k70 70 w' w.heap.size (fun _ => True) u241001 x241001_2) ∧ Aside0 (w'.heap[gb234]? = some (.cells #[.int .i64 a0_0, (.slice A0_1 l0_1.length c0_1)] 33 (0, 0))) ∧ Aside0 (w'.heap[gb235]? = some (.cells #[.int .i64 0, (.slice none 0 0)] 28 (0, 0))) ∧ Aside0 (w'.heap[gb240]? = some (.cells #[.int .i64 a0_0, u241001] 28 (0, 0))) ∧ Aside0 (Below w.heap.size w w'))
    case atStart => exact ⟨(a1), (a2), (([] : List (S70))), (.slice none 0 0), (by first | rfl | (simp; done) | (simp [*]; done)), (by first | rfl | (simp; done) | (simp [*]; done)), H', ⟨Nat.le_refl _⟩, ⟨by first | exact Kd.R_nil _ _ _ _ _ | exact Kd.N_nil _ _ _ _ _ | exact Kd.V_nil _ _ _ _ _ | exact Kd.Q_nil _ _ _ _ _ | exact Kd.S_nil _ _ _ _ _⟩, ⟨by (with_reducible repeat (first | refine blk_drewN ?_ _ | refine blk_drew ?_ | refine blk_alloc ?_ _)); refine blk_far ?_ NB234_240.out _; (with_reducible repeat (first | refine blk_drewN ?_ _ | refine blk_drew ?_ | refine blk_alloc ?_ _)); refine blk_far ?_ NB234_240.out _; (with_reducible repeat (first | refine blk_drewN ?_ _ | refine blk_drew ?_ | refine blk_alloc ?_ _)); exact BK234.out⟩, ⟨by (with_reducible repeat (first | refine blk_drewN ?_ _ | refine blk_drew ?_ | refine blk_alloc ?_ _)); refine blk_far ?_ NB235_240.out _; (with_reducible repeat (first | refine blk_drewN ?_ _ | refine blk_drew ?_ | refine blk_alloc ?_ _)); refine blk_far ?_ NB235_240.out _; (with_reducible repeat (first | refine blk_drewN ?_ _ | refine blk_drew ?_ | refine blk_alloc ?_ _)); exact BK235.out⟩, ⟨by (with_reducible repeat (first | refine blk_drewN ?_ _ | refine blk_drew ?_ | refine blk_alloc ?_ _)); refine blk_put (cs := #[.int .i64 a0_0, .slice none 0 0]) ?_ 1 _ rfl; (with_reducible repeat (first | refine blk_drewN ?_ _ | refine blk_drew ?_ | refine blk_alloc ?_ _)); refine blk_put (cs := #[.int .i64 0, .slice none 0 0]) ?_ 0 _ rfl; (with_reducible repeat (first | refine blk_drewN ?_ _ | refine blk_drew ?_ | refine blk_alloc ?_ _)); exact BK240.out⟩, ⟨hB⟩⟩
    case round =>
     clear H'
     try clear c1
     try clear c2
     try clear p2
     try clear c3
     try clear c4
     try clear c7
     try clear c10
     try clear c12
     try clear c13
     try clear c14
     try clear c16
     try clear c19
     try clear c22
     try clear c25
     try clear c28
     try clear c29
     try clear c32
     try clear c33
     try clear hcz17_0
     try clear hcz17_1
     try clear hcz20_0
     try clear hcz20_1
     try clear hcz23_0
     try clear hcz23_1
     try clear hcz26_0
     try clear hcz26_1
     try clear hcz30_0
     try clear hcz30_1
     try clear hcz34_0
     try clear hcz34_1
     try clear hcz8_0
     try clear hcz8_1
     try clear hfz17_0
     try clear hfz17_1
     try clear hfz20_0
     try clear hfz20_1
     try clear hfz23_0
     try clear hfz23_1
     try clear hfz26_0
     try clear hfz26_1
     try clear hfz30_0
     try clear hfz30_1
     try clear hfz34_0
     try clear hfz34_1
     try clear hfz8_0
     try clear hfz8_1
     try clear p2
     obtain ⟨x1_2, x10_2, x241001_2, u241001, rfl, rfl, HA, HK2, HO_241001, BK234, BK235, BK240, HB⟩ := hrel
     cases gk with
     | zero => exact absurd HA.out (by simp [spec_MakePuzzle.l0])
     | succ k2 =>
      have H := HA.out
      clear HA
      simp only [spec_MakePuzzle.l0] at H
      by_cases c35 : x1_2 > 0
      ·rw [if_pos c35] at H
       have c35b0 : decide (0 < x1_2) = true := decide_eq_true c35
       clear c35
       replace H := Option.bind_eq_some_iff.mp H
       obtain ⟨t241, A360, H⟩ := H
       try dsimp only at H
       have A36 := Aside0.mk A360
       clear A360
       have HC37 := Aside0.mk H
       clear H
       go_upto_if 53 with (first | ((with_reducible refine gate_callee (f := 51) rfl ?_); refine goC (N := some 43) Tryd.func51 #[.int .i64 x10_2] rfl ?_; (with_reducible refine (spec_pzNext.calls x10_2 t241 _ A36.out).mono ?_); rintro e w' ⟨rfl, ⟨nd, rfl⟩⟩; refine ⟨_, rfl, ?_⟩; (try (rw [drewN_self wr]; generalize hq_ : World.drewN wr _ = wr; have n0_ : Aside0 (Kd.R k70 70 wr w.heap.size (fun _ => True) u241001 x241001_2) := ⟨by rw [← hq_]; exact (rU HO_241001)⟩; have n1_ : Aside0 (wr.heap[gb234]? = some (.cells #[.int .i64 a0_0, .slice A0_1 l0_1.length c0_1] 33 (0, 0))) := ⟨by rw [← hq_]; exact bK⟩; have n2_ : Aside0 (wr.heap[gb235]? = some (.cells #[.int .i64 0, .slice none 0 0] 28 (0, 0))) := ⟨by rw [← hq_]; exact bK⟩; have n3_ : Aside0 (wr.heap[gb240]? = some (.cells #[.int .i64 a0_0, u241001] 28 (0, 0))) := ⟨by rw [← hq_]; exact bK⟩; have n4_ : Aside0 (Below w.heap.size w wr) := ⟨by rw [← hq_]; exact hB⟩; clear HO_241001 BK234 BK235 BK240 HB hq_; have HO_241001 := n0_; have BK234 := n1_; have BK235 := n2_; have BK240 := n3_; have HB := n4_; clear n0_ n1_ n2_ n3_ n4_))) | ((with_reducible refine gate_dst (N := 11) rfl ?_); refine bxE 11 #[.int .i64 0, .int .i64 0, .int .i64 0] 70 rfl ?_; intro gb242 hg w38 hbox hb; have BK242 := Aside0.mk (hbox); have GW242 := gS HB hg; have GE242 := gS HB hg; have NB234_242 := nL BK234 hg; have NB242_234 := nG BK234 hg; have NB235_242 := nL BK235 hg; have NB242_235 := nG BK235 hg; have NB240_242 := nL BK240 hg; have NB242_240 := nG BK240 hg; replace HO_241001 := Aside0.mk (Kd.R_below (Kd.R_elderB (rU HO_241001) gb242 (Nat.le_of_eq hg.symm)) hb); replace BK234 := bS BK234 hb; replace BK235 := bS BK235 hb; replace BK240 := bS BK240 hb; replace HB := hS HB hb; clear hb hbox hg; have hnb39 := NB242_234.out; have hnc39 := NB234_242.out; have hnb40 := NB242_235.out; have hnc40 := NB235_242.out; have hnb41 := NB242_240.out; have hnc41 := NB240_242.out; have hcz42_0 := cz BK242 0; have hcz42_1 := cz BK242 1; have hcz42_2 := cz BK242 2; have hfz42_0 := fz BK242 0; have hfz42_1 := fz BK242 1; have hfz42_2 := fz BK242 2))
       (try simp only [Act.put, List.setIfInBounds_toArray, List.set_cons_zero, List.set_cons_succ])
       go_cut [53] (fun v53 wc => ∃ (kq : Nat) (x53_36 : Bool), v53 = .bool x53_36 ∧ Aside0 (spec_MakePuzzle.j2 kq x1_2 a0_0 t241 (Int.tmod t241 6) x53_36 a0_0 l0_1 a0_0 x241001_2 (Int.tmod t241 6) 0 0 = some (r1, r2, r3)) ∧ Aside0 (kq ≤ k2) ∧ Aside0 (Kd.R k70 70 wc w.heap.size (fun k_ => k_ ≠ gb242) u241001 x241001_2) ∧ Aside0 (wc.heap[gb234]? = some (.cells #[.int .i64 a0_0, (.slice A0_1 l0_1.length c0_1)] 33 (0, 0))) ∧ Aside0 (wc.heap[gb235]? = some (.cells #[.int .i64 0, (.slice none 0 0)] 28 (0, 0))) ∧ Aside0 (wc.heap[gb240]? = some (.cells #[.int .i64 a0_0, u241001] 28 (0, 0))) ∧ Aside0 (wc.heap[gb242]? = some (.cells #[.int .i64 (Int.tmod t241 6), .int .i64 0, .int .i64 0] 70 (0, 0))) ∧ Aside0 (Below w.heap.size w wc))
       case first =>
        have H := HC37.out
        clear HC37
        by_cases c43 : (Int.tmod t241 6) = 0
        ·rw [if_pos c43] at H
         have c43b0 : ((Int.tmod t241 6) == 0) = true := beq_iff_eq.mpr c43
         have c43b1 : ((Int.tmod t241 6) != 0) = false := bne_eq_false_iff_eq.mpr c43
         clear c43
         (first | rw [c43b0] | (simp only [i64_w, i32_w]; rw [c43b0]) | skip)
         have H' := Aside0.mk H
         clear H
         go_wp2
         go_meet
         case rel => exact ⟨_, (((Int.tmod t241 6) == 0)), (by first | rfl | (simp; done) | (simp [*]; done)), H', ⟨by have := HJ3.out; have := HK2.out; first | omega | exact Nat.le_refl _⟩, ⟨by (with_reducible repeat (first | apply Kd.R_alloc | apply Kd.R_drewN | apply Kd.R_drew)); exact Kd.R_mono (Kd.R_far (p := ⟨gb242, 2, none⟩) (Kd.R_far (p := ⟨gb242, 1, none⟩) (Kd.R_far (p := ⟨gb242, 0, none⟩) (Kd.R_mono HO_241001.out (fun k_ hk => (⟨hk, hk.2⟩ : _ ∧ k_ ≠ gb242))) (fun _ hk => hk.2) (.int .i64 (Int.tmod t241 6))) (fun _ hk => hk.2) (.int .i64 0)) (fun _ hk => hk.2) (.int .i64 0)) (fun _ hk => hk.1.2)⟩, ⟨by (with_reducible repeat (first | refine blk_drewN ?_ _ | refine blk_drew ?_ | refine blk_alloc ?_ _)); refine blk_far ?_ NB234_242.out _; (with_reducible repeat (first | refine blk_drewN ?_ _ | refine blk_drew ?_ | refine blk_alloc ?_ _)); refine blk_far ?_ NB234_242.out _; (with_reducible repeat (first | refine blk_drewN ?_ _ | refine blk_drew ?_ | refine blk_alloc ?_ _)); refine blk_far ?_ NB234_242.out _; (with_reducible repeat (first | refine blk_drewN ?_ _ | refine blk_drew ?_ | refine blk_alloc ?_ _)); exact BK234.out⟩, ⟨by (with_reducible repeat (first | refine blk_drewN ?_ _ | refine blk_drew ?_ | refine blk_alloc ?_ _)); refine blk_far ?_ NB235_242.out _; (with_reducible repeat (first | refine blk_drewN ?_ _ | refine blk_drew ?_ | refine blk_alloc ?_ _)); refine blk_far ?_ NB235_242.out _; (with_reducible repeat (first | refine blk_drewN ?_ _ | refine blk_drew ?_ | refine blk_alloc ?_ _)); refine blk_far ?_ NB235_242.out _; (with_reducible repeat (first | refine blk_drewN ?_ _ | refine blk_drew ?_ | refine blk_alloc ?_ _)); exact BK235.out⟩, ⟨by (with_reducible repeat (first | refine blk_drewN ?_ _ | refine blk_drew ?_ | refine blk_alloc ?_ _)); refine blk_far ?_ NB240_242.out _; (with_reducible repeat (first | refine blk_drewN ?_ _ | refine blk_drew ?_ | refine blk_alloc ?_ _)); refine blk_far ?_ NB240_242.out _; (with_reducible repeat (first | refine blk_drewN ?_ _ | refine blk_drew ?_ | refine blk_alloc ?_ _)); refine blk_far ?_ NB240_242.out _; (with_reducible repeat (first | refine blk_drewN ?_ _ | refine blk_drew ?_ | refine blk_alloc ?_ _)); exact BK240.out⟩, ⟨by (with_reducible repeat (first | refine blk_drewN ?_ _ | refine blk_drew ?_ | refine blk_alloc ?_ _)); refine blk_put (cs := #[.int .i64 (Int.tmod t241 6), .int .i64 0, .int .i64 0]) ?_ 2 _ rfl; (with_reducible repeat (first | refine blk_drewN ?_ _ | refine blk_drew ?_ | refine blk_alloc ?_ _)); refine blk_put (cs := #[.int .i64 (Int.tmod t241 6), .int .i64 0, .int .i64 0]) ?_ 1 _ rfl; (with_reducible repeat (first | refine blk_drewN ?_ _ | refine blk_drew ?_ | refine blk_alloc ?_ _)); refine blk_put (cs := #[.int .i64 0, .int .i64 0, .int .i64 0]) ?_ 0 _ rfl; (with_reducible repeat (first | refine blk_drewN ?_ _ | refine blk_drew ?_ | refine blk_alloc ?_ _)); exact BK242.out⟩, ⟨hB⟩⟩
        ·rw [if_neg c43] at H
         have c43b0 : ((Int.tmod t241 6) == 0) = false := beq_eq_false_iff_ne.mpr c43
         have c43b1 : ((Int.tmod t241 6) != 0) = true := bne_iff_ne.mpr c43
         (first | rw [c43b0] | (simp only [i64_w, i32_w]; rw [c43b0]) | skip)
         have H' := Aside0.mk H
         clear H
         go_wp2
         go_meet
         case rel => exact ⟨_, (((Int.tmod t241 6) == 1)), (by first | rfl | (simp; done) | (simp [*]; done)), H', ⟨by have := HJ3.out; have := HK2.out; first | omega | exact Nat.le_refl _⟩, ⟨by (with_reducible repeat (first | apply Kd.R_alloc | apply Kd.R_drewN | apply Kd.R_drew)); exact Kd.R_mono (Kd.R_far (p := ⟨gb242, 2, none⟩) (Kd.R_far (p := ⟨gb242, 1, none⟩) (Kd.R_far (p := ⟨gb242, 0, none⟩) (Kd.R_mono HO_241001.out (fun k_ hk => (⟨hk, hk.2⟩ : _ ∧ k_ ≠ gb242))) (fun _ hk => hk.2) (.int .i64 (Int.tmod t241 6))) (fun _ hk => hk.2) (.int .i64 0)) (fun _ hk => hk.2) (.int .i64 0)) (fun _ hk => hk.1.2)⟩, ⟨by (with_reducible repeat (first | refine blk_drewN ?_ _ | refine blk_drew ?_ | refine blk_alloc ?_ _)); refine blk_far ?_ NB234_242.out _; (with_reducible repeat (first | refine blk_drewN ?_ _ | refine blk_drew ?_ | refine blk_alloc ?_ _)); refine blk_far ?_ NB234_242.out _; (with_reducible repeat (first | refine blk_drewN ?_ _ | refine blk_drew ?_ | refine blk_alloc ?_ _)); refine blk_far ?_ NB234_242.out _; (with_reducible repeat (first | refine blk_drewN ?_ _ | refine blk_drew ?_ | refine blk_alloc ?_ _)); exact BK234.out⟩, ⟨by (with_reducible repeat (first | refine blk_drewN ?_ _ | refine blk_drew ?_ | refine blk_alloc ?_ _)); refine blk_far ?_ NB235_242.out _; (with_reducible repeat (first | refine blk_drewN ?_ _ | refine blk_drew ?_ | refine blk_alloc ?_ _)); refine blk_far ?_ NB235_242.out _; (with_reducible repeat (first | refine blk_drewN ?_ _ | refine blk_drew ?_ | refine blk_alloc ?_ _)); refine blk_far ?_ NB235_242.out _; (with_reducible repeat (first | refine blk_drewN ?_ _ | refine blk_drew ?_ | refine blk_alloc ?_ _)); exact BK235.out⟩, ⟨by (with_reducible repeat (first | refine blk_drewN ?_ _ | refine blk_drew ?_ | refine blk_alloc ?_ _)); refine blk_far ?_ NB240_242.out _; (with_reducible repeat (first | refine blk_drewN ?_ _ | refine blk_drew ?_ | refine blk_alloc ?_ _)); refine blk_far ?_ NB240_242.out _; (with_reducible repeat (first | refine blk_drewN ?_ _ | refine blk_drew ?_ | refine blk_alloc ?_ _)); refine blk_far ?_ NB240_242.out _; (with_reducible repeat (first | refine blk_drewN ?_ _ | refine blk_drew ?_ | refine blk_alloc ?_ _)); exact BK240.out⟩, ⟨by (with_reducible repeat (first | refine blk_drewN ?_ _ | refine blk_drew ?_ | refine blk_alloc ?_ _)); refine blk_put (cs := #[.int .i64 (Int.tmod t241 6), .int .i64 0, .int .i64 0]) ?_ 2 _ rfl; (with_reducible repeat (first | refine blk_drewN ?_ _ | refine blk_drew ?_ | refine blk_alloc ?_ _)); refine blk_put (cs := #[.int .i64 (Int.tmod t241 6), .int .i64 0, .int .i64 0]) ?_ 1 _ rfl; (with_reducible repeat (first | refine blk_drewN ?_ _ | refine blk_drew ?_ | refine blk_alloc ?_ _)); refine blk_put (cs := #[.int .i64 0, .int .i64 0, .int .i64 0]) ?_ 0 _ rfl; (with_reducible repeat (first | refine blk_drewN ?_ _ | refine blk_drew ?_ | refine blk_alloc ?_ _)); exact BK242.out⟩, ⟨hB⟩⟩
       case rest =>
        clear HC37
        try clear c1
        try clear c2
        try clear p2
        try clear c3
        try clear c4
        try clear c5
        try clear c7
        try clear c10
        try clear c12
        try clear c13
        try clear c14
        try clear c16
        try clear c19
        try clear c22
        try clear c25
        try clear c28
        try clear c29
        try clear c32
        try clear c33
        try clear c35
        try clear c35b0
        try clear c39
        try clear c40
        try clear c41
        try clear c43
        try clear c43b0
        try clear c43b1
        try clear hcz17_0
        try clear hcz17_1
        try clear hcz20_0
        try clear hcz20_1
        try clear hcz23_0
        try clear hcz23_1
        try clear hcz26_0
        try clear hcz26_1
        try clear hcz30_0
        try clear hcz30_1
        try clear hcz34_0
        try clear hcz34_1
        try clear hcz42_0
        try clear hcz42_1
        try clear hcz42_2
        try clear hcz8_0
        try clear hcz8_1
        try clear hfz17_0
        try clear hfz17_1
        try clear hfz20_0
        try clear hfz20_1
        try clear hfz23_0
        try clear hfz23_1
        try clear hfz26_0
        try clear hfz26_1
        try clear hfz30_0
        try clear hfz30_1
        try clear hfz34_0
        try clear hfz34_1
        try clear hfz42_0
        try clear hfz42_1
        try clear hfz42_2
        try clear hfz8_0
        try clear hfz8_1
        try clear p2
        obtain ⟨kq, x53_36, rfl, HA, HJ36, HO_241001, BK234, BK235, BK240, BK242, HB⟩ := hcut
        cases kq with
        | zero => exact absurd HA.out (by simp [spec_MakePuzzle.j2])
        | succ kj36 =>
         have H := HA.out
         clear HA
         simp only [spec_MakePuzzle.j2] at H
         by_cases c44 : x53_36 = true
         ·subst c44
          rw [if_pos rfl] at H
          replace H := Option.bind_eq_some_iff.mp H
          obtain ⟨t243, A450, H⟩ := H
          try dsimp only at H
          have A45 := Aside0.mk A450
          clear A450
          by_cases c46 : a0_0 = 0
          ·rw [if_pos c46] at H
           exact absurd H (by simp)
          ·rw [if_neg c46] at H
           have c46b0 : (a0_0 == 0) = false := beq_eq_false_iff_ne.mpr c46
           have c46b1 : (a0_0 != 0) = true := bne_iff_ne.mpr c46
           replace H := Option.bind_eq_some_iff.mp H
           obtain ⟨t244, A470, H⟩ := H
           try dsimp only at H
           have A47 := Aside0.mk A470
           clear A470
           by_cases c48 : (wrap64 (a0_0 - 1)) = 0
           ·rw [if_pos c48] at H
            exact absurd H (by simp)
           ·rw [if_neg c48] at H
            have c48b0 : ((wrap64 (a0_0 - 1)) == 0) = false := beq_eq_false_iff_ne.mpr c48
            have c48b1 : ((wrap64 (a0_0 - 1)) != 0) = true := bne_iff_ne.mpr c48
            replace H := Option.bind_eq_some_iff.mp H
            obtain ⟨t245, A490, H⟩ := H
            try dsimp only at H
            have A49 := Aside0.mk A490
            clear A490
            replace H := Option.bind_eq_some_iff.mp H
            obtain ⟨t246, A500, H⟩ := H
            try dsimp only at H
            have A50 := Aside0.mk A500
            clear A500
            replace H := Option.bind_eq_some_iff.mp H
            obtain ⟨t247, A510, H⟩ := H
            try dsimp only at H
            have A51 := Aside0.mk A510
            clear A510
            obtain ⟨ji52, hji52⟩ : ∃ j_ : Int, (Int.tmod t243 a0_0) = j_ := ⟨_, rfl⟩
            replace H : (if 0 ≤ (ji52) then (if (ji52) < (t247.length : Int) then (if 0 ≤ (Int.tmod (wrap64 ((wrap64 ((Int.tmod t244 (wrap64 (a0_0 - 1))) + (ji52))) + 1)) a0_0) then (if (Int.tmod (wrap64 ((wrap64 ((Int.tmod t244 (wrap64 (a0_0 - 1))) + (ji52))) + 1)) a0_0) < ((rd_L4 t247 (ji52)).length : Int) then (if rdOf false (rd_L4 t247 (ji52)) (Int.tmod (wrap64 ((wrap64 ((Int.tmod t244 (wrap64 (a0_0 - 1))) + (ji52))) + 1)) a0_0) = true then (if x241001_2.length < 5864062014805 then (spec_MakePuzzle.l0 kj36 (wrap64 (x1_2 - 1)) a0_0 t244 a0_0 l0_1 a0_0 (x241001_2 ++ [(⟨0, t245, t246⟩ : S70)])) else (none)) else (if x241001_2.length < 5864062014805 then (spec_MakePuzzle.l0 kj36 (wrap64 (x1_2 - 1)) a0_0 t244 a0_0 l0_1 a0_0 (x241001_2 ++ [(⟨1, t245, t246⟩ : S70)])) else (none))) else (none)) else (none)) else (none)) else (none)) = some (r1, r2, r3) := by first | (rw [hji52] at H; exact H) | (simp only [hji52] at H ⊢; exact H)
            (try rw [hji52] at A45)
            (try rw [hji52] at A47)
            (try rw [hji52] at A49)
            (try rw [hji52] at A50)
            (try rw [hji52] at A51)
            by_cases c53 : 0 ≤ (ji52)
            ·rw [if_pos c53] at H
             have c53b0 : decide (0 ≤ (ji52)) = true := decide_eq_true c53
             clear c53
             by_cases c54 : (ji52) < (t247.length : Int)
             ·rw [if_pos c54] at H
              have c54b0 : decide ((ji52) < (t247.length : Int)) = true := decide_eq_true c54
              clear c54
              obtain ⟨ji55, hji55⟩ : ∃ j_ : Int, (Int.tmod (wrap64 ((wrap64 ((Int.tmod t244 (wrap64 (a0_0 - 1))) + (ji52))) + 1)) a0_0) = j_ := ⟨_, rfl⟩
              replace H : (if 0 ≤ (ji55) then (if (ji55) < ((rd_L4 t247 (ji52)).length : Int) then (if rdOf false (rd_L4 t247 (ji52)) (ji55) = true then (if x241001_2.length < 5864062014805 then (spec_MakePuzzle.l0 kj36 (wrap64 (x1_2 - 1)) a0_0 t244 a0_0 l0_1 a0_0 (x241001_2 ++ [(⟨0, t245, t246⟩ : S70)])) else (none)) else (if x241001_2.length < 5864062014805 then (spec_MakePuzzle.l0 kj36 (wrap64 (x1_2 - 1)) a0_0 t244 a0_0 l0_1 a0_0 (x241001_2 ++ [(⟨1, t245, t246⟩ : S70)])) else (none))) else (none)) else (none)) = some (r1, r2, r3) := by first | (rw [hji55] at H; exact H) | (simp only [hji55] at H ⊢; exact H)
              (try rw [hji55] at A45)
              (try rw [hji55] at A47)
              (try rw [hji55] at A49)
              (try rw [hji55] at A50)
              (try rw [hji55] at A51)
              by_cases c56 : 0 ≤ (ji55)
              ·rw [if_pos c56] at H
               have c56b0 : decide (0 ≤ (ji55)) = true := decide_eq_true c56
               clear c56
               by_cases c57 : (ji55) < ((rd_L4 t247 (ji52)).length : Int)
               ·rw [if_pos c57] at H
                have c57b0 : decide ((ji55) < ((rd_L4 t247 (ji52)).length : Int)) = true := decide_eq_true c57
                clear c57
                obtain ⟨bq58, hbq58⟩ : ∃ b_ : Bool, b_ = (rdOf false (rd_L4 t247 (ji52)) (ji55)) := ⟨_, rfl⟩
                replace H : (if bq58 = true then (if x241001_2.length < 5864062014805 then (spec_MakePuzzle.l0 kj36 (wrap64 (x1_2 - 1)) a0_0 t244 a0_0 l0_1 a0_0 (x241001_2 ++ [(⟨0, t245, t246⟩ : S70)])) else (none)) else (if x241001_2.length < 5864062014805 then (spec_MakePuzzle.l0 kj36 (wrap64 (x1_2 - 1)) a0_0 t244 a0_0 l0_1 a0_0 (x241001_2 ++ [(⟨1, t245, t246⟩ : S70)])) else (none))) = some (r1, r2, r3) := by rw [← hbq58] at H; exact H
                have Nbq58 := Aside0.mk hbq58
                clear hbq58
                by_cases c59 : bq58 = true
                ·subst c59
                 rw [if_pos rfl] at H
                 by_cases c60 : x241001_2.length < 5864062014805
                 ·rw [if_pos c60] at H
                  have LMc60 := Aside0.mk c60
                  clear c60
                  obtain ⟨y252, hy252⟩ : ∃ y_ : List (S70), y_ = (x241001_2 ++ [(⟨0, t245, t246⟩ : S70)]) := ⟨_, rfl⟩
                  replace H : (spec_MakePuzzle.l0 kj36 (wrap64 (x1_2 - 1)) a0_0 t244 a0_0 l0_1 a0_0 y252) = some (r1, r2, r3) := by first | (rw [hy252]; with_reducible exact H) | (have H2_ := (Option.bind_some _ _).symm.trans H; rw [hy252]; with_reducible exact H2_) | (have H2_ := (Option.bind_some _ _).symm.trans H; with_reducible exact H2_) | with_reducible exact H | (rw [hy252]; exact H) | exact H
                  have Ny252 := Aside0.mk hy252
                  clear hy252
                  have H' := Aside0.mk H
                  clear H
                  go_wp2_with (first | ((with_reducible refine gate_callee (f := 51) rfl ?_); refine goC (N := some 57) Tryd.func51 #[.int .i64 t241] rfl ?_; (with_reducible refine (spec_pzNext.calls t241 t243 _ A45.out).mono ?_); rintro e w' ⟨rfl, ⟨nd, rfl⟩⟩; refine ⟨_, rfl, ?_⟩; (try (rw [drewN_self wc]; generalize hq_ : World.drewN wc _ = wc; have n0_ : Aside0 (Kd.R k70 70 wc w.heap.size (fun k_ => k_ ≠ gb242) u241001 x241001_2) := ⟨by rw [← hq_]; exact (rU HO_241001)⟩; have n1_ : Aside0 (wc.heap[gb234]? = some (.cells #[.int .i64 a0_0, .slice A0_1 l0_1.length c0_1] 33 (0, 0))) := ⟨by rw [← hq_]; exact bK⟩; have n2_ : Aside0 (wc.heap[gb235]? = some (.cells #[.int .i64 0, .slice none 0 0] 28 (0, 0))) := ⟨by rw [← hq_]; exact bK⟩; have n3_ : Aside0 (wc.heap[gb240]? = some (.cells #[.int .i64 a0_0, u241001] 28 (0, 0))) := ⟨by rw [← hq_]; exact bK⟩; have n4_ : Aside0 (wc.heap[gb242]? = some (.cells #[.int .i64 (Int.tmod t241 6), .int .i64 0, .int .i64 0] 70 (0, 0))) := ⟨by rw [← hq_]; exact bK⟩; have n5_ : Aside0 (Below w.heap.size w wc) := ⟨by rw [← hq_]; exact hB⟩; clear HO_241001 BK234 BK235 BK240 BK242 HB hq_; have HO_241001 := n0_; have BK234 := n1_; have BK235 := n2_; have BK240 := n3_; have BK242 := n4_; have HB := n5_; clear n0_ n1_ n2_ n3_ n4_ n5_))) | ((with_reducible refine gate_callee (f := 51) rfl ?_); refine goC (N := some 62) Tryd.func51 #[.int .i64 t243] rfl ?_; (with_reducible refine (spec_pzNext.calls t243 t244 _ A47.out).mono ?_); rintro e w' ⟨rfl, ⟨nd, rfl⟩⟩; refine ⟨_, rfl, ?_⟩; (try (rw [drewN_self wc]; generalize hq_ : World.drewN wc _ = wc; have n0_ : Aside0 (Kd.R k70 70 wc w.heap.size (fun k_ => k_ ≠ gb242) u241001 x241001_2) := ⟨by rw [← hq_]; exact (rU HO_241001)⟩; have n1_ : Aside0 (wc.heap[gb234]? = some (.cells #[.int .i64 a0_0, .slice A0_1 l0_1.length c0_1] 33 (0, 0))) := ⟨by rw [← hq_]; exact bK⟩; have n2_ : Aside0 (wc.heap[gb235]? = some (.cells #[.int .i64 0, .slice none 0 0] 28 (0, 0))) := ⟨by rw [← hq_]; exact bK⟩; have n3_ : Aside0 (wc.heap[gb240]? = some (.cells #[.int .i64 a0_0, u241001] 28 (0, 0))) := ⟨by rw [← hq_]; exact bK⟩; have n4_ : Aside0 (wc.heap[gb242]? = some (.cells #[.int .i64 (Int.tmod t241 6), .int .i64 0, .int .i64 0] 70 (0, 0))) := ⟨by rw [← hq_]; exact bK⟩; have n5_ : Aside0 (Below w.heap.size w wc) := ⟨by rw [← hq_]; exact hB⟩; clear HO_241001 BK234 BK235 BK240 BK242 HB hq_; have HO_241001 := n0_; have BK234 := n1_; have BK235 := n2_; have BK240 := n3_; have BK242 := n4_; have HB := n5_; clear n0_ n1_ n2_ n3_ n4_ n5_))) | ((with_reducible refine gate_callee (f := 52) rfl ?_); refine goesL_ (some 74) rfl rfl Tryd.func52 (by kernel_rfl) rfl #[.int .i64 ji52, .int .i64 ji55] rfl (by (try simp only [List.map_toArray, List.map_cons, List.map_nil]); first | done | (simp only [hji52, hji55]; rfl) | rfl | (simp only [List.length_drop, List.length_take]; rfl)) ?_; (with_reducible refine (spec_l1Least.calls ji52 ji55 t245 _ A49.out).mono ?_); rintro e w' ⟨rfl, ⟨nd, rfl⟩⟩; refine ⟨_, rfl, ?_⟩; (try (rw [drewN_self wc]; generalize hq_ : World.drewN wc _ = wc; have n0_ : Aside0 (Kd.R k70 70 wc w.heap.size (fun k_ => k_ ≠ gb242) u241001 x241001_2) := ⟨by rw [← hq_]; exact (rU HO_241001)⟩; have n1_ : Aside0 (wc.heap[gb234]? = some (.cells #[.int .i64 a0_0, .slice A0_1 l0_1.length c0_1] 33 (0, 0))) := ⟨by rw [← hq_]; exact bK⟩; have n2_ : Aside0 (wc.heap[gb235]? = some (.cells #[.int .i64 0, .slice none 0 0] 28 (0, 0))) := ⟨by rw [← hq_]; exact bK⟩; have n3_ : Aside0 (wc.heap[gb240]? = some (.cells #[.int .i64 a0_0, u241001] 28 (0, 0))) := ⟨by rw [← hq_]; exact bK⟩; have n4_ : Aside0 (wc.heap[gb242]? = some (.cells #[.int .i64 (Int.tmod t241 6), .int .i64 0, .int .i64 0] 70 (0, 0))) := ⟨by rw [← hq_]; exact bK⟩; have n5_ : Aside0 (Below w.heap.size w wc) := ⟨by rw [← hq_]; exact hB⟩; clear HO_241001 BK234 BK235 BK240 BK242 HB hq_; have HO_241001 := n0_; have BK234 := n1_; have BK235 := n2_; have BK240 := n3_; have BK242 := n4_; have HB := n5_; clear n0_ n1_ n2_ n3_ n4_ n5_)); have hnb61 := NB242_234.out; have hnc61 := NB234_242.out; have hnb62 := NB242_235.out; have hnc62 := NB235_242.out; have hnb63 := NB242_240.out; have hnc63 := NB240_242.out; have hcz64_0 := cz BK242 0; have hcz64_1 := cz BK242 1; have hcz64_2 := cz BK242 2; have hfz64_0 := fz BK242 0; have hfz64_1 := fz BK242 1; have hfz64_2 := fz BK242 2) | ((with_reducible refine gate_callee (f := 53) rfl ?_); refine goesL_ (some 78) rfl rfl Tryd.func53 (by kernel_rfl) rfl #[.int .i64 ji52, .int .i64 ji55] rfl (by (try simp only [List.map_toArray, List.map_cons, List.map_nil]); first | done | (simp only [hji52, hji55]; rfl) | rfl | (simp only [List.length_drop, List.length_take]; rfl)) ?_; (with_reducible refine (spec_l1Most.calls ji52 ji55 t246 _ A50.out).mono ?_); rintro e w' ⟨rfl, ⟨nd, rfl⟩⟩; refine ⟨_, rfl, ?_⟩; have hnb65 := NB234_235.out; have hnc65 := NB235_234.out; have hnb66 := NB234_240.out; have hnc66 := NB240_234.out; have hcz67_0 := cz BK234 0; have hcz67_1 := cz BK234 1; have hfz67_0 := fz BK234 0; have hfz67_1 := fz BK234 1) | ((with_reducible refine gate_callee (f := 54) rfl ?_); refine goC (N := some 82) Tryd.func54 #[.agg #[.int .i64 a0_0, .slice A0_1 l0_1.length c0_1]] rfl ?_; (with_reducible refine (spec_paTable.calls kj36 a0_0 _ _ l0_1 t247 _ ?side1 ?side2 A51.out).mono ?_); (case side1 => exact Kd.C_below HR0_1.out hB); (case side2 => exact HC0_1.out); rintro e w68 ⟨v248, rfl, ho0, hb⟩; refine ⟨_, rfl, ?_⟩; have HO249 := Aside0.mk (Kd.S_lower ho0 (below_size hB)); replace HO_241001 := Aside0.mk (Kd.R_below (by (with_reducible repeat (first | apply Kd.R_alloc | apply Kd.R_drewN | apply Kd.R_drew)); exact (Kd.R_mono (Kd.R_far (p := ⟨gb242, 0, none⟩) (Kd.R_far (p := ⟨gb242, 2, none⟩) (Kd.R_far (p := ⟨gb242, 1, none⟩) (Kd.R_mono HO_241001.out (fun k_ hk => (⟨hk, hk⟩ : _ ∧ k_ ≠ gb242))) (fun _ hk => hk.2) (.int .i64 t245)) (fun _ hk => hk.2) (.int .i64 t246)) (fun _ hk => hk.2) (.int .i64 1)) (fun _ h_ => h_.1))) hb); replace BK234 := Aside0.mk (blk_below (g := gb234) (o := .cells #[.int .i64 a0_0, .slice A0_1 l0_1.length c0_1] 33 (0, 0)) (by (with_reducible repeat (first | refine blk_drewN ?_ _ | refine blk_drew ?_ | refine blk_alloc ?_ _)); refine blk_far ?_ NB234_242.out _; (with_reducible repeat (first | refine blk_drewN ?_ _ | refine blk_drew ?_ | refine blk_alloc ?_ _)); refine blk_far ?_ NB234_242.out _; (with_reducible repeat (first | refine blk_drewN ?_ _ | refine blk_drew ?_ | refine blk_alloc ?_ _)); refine blk_far ?_ NB234_242.out _; (with_reducible repeat (first | refine blk_drewN ?_ _ | refine blk_drew ?_ | refine blk_alloc ?_ _)); exact BK234.out) hb); replace BK235 := Aside0.mk (blk_below (g := gb235) (o := .cells #[.int .i64 0, .slice none 0 0] 28 (0, 0)) (by (with_reducible repeat (first | refine blk_drewN ?_ _ | refine blk_drew ?_ | refine blk_alloc ?_ _)); refine blk_far ?_ NB235_242.out _; (with_reducible repeat (first | refine blk_drewN ?_ _ | refine blk_drew ?_ | refine blk_alloc ?_ _)); refine blk_far ?_ NB235_242.out _; (with_reducible repeat (first | refine blk_drewN ?_ _ | refine blk_drew ?_ | refine blk_alloc ?_ _)); refine blk_far ?_ NB235_242.out _; (with_reducible repeat (first | refine blk_drewN ?_ _ | refine blk_drew ?_ | refine blk_alloc ?_ _)); exact BK235.out) hb); replace BK240 := Aside0.mk (blk_below (g := gb240) (o := .cells #[.int .i64 a0_0, u241001] 28 (0, 0)) (by (with_reducible repeat (first | refine blk_drewN ?_ _ | refine blk_drew ?_ | refine blk_alloc ?_ _)); refine blk_far ?_ NB240_242.out _; (with_reducible repeat (first | refine blk_drewN ?_ _ | refine blk_drew ?_ | refine blk_alloc ?_ _)); refine blk_far ?_ NB240_242.out _; (with_reducible repeat (first | refine blk_drewN ?_ _ | refine blk_drew ?_ | refine blk_alloc ?_ _)); refine blk_far ?_ NB240_242.out _; (with_reducible repeat (first | refine blk_drewN ?_ _ | refine blk_drew ?_ | refine blk_alloc ?_ _)); exact BK240.out) hb); replace BK242 := Aside0.mk (blk_below (g := gb242) (o := .cells #[.int .i64 1, .int .i64 t245, .int .i64 t246] 70 (0, 0)) (by (with_reducible repeat (first | refine blk_drewN ?_ _ | refine blk_drew ?_ | refine blk_alloc ?_ _)); refine blk_put (cs := #[.int .i64 (Int.tmod t241 6), .int .i64 t245, .int .i64 t246]) ?_ 0 _ rfl; (with_reducible repeat (first | refine blk_drewN ?_ _ | refine blk_drew ?_ | refine blk_alloc ?_ _)); refine blk_put (cs := #[.int .i64 (Int.tmod t241 6), .int .i64 t245, .int .i64 0]) ?_ 2 _ rfl; (with_reducible repeat (first | refine blk_drewN ?_ _ | refine blk_drew ?_ | refine blk_alloc ?_ _)); refine blk_put (cs := #[.int .i64 (Int.tmod t241 6), .int .i64 0, .int .i64 0]) ?_ 1 _ rfl; (with_reducible repeat (first | refine blk_drewN ?_ _ | refine blk_drew ?_ | refine blk_alloc ?_ _)); exact BK242.out) hb); replace HB := hS HB hb; (try clear hb); (try clear hb2); (try clear hk); (try clear hi); (try clear ho0); obtain ⟨Ao69, co69, eo69⟩ := Kd.S_slice HO249.out; subst eo69; have p250 : 0 ≤ ((ji52) : Int) := of_decide_eq_true (by first | (with_reducible assumption) | assumption); have q250 : (ji52) < (t247.length : Int) := of_decide_eq_true (by first | (with_reducible assumption) | assumption); obtain ⟨ad250, A250_0, c250_0, e250, hx250_0, hl250_0, hi250_0⟩ := at_L4 (Kd.S_reads' HO249.out).2.2 (ji52) p250 q250; cases e250; obtain ⟨ce250, hce250, hMe250, hcc250⟩ := Kd.S_get HO249.out [] (ji52) p250 (by first | exact q250 | exact of_decide_eq_true (by first | (with_reducible assumption) | assumption) | (have e_ := (Kd.S_reads' HO249.out).1; omega)); obtain ⟨ve250_0, rfl, ge250_0⟩ := hMe250; have hv250_0 := hcc250 0 _ rfl; rw [Nat.add_zero, show ((Kd.slice 4 Kd.bool)).sz = 1 from rfl, Nat.mul_one] at hv250_0; replace hv250_0 := Option.some.inj (hv250_0.symm.trans hx250_0); rw [hv250_0] at ge250_0; have HL250_0 := Aside0.mk (show Kd.R Kd.bool 4 _ _ _ _ (rd_L4 t247 (ji52)) from ge250_0); clear hv250_0 ge250_0; clear hcc250 hce250; have HR250_0 := Aside0.mk hi250_0; have HC250_0 := Aside0.mk hl250_0; clear hi250_0 hl250_0; replace p250 := eq_true p250; replace q250 := eq_true q250; have p251 : 0 ≤ ((ji55) : Int) := of_decide_eq_true (by first | (with_reducible assumption) | assumption); have q251 : (ji55) < ((rd_L4 t247 (ji52)).length : Int) := of_decide_eq_true (by first | (with_reducible assumption) | assumption); obtain ⟨ad251, e251, hx251_0⟩ := Kd.at_bool (by repeat (first | (with_reducible exact HR250_0.out) | (with_reducible refine Kd.C_alloc ?_ _) | (with_reducible refine Kd.C_drewN ?_ _) | (with_reducible refine Kd.C_drew ?_) | exact HR250_0.out)) (ji55) p251 q251; (try rw [← Nbq58.out] at hx251_0); cases e251; replace p251 := eq_true p251; replace q251 := eq_true q251; have hcz70_0 := cz BK242 0; have hcz70_1 := cz BK242 1; have hcz70_2 := cz BK242 2; have hfz70_0 := fz BK242 0; have hfz70_1 := fz BK242 1; have hfz70_2 := fz BK242 2; have hnb71 := NB240_235.out; have hnc71 := NB235_240.out; have hcz72_0 := cz BK240 0; have hcz72_1 := cz BK240 1; have hfz72_0 := fz BK240 0; have hfz72_1 := fz BK240 1) | ((with_reducible refine gate_builtin (b := .append) (xs := #[.tmp 117, .tmp 119]) rfl ?_); at_builtin; refine Kd.R_append k70 (w0 := w) w.heap.size rfl (.tmp 117) (.tmp 119) 26 70 (.agg #[(.int .i64 0), (.int .i64 0), (.int .i64 0)]) 24 rfl Tryd.underlying26 info70 rfl (by decide) (by omega) u241001 x241001_2 (⟨0, t245, t246⟩ : S70) [.int .i64 0, .int .i64 t245, .int .i64 t246] (fun k_ => k_ ≠ gb242) (fun _ => False) rfl (by first | (go_simp; done) | (go_simp; rfl)) ?aP (fun _ hk => hk.elim) ?aF ?aO ?aB ?aS ?aL ?_; (case aP => exact k70_mkM _ _ _ (⟨0, t245, t246⟩ : S70)); (case aB => exact hB); (case aF => exact (fun k_ hk => Kd.freshB (g := gb242) (o := .cells #[.int .i64 0, .int .i64 t245, .int .i64 t246] 70 (0, 0)) (by (with_reducible repeat (first | refine blk_drewN ?_ _ | refine blk_drew ?_ | refine blk_alloc ?_ _)); refine blk_put (cs := #[.int .i64 1, .int .i64 t245, .int .i64 t246]) ?_ 0 _ rfl; (with_reducible repeat (first | refine blk_drewN ?_ _ | refine blk_drew ?_ | refine blk_alloc ?_ _)); exact BK242.out) k_ hk)); (case aO => exact (by (with_reducible repeat (first | apply Kd.R_alloc | apply Kd.R_drewN | apply Kd.R_drew)); exact Kd.R_mono (Kd.R_far (p := ⟨gb242, 0, none⟩) (Kd.R_mono HO_241001.out (fun k_ hk => (⟨hk, hk⟩ : _ ∧ k_ ≠ gb242))) (fun _ hk => hk.2) (.int .i64 0)) (fun _ hk => hk.1))); (case aS => exact (below_size hB)); (case aL => have := LMc60.out; omega); intro v253 w73 ho hb hg hat; rw [← Ny252.out] at ho; have HO254 := Aside0.mk (ho); replace BK234 := Aside0.mk (blk_grown (g := gb234) (o := .cells #[.int .i64 a0_0, .slice A0_1 l0_1.length c0_1] 33 (0, 0)) (by (with_reducible repeat (first | refine blk_drewN ?_ _ | refine blk_drew ?_ | refine blk_alloc ?_ _)); refine blk_far ?_ NB234_242.out _; (with_reducible repeat (first | refine blk_drewN ?_ _ | refine blk_drew ?_ | refine blk_alloc ?_ _)); exact BK234.out) hg (Kd.R_ne HO_241001.out BK234.out (by decide))); replace BK235 := Aside0.mk (blk_grown (g := gb235) (o := .cells #[.int .i64 0, .slice none 0 0] 28 (0, 0)) (by (with_reducible repeat (first | refine blk_drewN ?_ _ | refine blk_drew ?_ | refine blk_alloc ?_ _)); refine blk_far ?_ NB235_242.out _; (with_reducible repeat (first | refine blk_drewN ?_ _ | refine blk_drew ?_ | refine blk_alloc ?_ _)); exact BK235.out) hg (Kd.R_ne HO_241001.out BK235.out (by decide))); replace BK240 := Aside0.mk (blk_grown (g := gb240) (o := .cells #[.int .i64 a0_0, u241001] 28 (0, 0)) (by (with_reducible repeat (first | refine blk_drewN ?_ _ | refine blk_drew ?_ | refine blk_alloc ?_ _)); refine blk_far ?_ NB240_242.out _; (with_reducible repeat (first | refine blk_drewN ?_ _ | refine blk_drew ?_ | refine blk_alloc ?_ _)); exact BK240.out) hg (Kd.R_ne HO_241001.out BK240.out (by decide))); replace HO249 := Aside0.mk (Kd.S_over' (by (with_reducible repeat (first | apply Kd.S_alloc | apply Kd.S_drewN | apply Kd.S_drew)); exact (Kd.S_mono (Kd.S_far (p := ⟨gb242, 0, none⟩) (Kd.S_types HO249.out BK242.out (by decide)) (fun _ hk => hk.2) (.int .i64 0)) (fun _ h_ => h_.1))) (Kd.R_typed (by (with_reducible repeat (first | apply Kd.R_alloc | apply Kd.R_drewN | apply Kd.R_drew)); exact (Kd.R_mono (Kd.R_far (p := ⟨gb242, 0, none⟩) (Kd.R_mono HO_241001.out (fun k_ hk => (⟨hk, hk⟩ : _ ∧ k_ ≠ gb242))) (fun _ hk => hk.2) (.int .i64 0)) (fun _ h_ => h_.1)))) (by decide) hg); replace HL250_0 := Aside0.mk (Kd.R_over' (by (with_reducible repeat (first | apply Kd.R_alloc | apply Kd.R_drewN | apply Kd.R_drew)); exact (Kd.R_mono (Kd.R_far (p := ⟨gb242, 0, none⟩) (Kd.R_types HL250_0.out BK242.out (by decide)) (fun _ hk => hk.2) (.int .i64 0)) (fun _ h_ => h_.1))) (Kd.R_typed (by (with_reducible repeat (first | apply Kd.R_alloc | apply Kd.R_drewN | apply Kd.R_drew)); exact (Kd.R_mono (Kd.R_far (p := ⟨gb242, 0, none⟩) (Kd.R_mono HO_241001.out (fun k_ hk => (⟨hk, hk⟩ : _ ∧ k_ ≠ gb242))) (fun _ hk => hk.2) (.int .i64 0)) (fun _ h_ => h_.1)))) (by decide) hg); replace BK242 := Aside0.mk (blk_grown (g := gb242) (o := .cells #[.int .i64 0, .int .i64 t245, .int .i64 t246] 70 (0, 0)) (by (with_reducible repeat (first | refine blk_drewN ?_ _ | refine blk_drew ?_ | refine blk_alloc ?_ _)); refine blk_put (cs := #[.int .i64 1, .int .i64 t245, .int .i64 t246]) ?_ 0 _ rfl; (with_reducible repeat (first | refine blk_drewN ?_ _ | refine blk_drew ?_ | refine blk_alloc ?_ _)); exact BK242.out) hg (Kd.R_away HO_241001.out (fun _ hk => hk))); replace HB := Aside0.mk (hb); clear HO_241001; clear ho hb hg hat; obtain ⟨Ao74, co74, eo74⟩ := Kd.R_slice HO254.out; subst eo74; have hcz75_0 := cz BK240 0; have hcz75_1 := cz BK240 1; have hfz75_0 := fz BK240 0; have hfz75_1 := fz BK240 1))
                  go_roundg kj36
                  case measure => have := HJ3.out; have := HK2.out; have := HJ36.out; omega
                  case rel => exact ⟨(wrap64 (x1_2 - 1)), (t244), (y252), (.slice Ao74 y252.length co74), (by first | rfl | (simp; done) | (simp [*]; done)), (by first | rfl | (simp; done) | (simp [*]; done)), H', ⟨by have := HJ3.out; have := HK2.out; have := HJ36.out; omega⟩, ⟨by (with_reducible repeat (first | apply Kd.R_alloc | apply Kd.R_drewN | apply Kd.R_drew)); exact Kd.R_mono (Kd.R_far (p := ⟨gb240, 1, none⟩) (Kd.R_types HO254.out BK240.out (by decide)) (fun _ hk => hk.2) (.slice Ao74 y252.length co74)) (fun _ hk => trivial)⟩, ⟨by (with_reducible repeat (first | refine blk_drewN ?_ _ | refine blk_drew ?_ | refine blk_alloc ?_ _)); refine blk_far ?_ NB234_240.out _; (with_reducible repeat (first | refine blk_drewN ?_ _ | refine blk_drew ?_ | refine blk_alloc ?_ _)); exact BK234.out⟩, ⟨by (with_reducible repeat (first | refine blk_drewN ?_ _ | refine blk_drew ?_ | refine blk_alloc ?_ _)); refine blk_far ?_ NB235_240.out _; (with_reducible repeat (first | refine blk_drewN ?_ _ | refine blk_drew ?_ | refine blk_alloc ?_ _)); exact BK235.out⟩, ⟨by (with_reducible repeat (first | refine blk_drewN ?_ _ | refine blk_drew ?_ | refine blk_alloc ?_ _)); refine blk_put (cs := #[.int .i64 a0_0, u241001]) ?_ 1 _ rfl; (with_reducible repeat (first | refine blk_drewN ?_ _ | refine blk_drew ?_ | refine blk_alloc ?_ _)); exact BK240.out⟩, ⟨hB⟩⟩
                 ·rw [if_neg c60] at H
                  exact absurd H (by simp)
                ·replace c59 := Bool.eq_false_iff.mpr c59
                 subst c59
                 rw [if_neg (show ¬ (false = true) by decide)] at H
                 by_cases c76 : x241001_2.length < 5864062014805
                 ·rw [if_pos c76] at H
                  have LMc76 := Aside0.mk c76
                  clear c76
                  obtain ⟨y255, hy255⟩ : ∃ y_ : List (S70), y_ = (x241001_2 ++ [(⟨1, t245, t246⟩ : S70)]) := ⟨_, rfl⟩
                  replace H : (spec_MakePuzzle.l0 kj36 (wrap64 (x1_2 - 1)) a0_0 t244 a0_0 l0_1 a0_0 y255) = some (r1, r2, r3) := by first | (rw [hy255]; with_reducible exact H) | (have H2_ := (Option.bind_some _ _).symm.trans H; rw [hy255]; with_reducible exact H2_) | (have H2_ := (Option.bind_some _ _).symm.trans H; with_reducible exact H2_) | with_reducible exact H | (rw [hy255]; exact H) | exact H
                  have Ny255 := Aside0.mk hy255
                  clear hy255
                  have H' := Aside0.mk H
                  clear H
                  go_wp2_with (first | ((with_reducible refine gate_callee (f := 51) rfl ?_); refine goC (N := some 57) Tryd.func51 #[.int .i64 t241] rfl ?_; (with_reducible refine (spec_pzNext.calls t241 t243 _ A45.out).mono ?_); rintro e w' ⟨rfl, ⟨nd, rfl⟩⟩; refine ⟨_, rfl, ?_⟩; (try (rw [drewN_self wc]; generalize hq_ : World.drewN wc _ = wc; have n0_ : Aside0 (Kd.R k70 70 wc w.heap.size (fun k_ => k_ ≠ gb242) u241001 x241001_2) := ⟨by rw [← hq_]; exact (rU HO_241001)⟩; have n1_ : Aside0 (wc.heap[gb234]? = some (.cells #[.int .i64 a0_0, .slice A0_1 l0_1.length c0_1] 33 (0, 0))) := ⟨by rw [← hq_]; exact bK⟩; have n2_ : Aside0 (wc.heap[gb235]? = some (.cells #[.int .i64 0, .slice none 0 0] 28 (0, 0))) := ⟨by rw [← hq_]; exact bK⟩; have n3_ : Aside0 (wc.heap[gb240]? = some (.cells #[.int .i64 a0_0, u241001] 28 (0, 0))) := ⟨by rw [← hq_]; exact bK⟩; have n4_ : Aside0 (wc.heap[gb242]? = some (.cells #[.int .i64 (Int.tmod t241 6), .int .i64 0, .int .i64 0] 70 (0, 0))) := ⟨by rw [← hq_]; exact bK⟩; have n5_ : Aside0 (Below w.heap.size w wc) := ⟨by rw [← hq_]; exact hB⟩; clear HO_241001 BK234 BK235 BK240 BK242 HB hq_; have HO_241001 := n0_; have BK234 := n1_; have BK235 := n2_; have BK240 := n3_; have BK242 := n4_; have HB := n5_; clear n0_ n1_ n2_ n3_ n4_ n5_))) | ((with_reducible refine gate_callee (f := 51) rfl ?_); refine goC (N := some 62) Tryd.func51 #[.int .i64 t243] rfl ?_; (with_reducible refine (spec_pzNext.calls t243 t244 _ A47.out).mono ?_); rintro e w' ⟨rfl, ⟨nd, rfl⟩⟩; refine ⟨_, rfl, ?_⟩; (try (rw [drewN_self wc]; generalize hq_ : World.drewN wc _ = wc; have n0_ : Aside0 (Kd.R k70 70 wc w.heap.size (fun k_ => k_ ≠ gb242) u241001 x241001_2) := ⟨by rw [← hq_]; exact (rU HO_241001)⟩; have n1_ : Aside0 (wc.heap[gb234]? = some (.cells #[.int .i64 a0_0, .slice A0_1 l0_1.length c0_1] 33 (0, 0))) := ⟨by rw [← hq_]; exact bK⟩; have n2_ : Aside0 (wc.heap[gb235]? = some (.cells #[.int .i64 0, .slice none 0 0] 28 (0, 0))) := ⟨by rw [← hq_]; exact bK⟩; have n3_ : Aside0 (wc.heap[gb240]? = some (.cells #[.int .i64 a0_0, u241001] 28 (0, 0))) := ⟨by rw [← hq_]; exact bK⟩; have n4_ : Aside0 (wc.heap[gb242]? = some (.cells #[.int .i64 (Int.tmod t241 6), .int .i64 0, .int .i64 0] 70 (0, 0))) := ⟨by rw [← hq_]; exact bK⟩; have n5_ : Aside0 (Below w.heap.size w wc) := ⟨by rw [← hq_]; exact hB⟩; clear HO_241001 BK234 BK235 BK240 BK242 HB hq_; have HO_241001 := n0_; have BK234 := n1_; have BK235 := n2_; have BK240 := n3_; have BK242 := n4_; have HB := n5_; clear n0_ n1_ n2_ n3_ n4_ n5_))) | ((with_reducible refine gate_callee (f := 52) rfl ?_); refine goesL_ (some 74) rfl rfl Tryd.func52 (by kernel_rfl) rfl #[.int .i64 ji52, .int .i64 ji55] rfl (by (try simp only [List.map_toArray, List.map_cons, List.map_nil]); first | done | (simp only [hji52, hji55]; rfl) | rfl | (simp only [List.length_drop, List.length_take]; rfl)) ?_; (with_reducible refine (spec_l1Least.calls ji52 ji55 t245 _ A49.out).mono ?_); rintro e w' ⟨rfl, ⟨nd, rfl⟩⟩; refine ⟨_, rfl, ?_⟩; (try (rw [drewN_self wc]; generalize hq_ : World.drewN wc _ = wc; have n0_ : Aside0 (Kd.R k70 70 wc w.heap.size (fun k_ => k_ ≠ gb242) u241001 x241001_2) := ⟨by rw [← hq_]; exact (rU HO_241001)⟩; have n1_ : Aside0 (wc.heap[gb234]? = some (.cells #[.int .i64 a0_0, .slice A0_1 l0_1.length c0_1] 33 (0, 0))) := ⟨by rw [← hq_]; exact bK⟩; have n2_ : Aside0 (wc.heap[gb235]? = some (.cells #[.int .i64 0, .slice none 0 0] 28 (0, 0))) := ⟨by rw [← hq_]; exact bK⟩; have n3_ : Aside0 (wc.heap[gb240]? = some (.cells #[.int .i64 a0_0, u241001] 28 (0, 0))) := ⟨by rw [← hq_]; exact bK⟩; have n4_ : Aside0 (wc.heap[gb242]? = some (.cells #[.int .i64 (Int.tmod t241 6), .int .i64 0, .int .i64 0] 70 (0, 0))) := ⟨by rw [← hq_]; exact bK⟩; have n5_ : Aside0 (Below w.heap.size w wc) := ⟨by rw [← hq_]; exact hB⟩; clear HO_241001 BK234 BK235 BK240 BK242 HB hq_; have HO_241001 := n0_; have BK234 := n1_; have BK235 := n2_; have BK240 := n3_; have BK242 := n4_; have HB := n5_; clear n0_ n1_ n2_ n3_ n4_ n5_)); have hnb77 := NB242_234.out; have hnc77 := NB234_242.out; have hnb78 := NB242_235.out; have hnc78 := NB235_242.out; have hnb79 := NB242_240.out; have hnc79 := NB240_242.out; have hcz80_0 := cz BK242 0; have hcz80_1 := cz BK242 1; have hcz80_2 := cz BK242 2; have hfz80_0 := fz BK242 0; have hfz80_1 := fz BK242 1; have hfz80_2 := fz BK242 2) | ((with_reducible refine gate_callee (f := 53) rfl ?_); refine goesL_ (some 78) rfl rfl Tryd.func53 (by kernel_rfl) rfl #[.int .i64 ji52, .int .i64 ji55] rfl (by (try simp only [List.map_toArray, List.map_cons, List.map_nil]); first | done | (simp only [hji52, hji55]; rfl) | rfl | (simp only [List.length_drop, List.length_take]; rfl)) ?_; (with_reducible refine (spec_l1Most.calls ji52 ji55 t246 _ A50.out).mono ?_); rintro e w' ⟨rfl, ⟨nd, rfl⟩⟩; refine ⟨_, rfl, ?_⟩; have hnb81 := NB234_235.out; have hnc81 := NB235_234.out; have hnb82 := NB234_240.out; have hnc82 := NB240_234.out; have hcz83_0 := cz BK234 0; have hcz83_1 := cz BK234 1; have hfz83_0 := fz BK234 0; have hfz83_1 := fz BK234 1) | ((with_reducible refine gate_callee (f := 54) rfl ?_); refine goC (N := some 82) Tryd.func54 #[.agg #[.int .i64 a0_0, .slice A0_1 l0_1.length c0_1]] rfl ?_; (with_reducible refine (spec_paTable.calls kj36 a0_0 _ _ l0_1 t247 _ ?side1 ?side2 A51.out).mono ?_); (case side1 => exact Kd.C_below HR0_1.out hB); (case side2 => exact HC0_1.out); rintro e w84 ⟨v248, rfl, ho0, hb⟩; refine ⟨_, rfl, ?_⟩; have HO249 := Aside0.mk (Kd.S_lower ho0 (below_size hB)); replace HO_241001 := Aside0.mk (Kd.R_below (by (with_reducible repeat (first | apply Kd.R_alloc | apply Kd.R_drewN | apply Kd.R_drew)); exact (Kd.R_mono (Kd.R_far (p := ⟨gb242, 0, none⟩) (Kd.R_far (p := ⟨gb242, 2, none⟩) (Kd.R_far (p := ⟨gb242, 1, none⟩) (Kd.R_mono HO_241001.out (fun k_ hk => (⟨hk, hk⟩ : _ ∧ k_ ≠ gb242))) (fun _ hk => hk.2) (.int .i64 t245)) (fun _ hk => hk.2) (.int .i64 t246)) (fun _ hk => hk.2) (.int .i64 1)) (fun _ h_ => h_.1))) hb); replace BK234 := Aside0.mk (blk_below (g := gb234) (o := .cells #[.int .i64 a0_0, .slice A0_1 l0_1.length c0_1] 33 (0, 0)) (by (with_reducible repeat (first | refine blk_drewN ?_ _ | refine blk_drew ?_ | refine blk_alloc ?_ _)); refine blk_far ?_ NB234_242.out _; (with_reducible repeat (first | refine blk_drewN ?_ _ | refine blk_drew ?_ | refine blk_alloc ?_ _)); refine blk_far ?_ NB234_242.out _; (with_reducible repeat (first | refine blk_drewN ?_ _ | refine blk_drew ?_ | refine blk_alloc ?_ _)); refine blk_far ?_ NB234_242.out _; (with_reducible repeat (first | refine blk_drewN ?_ _ | refine blk_drew ?_ | refine blk_alloc ?_ _)); exact BK234.out) hb); replace BK235 := Aside0.mk (blk_below (g := gb235) (o := .cells #[.int .i64 0, .slice none 0 0] 28 (0, 0)) (by (with_reducible repeat (first | refine blk_drewN ?_ _ | refine blk_drew ?_ | refine blk_alloc ?_ _)); refine blk_far ?_ NB235_242.out _; (with_reducible repeat (first | refine blk_drewN ?_ _ | refine blk_drew ?_ | refine blk_alloc ?_ _)); refine blk_far ?_ NB235_242.out _; (with_reducible repeat (first | refine blk_drewN ?_ _ | refine blk_drew ?_ | refine blk_alloc ?_ _)); refine blk_far ?_ NB235_242.out _; (with_reducible repeat (first | refine blk_drewN ?_ _ | refine blk_drew ?_ | refine blk_alloc ?_ _)); exact BK235.out) hb); replace BK240 := Aside0.mk (blk_below (g := gb240) (o := .cells #[.int .i64 a0_0, u241001] 28 (0, 0)) (by (with_reducible repeat (first | refine blk_drewN ?_ _ | refine blk_drew ?_ | refine blk_alloc ?_ _)); refine blk_far ?_ NB240_242.out _; (with_reducible repeat (first | refine blk_drewN ?_ _ | refine blk_drew ?_ | refine blk_alloc ?_ _)); refine blk_far ?_ NB240_242.out _; (with_reducible repeat (first | refine blk_drewN ?_ _ | refine blk_drew ?_ | refine blk_alloc ?_ _)); refine blk_far ?_ NB240_242.out _; (with_reducible repeat (first | refine blk_drewN ?_ _ | refine blk_drew ?_ | refine blk_alloc ?_ _)); exact BK240.out) hb); replace BK242 := Aside0.mk (blk_below (g := gb242) (o := .cells #[.int .i64 1, .int .i64 t245, .int .i64 t246] 70 (0, 0)) (by (with_reducible repeat (first | refine blk_drewN ?_ _ | refine blk_drew ?_ | refine blk_alloc ?_ _)); refine blk_put (cs := #[.int .i64 (Int.tmod t241 6), .int .i64 t245, .int .i64 t246]) ?_ 0 _ rfl; (with_reducible repeat (first | refine blk_drewN ?_ _ | refine blk_drew ?_ | refine blk_alloc ?_ _)); refine blk_put (cs := #[.int .i64 (Int.tmod t241 6), .int .i64 t245, .int .i64 0]) ?_ 2 _ rfl; (with_reducible repeat (first | refine blk_drewN ?_ _ | refine blk_drew ?_ | refine blk_alloc ?_ _)); refine blk_put (cs := #[.int .i64 (Int.tmod t241 6), .int .i64 0, .int .i64 0]) ?_ 1 _ rfl; (with_reducible repeat (first | refine blk_drewN ?_ _ | refine blk_drew ?_ | refine blk_alloc ?_ _)); exact BK242.out) hb); replace HB := hS HB hb; (try clear hb); (try clear hb2); (try clear hk); (try clear hi); (try clear ho0); obtain ⟨Ao85, co85, eo85⟩ := Kd.S_slice HO249.out; subst eo85; have p250 : 0 ≤ ((ji52) : Int) := of_decide_eq_true (by first | (with_reducible assumption) | assumption); have q250 : (ji52) < (t247.length : Int) := of_decide_eq_true (by first | (with_reducible assumption) | assumption); obtain ⟨ad250, A250_0, c250_0, e250, hx250_0, hl250_0, hi250_0⟩ := at_L4 (Kd.S_reads' HO249.out).2.2 (ji52) p250 q250; cases e250; obtain ⟨ce250, hce250, hMe250, hcc250⟩ := Kd.S_get HO249.out [] (ji52) p250 (by first | exact q250 | exact of_decide_eq_true (by first | (with_reducible assumption) | assumption) | (have e_ := (Kd.S_reads' HO249.out).1; omega)); obtain ⟨ve250_0, rfl, ge250_0⟩ := hMe250; have hv250_0 := hcc250 0 _ rfl; rw [Nat.add_zero, show ((Kd.slice 4 Kd.bool)).sz = 1 from rfl, Nat.mul_one] at hv250_0; replace hv250_0 := Option.some.inj (hv250_0.symm.trans hx250_0); rw [hv250_0] at ge250_0; have HL250_0 := Aside0.mk (show Kd.R Kd.bool 4 _ _ _ _ (rd_L4 t247 (ji52)) from ge250_0); clear hv250_0 ge250_0; clear hcc250 hce250; have HR250_0 := Aside0.mk hi250_0; have HC250_0 := Aside0.mk hl250_0; clear hi250_0 hl250_0; replace p250 := eq_true p250; replace q250 := eq_true q250; have p251 : 0 ≤ ((ji55) : Int) := of_decide_eq_true (by first | (with_reducible assumption) | assumption); have q251 : (ji55) < ((rd_L4 t247 (ji52)).length : Int) := of_decide_eq_true (by first | (with_reducible assumption) | assumption); obtain ⟨ad251, e251, hx251_0⟩ := Kd.at_bool (by repeat (first | (with_reducible exact HR250_0.out) | (with_reducible refine Kd.C_alloc ?_ _) | (with_reducible refine Kd.C_drewN ?_ _) | (with_reducible refine Kd.C_drew ?_) | exact HR250_0.out)) (ji55) p251 q251; (try rw [← Nbq58.out] at hx251_0); cases e251; replace p251 := eq_true p251; replace q251 := eq_true q251; have hnb86 := NB240_235.out; have hnc86 := NB235_240.out; have hcz87_0 := cz BK240 0; have hcz87_1 := cz BK240 1; have hfz87_0 := fz BK240 0; have hfz87_1 := fz BK240 1; have hcz88_0 := cz BK242 0; have hcz88_1 := cz BK242 1; have hcz88_2 := cz BK242 2; have hfz88_0 := fz BK242 0; have hfz88_1 := fz BK242 1; have hfz88_2 := fz BK242 2) | ((with_reducible refine gate_builtin (b := .append) (xs := #[.tmp 117, .tmp 119]) rfl ?_); at_builtin; refine Kd.R_append k70 (w0 := w) w.heap.size rfl (.tmp 117) (.tmp 119) 26 70 (.agg #[(.int .i64 0), (.int .i64 0), (.int .i64 0)]) 24 rfl Tryd.underlying26 info70 rfl (by decide) (by omega) u241001 x241001_2 (⟨1, t245, t246⟩ : S70) [.int .i64 1, .int .i64 t245, .int .i64 t246] (fun k_ => k_ ≠ gb242) (fun _ => False) rfl rfl ?aP (fun _ hk => hk.elim) ?aF ?aO ?aB ?aS ?aL ?_; (case aP => exact k70_mkM _ _ _ (⟨1, t245, t246⟩ : S70)); (case aB => exact hB); (case aF => exact (fun k_ hk => Kd.freshB (g := gb242) (o := .cells #[.int .i64 1, .int .i64 t245, .int .i64 t246] 70 (0, 0)) bK k_ hk)); (case aO => exact (rU HO_241001)); (case aS => exact (below_size hB)); (case aL => have := LMc76.out; omega); intro v256 w89 ho hb hg hat; rw [← Ny255.out] at ho; have n0_ := Aside0.mk (blk_grown (g := gb234) (o := .cells #[.int .i64 a0_0, .slice A0_1 l0_1.length c0_1] 33 (0, 0)) bK hg (Kd.R_ne HO_241001.out BK234.out (by decide))); have n1_ := Aside0.mk (blk_grown (g := gb235) (o := .cells #[.int .i64 0, .slice none 0 0] 28 (0, 0)) bK hg (Kd.R_ne HO_241001.out BK235.out (by decide))); have n2_ := Aside0.mk (blk_grown (g := gb240) (o := .cells #[.int .i64 a0_0, u241001] 28 (0, 0)) bK hg (Kd.R_ne HO_241001.out BK240.out (by decide))); have n3_ := Aside0.mk (blk_grown (g := gb242) (o := .cells #[.int .i64 1, .int .i64 t245, .int .i64 t246] 70 (0, 0)) bK hg (Kd.R_away HO_241001.out (fun _ hk => hk))); have n4_ := Aside0.mk (Kd.S_over' (sU HO249) (Kd.R_typed (rU HO_241001)) (by decide) hg); have n5_ := Aside0.mk (Kd.R_over' (by (with_reducible repeat (first | apply Kd.R_alloc | apply Kd.R_drewN | apply Kd.R_drew)); exact HL250_0.out) (Kd.R_typed (rU HO_241001)) (by decide) hg); have n6_ := Aside0.mk (hb); have n7_ := Aside0.mk (ho); clear BK234; clear BK235; clear BK240; clear BK242; clear HO249; clear HL250_0; clear HB; clear HO_241001; have BK234 := n0_; have BK235 := n1_; have BK240 := n2_; have BK242 := n3_; have HO249 := n4_; have HL250_0 := n5_; have HB := n6_; have HO257 := n7_; clear n0_ n1_ n2_ n3_ n4_ n5_ n6_ n7_; clear ho hb hg hat; obtain ⟨Ao90, co90, eo90⟩ := Kd.R_slice HO257.out; subst eo90; have hcz91_0 := cz BK240 0; have hcz91_1 := cz BK240 1; have hfz91_0 := fz BK240 0; have hfz91_1 := fz BK240 1))
                  go_roundg kj36
                  case measure => have := HJ3.out; have := HK2.out; have := HJ36.out; omega
                  case rel => exact ⟨(wrap64 (x1_2 - 1)), (t244), (y255), (.slice Ao90 y255.length co90), (by first | rfl | (simp; done) | (simp [*]; done)), (by first | rfl | (simp; done) | (simp [*]; done)), H', ⟨by have := HJ3.out; have := HK2.out; have := HJ36.out; omega⟩, ⟨by (with_reducible repeat (first | apply Kd.R_alloc | apply Kd.R_drewN | apply Kd.R_drew)); exact Kd.R_mono (Kd.R_far (p := ⟨gb240, 1, none⟩) (Kd.R_types HO257.out BK240.out (by decide)) (fun _ hk => hk.2) (.slice Ao90 y255.length co90)) (fun _ hk => trivial)⟩, ⟨by (with_reducible repeat (first | refine blk_drewN ?_ _ | refine blk_drew ?_ | refine blk_alloc ?_ _)); refine blk_far ?_ NB234_240.out _; (with_reducible repeat (first | refine blk_drewN ?_ _ | refine blk_drew ?_ | refine blk_alloc ?_ _)); exact BK234.out⟩, ⟨by (with_reducible repeat (first | refine blk_drewN ?_ _ | refine blk_drew ?_ | refine blk_alloc ?_ _)); refine blk_far ?_ NB235_240.out _; (with_reducible repeat (first | refine blk_drewN ?_ _ | refine blk_drew ?_ | refine blk_alloc ?_ _)); exact BK235.out⟩, ⟨by (with_reducible repeat (first | refine blk_drewN ?_ _ | refine blk_drew ?_ | refine blk_alloc ?_ _)); refine blk_put (cs := #[.int .i64 a0_0, u241001]) ?_ 1 _ rfl; (with_reducible repeat (first | refine blk_drewN ?_ _ | refine blk_drew ?_ | refine blk_alloc ?_ _)); exact BK240.out⟩, ⟨hB⟩⟩
                 ·rw [if_neg c76] at H
                  exact absurd H (by simp)
               ·rw [if_neg c57] at H
                exact absurd H (by simp)
              ·rw [if_neg c56] at H
               exact absurd H (by simp)
             ·rw [if_neg c54] at H
              exact absurd H (by simp)
            ·rw [if_neg c53] at H
             exact absurd H (by simp)
         ·replace c44 := Bool.eq_false_iff.mpr c44
          subst c44
          rw [if_neg (show ¬ (false = true) by decide)] at H
          by_cases c92 : (Int.tmod t241 6) = 2
          ·rw [if_pos c92] at H
           have c92b0 : ((Int.tmod t241 6) == 2) = true := beq_iff_eq.mpr c92
           have c92b1 : ((Int.tmod t241 6) != 2) = false := bne_eq_false_iff_eq.mpr c92
           clear c92
           replace H := Option.bind_eq_some_iff.mp H
           obtain ⟨t258, A930, H⟩ := H
           try dsimp only at H
           have A93 := Aside0.mk A930
           clear A930
           by_cases c94 : a0_0 = 0
           ·rw [if_pos c94] at H
            exact absurd H (by simp)
           ·rw [if_neg c94] at H
            have c94b0 : (a0_0 == 0) = false := beq_eq_false_iff_ne.mpr c94
            have c94b1 : (a0_0 != 0) = true := bne_iff_ne.mpr c94
            replace H := Option.bind_eq_some_iff.mp H
            obtain ⟨t259, A950, H⟩ := H
            try dsimp only at H
            have A95 := Aside0.mk A950
            clear A950
            obtain ⟨ji96, hji96⟩ : ∃ j_ : Int, (Int.tmod t258 a0_0) = j_ := ⟨_, rfl⟩
            replace H : (if 0 ≤ (ji96) then (if (ji96) < (t259.length : Int) then (if x241001_2.length < 5864062014805 then (spec_MakePuzzle.l0 kj36 (wrap64 (x1_2 - 1)) a0_0 t258 a0_0 l0_1 a0_0 (x241001_2 ++ [(⟨(Int.tmod t241 6), ji96, rd t259 (ji96)⟩ : S70)])) else (none)) else (none)) else (none)) = some (r1, r2, r3) := by first | (rw [hji96] at H; exact H) | (simp only [hji96] at H ⊢; exact H)
            (try rw [hji96] at A93)
            (try rw [hji96] at A95)
            by_cases c97 : 0 ≤ (ji96)
            ·rw [if_pos c97] at H
             have c97b0 : decide (0 ≤ (ji96)) = true := decide_eq_true c97
             clear c97
             by_cases c98 : (ji96) < (t259.length : Int)
             ·rw [if_pos c98] at H
              have c98b0 : decide ((ji96) < (t259.length : Int)) = true := decide_eq_true c98
              clear c98
              by_cases c99 : x241001_2.length < 5864062014805
              ·rw [if_pos c99] at H
               have LMc99 := Aside0.mk c99
               clear c99
               obtain ⟨y263, hy263⟩ : ∃ y_ : List (S70), y_ = (x241001_2 ++ [(⟨(Int.tmod t241 6), ji96, rd t259 (ji96)⟩ : S70)]) := ⟨_, rfl⟩
               replace H : (spec_MakePuzzle.l0 kj36 (wrap64 (x1_2 - 1)) a0_0 t258 a0_0 l0_1 a0_0 y263) = some (r1, r2, r3) := by first | (rw [hy263]; with_reducible exact H) | (have H2_ := (Option.bind_some _ _).symm.trans H; rw [hy263]; with_reducible exact H2_) | (have H2_ := (Option.bind_some _ _).symm.trans H; with_reducible exact H2_) | with_reducible exact H | (rw [hy263]; exact H) | exact H
               have Ny263 := Aside0.mk hy263
               clear hy263
               have H' := Aside0.mk H
               clear H
               try go_wp2_with (first | ((with_reducible refine gate_callee (f := 51) rfl ?_); refine goC (N := some 93) Tryd.func51 #[.int .i64 t241] rfl ?_; (with_reducible refine (spec_pzNext.calls t241 t258 _ A93.out).mono ?_); rintro e w' ⟨rfl, ⟨nd, rfl⟩⟩; refine ⟨_, rfl, ?_⟩; (try (rw [drewN_self wc]; generalize hq_ : World.drewN wc _ = wc; have n0_ : Aside0 (Kd.R k70 70 wc w.heap.size (fun k_ => k_ ≠ gb242) u241001 x241001_2) := ⟨by rw [← hq_]; exact (rU HO_241001)⟩; have n1_ : Aside0 (wc.heap[gb234]? = some (.cells #[.int .i64 a0_0, .slice A0_1 l0_1.length c0_1] 33 (0, 0))) := ⟨by rw [← hq_]; exact bK⟩; have n2_ : Aside0 (wc.heap[gb235]? = some (.cells #[.int .i64 0, .slice none 0 0] 28 (0, 0))) := ⟨by rw [← hq_]; exact bK⟩; have n3_ : Aside0 (wc.heap[gb240]? = some (.cells #[.int .i64 a0_0, u241001] 28 (0, 0))) := ⟨by rw [← hq_]; exact bK⟩; have n4_ : Aside0 (wc.heap[gb242]? = some (.cells #[.int .i64 (Int.tmod t241 6), .int .i64 0, .int .i64 0] 70 (0, 0))) := ⟨by rw [← hq_]; exact bK⟩; have n5_ : Aside0 (Below w.heap.size w wc) := ⟨by rw [← hq_]; exact hB⟩; clear HO_241001 BK234 BK235 BK240 BK242 HB hq_; have HO_241001 := n0_; have BK234 := n1_; have BK235 := n2_; have BK240 := n3_; have BK242 := n4_; have HB := n5_; clear n0_ n1_ n2_ n3_ n4_ n5_)); have hnb100 := NB242_234.out; have hnc100 := NB234_242.out; have hnb101 := NB242_235.out; have hnc101 := NB235_242.out; have hnb102 := NB242_240.out; have hnc102 := NB240_242.out; have hcz103_0 := cz BK242 0; have hcz103_1 := cz BK242 1; have hcz103_2 := cz BK242 2; have hfz103_0 := fz BK242 0; have hfz103_1 := fz BK242 1; have hfz103_2 := fz BK242 2))
               have n0_ : Aside0 (Kd.R k70 70 (wc.setCell ⟨gb242, 1, none⟩ (.int .i64 ji96)) w.heap.size (fun k_ => k_ ≠ gb242) u241001 x241001_2) := ⟨by (with_reducible repeat (first | apply Kd.R_alloc | apply Kd.R_drewN | apply Kd.R_drew)); exact Kd.R_mono (Kd.R_far (p := ⟨gb242, 1, none⟩) (Kd.R_mono HO_241001.out (fun k_ hk => (⟨hk, hk⟩ : _ ∧ k_ ≠ gb242))) (fun _ hk => hk.2) (.int .i64 ji96)) (fun _ hk => hk.1)⟩
               have n1_ : Aside0 ((wc.setCell ⟨gb242, 1, none⟩ (.int .i64 ji96)).heap[gb234]? = some (.cells #[.int .i64 a0_0, .slice A0_1 l0_1.length c0_1] 33 (0, 0))) := ⟨by (with_reducible repeat (first | refine blk_drewN ?_ _ | refine blk_drew ?_ | refine blk_alloc ?_ _)); refine blk_far ?_ NB234_242.out _; (with_reducible repeat (first | refine blk_drewN ?_ _ | refine blk_drew ?_ | refine blk_alloc ?_ _)); exact BK234.out⟩
               have n2_ : Aside0 ((wc.setCell ⟨gb242, 1, none⟩ (.int .i64 ji96)).heap[gb235]? = some (.cells #[.int .i64 0, .slice none 0 0] 28 (0, 0))) := ⟨by (with_reducible repeat (first | refine blk_drewN ?_ _ | refine blk_drew ?_ | refine blk_alloc ?_ _)); refine blk_far ?_ NB235_242.out _; (with_reducible repeat (first | refine blk_drewN ?_ _ | refine blk_drew ?_ | refine blk_alloc ?_ _)); exact BK235.out⟩
               have n3_ : Aside0 ((wc.setCell ⟨gb242, 1, none⟩ (.int .i64 ji96)).heap[gb240]? = some (.cells #[.int .i64 a0_0, u241001] 28 (0, 0))) := ⟨by (with_reducible repeat (first | refine blk_drewN ?_ _ | refine blk_drew ?_ | refine blk_alloc ?_ _)); refine blk_far ?_ NB240_242.out _; (with_reducible repeat (first | refine blk_drewN ?_ _ | refine blk_drew ?_ | refine blk_alloc ?_ _)); exact BK240.out⟩
               have n4_ : Aside0 ((wc.setCell ⟨gb242, 1, none⟩ (.int .i64 ji96)).heap[gb242]? = some (.cells #[.int .i64 (Int.tmod t241 6), .int .i64 ji96, .int .i64 0] 70 (0, 0))) := ⟨by (with_reducible repeat (first | refine blk_drewN ?_ _ | refine blk_drew ?_ | refine blk_alloc ?_ _)); refine blk_put (cs := #[.int .i64 (Int.tmod t241 6), .int .i64 0, .int .i64 0]) ?_ 1 _ rfl; (with_reducible repeat (first | refine blk_drewN ?_ _ | refine blk_drew ?_ | refine blk_alloc ?_ _)); exact BK242.out⟩
               have n5_ : Aside0 (Below w.heap.size w (wc.setCell ⟨gb242, 1, none⟩ (.int .i64 ji96))) := ⟨hB⟩
               (try clear HO_241001)
               (try clear BK234)
               (try clear BK235)
               (try clear BK240)
               (try clear BK242)
               (try clear HB)
               generalize (wc.setCell ⟨gb242, 1, none⟩ (.int .i64 ji96)) = w104 at n0_ n1_ n2_ n3_ n4_ n5_ ⊢
               have HO_241001 := n0_
               have BK234 := n1_
               have BK235 := n2_
               have BK240 := n3_
               have BK242 := n4_
               have HB := n5_
               clear n0_ n1_ n2_ n3_ n4_ n5_
               replace HO_241001 := Aside0.mk (Kd.R_drew HO_241001.out)
               replace BK234 := Aside0.mk (blk_drew BK234.out)
               replace BK235 := Aside0.mk (blk_drew BK235.out)
               replace BK240 := Aside0.mk (blk_drew BK240.out)
               replace BK242 := Aside0.mk (blk_drew BK242.out)
               replace HB := Aside0.mk (below_drew1 HB.out)
               refine start_ (n := 8) (S := fun w' => w'.cell? ⟨gb234, 0, none⟩ = some (.int .i64 a0_0) ∧ w'.cell? ⟨gb234, 1, none⟩ = some (.slice A0_1 l0_1.length c0_1) ∧ w'.cell? ⟨gb242, 0, none⟩ = some (.int .i64 (Int.tmod t241 6)) ∧ w'.cell? ⟨gb242, 1, none⟩ = some (.int .i64 ji96) ∧ w'.cell? ⟨gb242, 2, none⟩ = some (.int .i64 0)) (ds := [7]) (bz 8 0) (by kernel_rfl) rfl rfl ⟨(blk_cell BK234.out 0).trans rfl, (blk_cell BK234.out 1).trans rfl, (blk_cell BK242.out 0).trans rfl, (blk_cell BK242.out 1).trans rfl, (blk_cell BK242.out 2).trans rfl⟩ (fun hHeld => ?_); refine with_tabW spec_MakePuzzle.tab26 spec_MakePuzzle.bits26 (fun HT_ HW_ => ?_)
               generalize w104.drew = w105 at HO_241001 BK234 BK235 BK240 BK242 HB hHeld ⊢
               refine run_ [(0, 2, 4, some 100), (1, 0, 5, some 98), (1, 3, 13, some 101)] ?_
               repeat (first | (apply tag0; refine run_p (v := ?_) (a' := ?_) rfl rfl (any_of HT_.out (by kernel_rfl)) (fun _ _ _ h => h) (by rfl) ?_ ?_ ?_; rotate_left 2; (intro w'; go_simp; with_reducible rfl); (first | (simp only [Act.put, List.setIfInBounds_toArray, List.set_cons_zero, List.set_cons_succ, i64_w, i32_w]; rfl) | rfl)) | (apply tag1; refine run_t (v := ?_) (a' := ?_) rfl rfl (take_ofW HT_.out HW_.out (by kernel_rfl)) (fun _ _ _ h => h) (by rfl) ?_ hHeld ?_ ?_; rotate_left 2; (rintro w' ⟨s0, s1, s2, s3, s4⟩; go_simp; with_reducible rfl); (first | (simp only [Act.put, List.setIfInBounds_toArray, List.set_cons_zero, List.set_cons_succ, i64_w, i32_w]; rfl) | rfl)))
               refine run_nil ?_
               refine one_ (i := 1) (N := some 99) (bz 8 15) rfl rfl (one_of HT_.out (by kernel_rfl)) (by decide) (fun K hK => ?_)
               refine goes_ Tryd.func55 (by kernel_rfl) rfl #[.agg #[.int .i64 a0_0, .slice A0_1 l0_1.length c0_1]] (by rfl) rfl rfl mapT ?_
               with_reducible refine (spec_paNumbers.calls kj36 a0_0 _ _ l0_1 t259 _ ?side1 ?side2 A95.out).mono ?_
               (case side1 => exact cS (Kd.C_below HR0_1.out HB.out))
               (case side2 => exact HC0_1.out)
               rintro e w106 ⟨v260, rfl, ho0, hb⟩
               refine ⟨_, rfl, ?_⟩
               have HO261 := Aside0.mk (Kd.R_lower ho0 (below_size hB))
               replace HO_241001 := Aside0.mk (Kd.R_below (rU HO_241001) hb)
               replace BK234 := bS BK234 hb
               replace BK235 := bS BK235 hb
               replace BK240 := bS BK240 hb
               replace BK242 := bS BK242 hb
               replace HB := hS HB hb
               (try clear hb)
               (try clear hb2)
               (try clear hk)
               (try clear hi)
               (try clear ho0)
               obtain ⟨Ao107, co107, eo107⟩ := Kd.R_slice HO261.out
               (first | subst eo107 | (injection eo107 with f1_ f2_ f3_; have f4_ := f1_.symm; have f5_ := f3_.symm; clear f1_ f2_ f3_; subst f4_; subst f5_))
               have p262 : 0 ≤ ((ji96) : Int) := of_decide_eq_true (by first | (with_reducible assumption) | assumption)
               have q262 : (ji96) < (t259.length : Int) := of_decide_eq_true (by first | (with_reducible assumption) | assumption)
               obtain ⟨ad262, e262, hx262_0⟩ := Kd.at_int (Kd.R_reads' HO261.out).2.2 (ji96) p262 q262
               cases e262
               replace p262 := eq_true p262
               replace q262 := eq_true q262
               refine hK.out _ _ ⟨(blk_cell BK234.out 0).trans rfl, (blk_cell BK234.out 1).trans rfl, (blk_cell BK242.out 0).trans rfl, (blk_cell BK242.out 1).trans rfl, (blk_cell BK242.out 2).trans rfl⟩ (fun hHeld => ?_)
               have hHeld2 : (fun w' : World => w'.cell? ⟨gb234, 0, none⟩ = some (.int .i64 a0_0) ∧ w'.cell? ⟨gb234, 1, none⟩ = some (.slice A0_1 l0_1.length c0_1) ∧ w'.cell? ⟨gb242, 0, none⟩ = some (.int .i64 (Int.tmod t241 6)) ∧ w'.cell? ⟨gb242, 1, none⟩ = some (.int .i64 ji96) ∧ w'.cell? ⟨gb242, 2, none⟩ = some (.int .i64 0) ∧ w'.cell? (ad262.add ((ji96)).toNat) = some (.int .i64 (rd t259 (ji96)))) _ := ⟨(blk_cell BK234.out 0).trans rfl, (blk_cell BK234.out 1).trans rfl, (blk_cell BK242.out 0).trans rfl, (blk_cell BK242.out 1).trans rfl, (blk_cell BK242.out 2).trans rfl, hx262_0⟩
               refine spec_MakePuzzle.more (fun w' : World => w'.cell? ⟨gb234, 0, none⟩ = some (.int .i64 a0_0) ∧ w'.cell? ⟨gb234, 1, none⟩ = some (.slice A0_1 l0_1.length c0_1) ∧ w'.cell? ⟨gb242, 0, none⟩ = some (.int .i64 (Int.tmod t241 6)) ∧ w'.cell? ⟨gb242, 1, none⟩ = some (.int .i64 ji96) ∧ w'.cell? ⟨gb242, 2, none⟩ = some (.int .i64 0) ∧ w'.cell? (ad262.add ((ji96)).toNat) = some (.int .i64 (rd t259 (ji96)))) (fun _ ⟨s0, s1, s2, s3, s4, s5⟩ => ⟨s0, s1, s2, s3, s4⟩) 7 (by kernel_rfl) _ _ _ _ hHeld2 ?_
               clear hHeld
               have hHeld := hHeld2
               clear hHeld2
               clear hK K
               refine norm_ (a' := ?_) ?_ ?_
               rotate_left
               ·show Act.put _ (some 99) _ = _
                simp only [Act.put, List.setIfInBounds_toArray, List.set_cons_zero, List.set_cons_succ, i64_w, i32_w]
                rfl
               refine run_ [(0, 4, 31, some 102), (1, 5, 63, some 103), (0, 6, 127, some 104)] ?_
               repeat (first | (apply tag0; refine run_p (v := ?_) (a' := ?_) rfl rfl (any_of HT_.out (by kernel_rfl)) (fun _ _ _ h => h) (by rfl) ?_ ?_ ?_; rotate_left 2; (intro w'; go_simp; with_reducible rfl); (first | (simp only [Act.put, List.setIfInBounds_toArray, List.set_cons_zero, List.set_cons_succ, i64_w, i32_w]; rfl) | rfl)) | (apply tag1; refine run_t (v := ?_) (a' := ?_) rfl rfl (take_ofW HT_.out HW_.out (by kernel_rfl)) (fun _ _ _ h => h) (by rfl) ?_ hHeld ?_ ?_; rotate_left 2; (rintro w' ⟨s0, s1, s2, s3, s4, s5⟩; go_simp; with_reducible rfl); (first | (simp only [Act.put, List.setIfInBounds_toArray, List.set_cons_zero, List.set_cons_succ, i64_w, i32_w]; rfl) | rfl)))
               refine run_nil ?_
               refine last_ (i := 7) (N := none) (bz 8 255) rfl rfl (one_of HT_.out (by kernel_rfl)) (by decide) (fun K hK => ?_)
               have hs108 : w106.cell? ⟨gb242, 2, none⟩ = some (.int .i64 0) := (blk_cell BK242.out 2).trans rfl
               have hfs108 := fz BK242 2
               have hns108_0 := NB234_242.out
               have hns108_1 := NB235_242.out
               have hns108_2 := NB240_242.out
               have hms108_0 := NB242_234.out
               have hms108_1 := NB242_235.out
               have hms108_2 := NB242_240.out
               refine skip_ (w1 := ?_) (by rfl) rfl ?_ ?_
               rotate_left
               ·go_simp
                rfl
               refine hK.out _ _ ?_
               clear hK K
               refine done_ (done_of HT_.out (by kernel_rfl)) ?_
               have hnb109 := NB240_234.out
               have hnc109 := NB234_240.out
               have hnb110 := NB240_235.out
               have hnc110 := NB235_240.out
               have hcz111_0 := cz BK240 0
               have hcz111_1 := cz BK240 1
               have hfz111_0 := fz BK240 0
               have hfz111_1 := fz BK240 1
               have hcz112_0 := cz BK242 0
               have hcz112_1 := cz BK242 1
               have hcz112_2 := cz BK242 2
               have hfz112_0 := fz BK242 0
               have hfz112_1 := fz BK242 1
               have hfz112_2 := fz BK242 2
               try go_wp2_with (first | ((with_reducible refine gate_builtin (b := .append) (xs := #[.tmp 117, .tmp 119]) rfl ?_); at_builtin; refine Kd.R_append k70 (w0 := w) w.heap.size rfl (.tmp 117) (.tmp 119) 26 70 (.agg #[(.int .i64 0), (.int .i64 0), (.int .i64 0)]) 24 rfl Tryd.underlying26 info70 rfl (by decide) (by omega) u241001 x241001_2 (⟨(Int.tmod t241 6), ji96, rd t259 (ji96)⟩ : S70) [.int .i64 (Int.tmod t241 6), .int .i64 ji96, .int .i64 (rd t259 (ji96))] (fun k_ => k_ ≠ gb242) (fun _ => False) rfl (by first | (go_simp; done) | (go_simp; rfl)) ?aP (fun _ hk => hk.elim) ?aF ?aO ?aB ?aS ?aL ?_; (case aP => exact k70_mkM _ _ _ (⟨(Int.tmod t241 6), ji96, rd t259 (ji96)⟩ : S70)); (case aB => exact hB); (case aF => exact (fun k_ hk => Kd.freshB (g := gb242) (o := .cells #[.int .i64 (Int.tmod t241 6), .int .i64 ji96, .int .i64 (rd t259 (ji96))] 70 (0, 0)) (by (with_reducible repeat (first | refine blk_drewN ?_ _ | refine blk_drew ?_ | refine blk_alloc ?_ _)); refine blk_put (cs := #[.int .i64 (Int.tmod t241 6), .int .i64 ji96, .int .i64 0]) ?_ 2 _ rfl; (with_reducible repeat (first | refine blk_drewN ?_ _ | refine blk_drew ?_ | refine blk_alloc ?_ _)); exact BK242.out) k_ hk)); (case aO => exact (by (with_reducible repeat (first | apply Kd.R_alloc | apply Kd.R_drewN | apply Kd.R_drew)); exact Kd.R_mono (Kd.R_far (p := ⟨gb242, 2, none⟩) (Kd.R_mono HO_241001.out (fun k_ hk => (⟨hk, hk⟩ : _ ∧ k_ ≠ gb242))) (fun _ hk => hk.2) (.int .i64 (rd t259 (ji96)))) (fun _ hk => hk.1))); (case aS => exact (below_size hB)); (case aL => have := LMc99.out; omega); intro v264 w113 ho hb hg hat; rw [← Ny263.out] at ho; have HO265 := Aside0.mk (ho); replace BK234 := Aside0.mk (blk_grown (g := gb234) (o := .cells #[.int .i64 a0_0, .slice A0_1 l0_1.length c0_1] 33 (0, 0)) (by (with_reducible repeat (first | refine blk_drewN ?_ _ | refine blk_drew ?_ | refine blk_alloc ?_ _)); refine blk_far ?_ NB234_242.out _; (with_reducible repeat (first | refine blk_drewN ?_ _ | refine blk_drew ?_ | refine blk_alloc ?_ _)); exact BK234.out) hg (Kd.R_ne HO_241001.out BK234.out (by decide))); replace BK235 := Aside0.mk (blk_grown (g := gb235) (o := .cells #[.int .i64 0, .slice none 0 0] 28 (0, 0)) (by (with_reducible repeat (first | refine blk_drewN ?_ _ | refine blk_drew ?_ | refine blk_alloc ?_ _)); refine blk_far ?_ NB235_242.out _; (with_reducible repeat (first | refine blk_drewN ?_ _ | refine blk_drew ?_ | refine blk_alloc ?_ _)); exact BK235.out) hg (Kd.R_ne HO_241001.out BK235.out (by decide))); replace BK240 := Aside0.mk (blk_grown (g := gb240) (o := .cells #[.int .i64 a0_0, u241001] 28 (0, 0)) (by (with_reducible repeat (first | refine blk_drewN ?_ _ | refine blk_drew ?_ | refine blk_alloc ?_ _)); refine blk_far ?_ NB240_242.out _; (with_reducible repeat (first | refine blk_drewN ?_ _ | refine blk_drew ?_ | refine blk_alloc ?_ _)); exact BK240.out) hg (Kd.R_ne HO_241001.out BK240.out (by decide))); replace HO261 := Aside0.mk (Kd.R_over' (by (with_reducible repeat (first | apply Kd.R_alloc | apply Kd.R_drewN | apply Kd.R_drew)); exact (Kd.R_mono (Kd.R_far (p := ⟨gb242, 2, none⟩) (Kd.R_types HO261.out BK242.out (by decide)) (fun _ hk => hk.2) (.int .i64 (rd t259 (ji96)))) (fun _ h_ => h_.1))) (Kd.R_typed (by (with_reducible repeat (first | apply Kd.R_alloc | apply Kd.R_drewN | apply Kd.R_drew)); exact (Kd.R_mono (Kd.R_far (p := ⟨gb242, 2, none⟩) (Kd.R_mono HO_241001.out (fun k_ hk => (⟨hk, hk⟩ : _ ∧ k_ ≠ gb242))) (fun _ hk => hk.2) (.int .i64 (rd t259 (ji96)))) (fun _ h_ => h_.1)))) (by decide) hg); replace BK242 := Aside0.mk (blk_grown (g := gb242) (o := .cells #[.int .i64 (Int.tmod t241 6), .int .i64 ji96, .int .i64 (rd t259 (ji96))] 70 (0, 0)) (by (with_reducible repeat (first | refine blk_drewN ?_ _ | refine blk_drew ?_ | refine blk_alloc ?_ _)); refine blk_put (cs := #[.int .i64 (Int.tmod t241 6), .int .i64 ji96, .int .i64 0]) ?_ 2 _ rfl; (with_reducible repeat (first | refine blk_drewN ?_ _ | refine blk_drew ?_ | refine blk_alloc ?_ _)); exact BK242.out) hg (Kd.R_away HO_241001.out (fun _ hk => hk))); replace HB := Aside0.mk (hb); clear HO_241001; clear ho hb hg hat; obtain ⟨Ao114, co114, eo114⟩ := Kd.R_slice HO265.out; subst eo114; have hcz115_0 := cz BK240 0; have hcz115_1 := cz BK240 1; have hfz115_0 := fz BK240 0; have hfz115_1 := fz BK240 1))
               go_roundg kj36
               case measure => have := HJ3.out; have := HK2.out; have := HJ36.out; omega
               case rel => exact ⟨(wrap64 (x1_2 - 1)), (t258), (y263), (.slice Ao114 y263.length co114), (by first | rfl | (simp; done) | (simp [*]; done)), (by first | rfl | (simp; done) | (simp [*]; done)), H', ⟨by have := HJ3.out; have := HK2.out; have := HJ36.out; omega⟩, ⟨by (with_reducible repeat (first | apply Kd.R_alloc | apply Kd.R_drewN | apply Kd.R_drew)); exact Kd.R_mono (Kd.R_far (p := ⟨gb240, 1, none⟩) (Kd.R_types HO265.out BK240.out (by decide)) (fun _ hk => hk.2) (.slice Ao114 y263.length co114)) (fun _ hk => trivial)⟩, ⟨by (with_reducible repeat (first | refine blk_drewN ?_ _ | refine blk_drew ?_ | refine blk_alloc ?_ _)); refine blk_far ?_ NB234_240.out _; (with_reducible repeat (first | refine blk_drewN ?_ _ | refine blk_drew ?_ | refine blk_alloc ?_ _)); exact BK234.out⟩, ⟨by (with_reducible repeat (first | refine blk_drewN ?_ _ | refine blk_drew ?_ | refine blk_alloc ?_ _)); refine blk_far ?_ NB235_240.out _; (with_reducible repeat (first | refine blk_drewN ?_ _ | refine blk_drew ?_ | refine blk_alloc ?_ _)); exact BK235.out⟩, ⟨by (with_reducible repeat (first | refine blk_drewN ?_ _ | refine blk_drew ?_ | refine blk_alloc ?_ _)); refine blk_put (cs := #[.int .i64 a0_0, u241001]) ?_ 1 _ rfl; (with_reducible repeat (first | refine blk_drewN ?_ _ | refine blk_drew ?_ | refine blk_alloc ?_ _)); exact BK240.out⟩, ⟨hB⟩⟩
              ·rw [if_neg c99] at H
               exact absurd H (by simp)
             ·rw [if_neg c98] at H
              exact absurd H (by simp)
            ·rw [if_neg c97] at H
             exact absurd H (by simp)
          ·rw [if_neg c92] at H
           have c92b0 : ((Int.tmod t241 6) == 2) = false := beq_eq_false_iff_ne.mpr c92
           have c92b1 : ((Int.tmod t241 6) != 2) = true := bne_iff_ne.mpr c92
           by_cases c116 : (Int.tmod t241 6) = 3
           ·rw [if_pos c116] at H
            have c116b0 : ((Int.tmod t241 6) == 3) = true := beq_iff_eq.mpr c116
            have c116b1 : ((Int.tmod t241 6) != 3) = false := bne_eq_false_iff_eq.mpr c116
            clear c116
            by_cases c117 : x241001_2.length < 5864062014805
            ·rw [if_pos c117] at H
             have LMc117 := Aside0.mk c117
             clear c117
             obtain ⟨y266, hy266⟩ : ∃ y_ : List (S70), y_ = (x241001_2 ++ [(⟨(Int.tmod t241 6), (l0_1.length : Int), 0⟩ : S70)]) := ⟨_, rfl⟩
             replace H : (spec_MakePuzzle.l0 kj36 (wrap64 (x1_2 - 1)) a0_0 t241 a0_0 l0_1 a0_0 y266) = some (r1, r2, r3) := by first | (rw [hy266]; with_reducible exact H) | (have H2_ := (Option.bind_some _ _).symm.trans H; rw [hy266]; with_reducible exact H2_) | (have H2_ := (Option.bind_some _ _).symm.trans H; with_reducible exact H2_) | with_reducible exact H | (rw [hy266]; exact H) | exact H
             have Ny266 := Aside0.mk hy266
             clear hy266
             have H' := Aside0.mk H
             clear H
             have hnb118 := NB234_235.out
             have hnc118 := NB235_234.out
             have hnb119 := NB234_240.out
             have hnc119 := NB240_234.out
             have hnb120 := NB234_242.out
             have hnc120 := NB242_234.out
             have hcz121_0 := cz BK234 0
             have hcz121_1 := cz BK234 1
             have hfz121_0 := fz BK234 0
             have hfz121_1 := fz BK234 1
             have hnb122 := NB242_235.out
             have hnc122 := NB235_242.out
             have hnb123 := NB242_240.out
             have hnc123 := NB240_242.out
             have hcz124_0 := cz BK242 0
             have hcz124_1 := cz BK242 1
             have hcz124_2 := cz BK242 2
             have hfz124_0 := fz BK242 0
             have hfz124_1 := fz BK242 1
             have hfz124_2 := fz BK242 2
             have hnb125 := NB240_235.out
             have hnc125 := NB235_240.out
             have hcz126_0 := cz BK240 0
             have hcz126_1 := cz BK240 1
             have hfz126_0 := fz BK240 0
             have hfz126_1 := fz BK240 1
             go_wp2_with (first | ((with_reducible refine gate_builtin (b := .append) (xs := #[.tmp 117, .tmp 119]) rfl ?_); at_builtin; refine Kd.R_append k70 (w0 := w) w.heap.size rfl (.tmp 117) (.tmp 119) 26 70 (.agg #[(.int .i64 0), (.int .i64 0), (.int .i64 0)]) 24 rfl Tryd.underlying26 info70 rfl (by decide) (by omega) u241001 x241001_2 (⟨(Int.tmod t241 6), (l0_1.length : Int), 0⟩ : S70) [.int .i64 (Int.tmod t241 6), .int .i64 (l0_1.length : Int), .int .i64 0] (fun k_ => k_ ≠ gb242) (fun _ => False) rfl (by first | (go_simp; done) | (go_simp; rfl)) ?aP (fun _ hk => hk.elim) ?aF ?aO ?aB ?aS ?aL ?_; (case aP => exact k70_mkM _ _ _ (⟨(Int.tmod t241 6), (l0_1.length : Int), 0⟩ : S70)); (case aB => exact hB); (case aF => exact (fun k_ hk => Kd.freshB (g := gb242) (o := .cells #[.int .i64 (Int.tmod t241 6), .int .i64 (l0_1.length : Int), .int .i64 0] 70 (0, 0)) (by (with_reducible repeat (first | refine blk_drewN ?_ _ | refine blk_drew ?_ | refine blk_alloc ?_ _)); refine blk_put (cs := #[.int .i64 (Int.tmod t241 6), .int .i64 0, .int .i64 0]) ?_ 1 _ rfl; (with_reducible repeat (first | refine blk_drewN ?_ _ | refine blk_drew ?_ | refine blk_alloc ?_ _)); exact BK242.out) k_ hk)); (case aO => exact (by (with_reducible repeat (first | apply Kd.R_alloc | apply Kd.R_drewN | apply Kd.R_drew)); exact Kd.R_mono (Kd.R_far (p := ⟨gb242, 1, none⟩) (Kd.R_mono HO_241001.out (fun k_ hk => (⟨hk, hk⟩ : _ ∧ k_ ≠ gb242))) (fun _ hk => hk.2) (.int .i64 (l0_1.length : Int))) (fun _ hk => hk.1))); (case aS => exact (below_size hB)); (case aL => have := LMc117.out; omega); intro v267 w127 ho hb hg hat; rw [← Ny266.out] at ho; have HO268 := Aside0.mk (ho); replace BK234 := Aside0.mk (blk_grown (g := gb234) (o := .cells #[.int .i64 a0_0, .slice A0_1 l0_1.length c0_1] 33 (0, 0)) (by (with_reducible repeat (first | refine blk_drewN ?_ _ | refine blk_drew ?_ | refine blk_alloc ?_ _)); refine blk_far ?_ NB234_242.out _; (with_reducible repeat (first | refine blk_drewN ?_ _ | refine blk_drew ?_ | refine blk_alloc ?_ _)); exact BK234.out) hg (Kd.R_ne HO_241001.out BK234.out (by decide))); replace BK235 := Aside0.mk (blk_grown (g := gb235) (o := .cells #[.int .i64 0, .slice none 0 0] 28 (0, 0)) (by (with_reducible repeat (first | refine blk_drewN ?_ _ | refine blk_drew ?_ | refine blk_alloc ?_ _)); refine blk_far ?_ NB235_242.out _; (with_reducible repeat (first | refine blk_drewN ?_ _ | refine blk_drew ?_ | refine blk_alloc ?_ _)); exact BK235.out) hg (Kd.R_ne HO_241001.out BK235.out (by decide))); replace BK240 := Aside0.mk (blk_grown (g := gb240) (o := .cells #[.int .i64 a0_0, u241001] 28 (0, 0)) (by (with_reducible repeat (first | refine blk_drewN ?_ _ | refine blk_drew ?_ | refine blk_alloc ?_ _)); refine blk_far ?_ NB240_242.out _; (with_reducible repeat (first | refine blk_drewN ?_ _ | refine blk_drew ?_ | refine blk_alloc ?_ _)); exact BK240.out) hg (Kd.R_ne HO_241001.out BK240.out (by decide))); replace BK242 := Aside0.mk (blk_grown (g := gb242) (o := .cells #[.int .i64 (Int.tmod t241 6), .int .i64 (l0_1.length : Int), .int .i64 0] 70 (0, 0)) (by (with_reducible repeat (first | refine blk_drewN ?_ _ | refine blk_drew ?_ | refine blk_alloc ?_ _)); refine blk_put (cs := #[.int .i64 (Int.tmod t241 6), .int .i64 0, .int .i64 0]) ?_ 1 _ rfl; (with_reducible repeat (first | refine blk_drewN ?_ _ | refine blk_drew ?_ | refine blk_alloc ?_ _)); exact BK242.out) hg (Kd.R_away HO_241001.out (fun _ hk => hk))); replace HB := Aside0.mk (hb); clear HO_241001; clear ho hb hg hat; obtain ⟨Ao128, co128, eo128⟩ := Kd.R_slice HO268.out; subst eo128; have hcz129_0 := cz BK240 0; have hcz129_1 := cz BK240 1; have hfz129_0 := fz BK240 0; have hfz129_1 := fz BK240 1))
             go_roundg kj36
             case measure => have := HJ3.out; have := HK2.out; have := HJ36.out; omega
             case rel => exact ⟨(wrap64 (x1_2 - 1)), (t241), (y266), (.slice Ao128 y266.length co128), (by first | rfl | (simp; done) | (simp [*]; done)), (by first | rfl | (simp; done) | (simp [*]; done)), H', ⟨by have := HJ3.out; have := HK2.out; have := HJ36.out; omega⟩, ⟨by (with_reducible repeat (first | apply Kd.R_alloc | apply Kd.R_drewN | apply Kd.R_drew)); exact Kd.R_mono (Kd.R_far (p := ⟨gb240, 1, none⟩) (Kd.R_types HO268.out BK240.out (by decide)) (fun _ hk => hk.2) (.slice Ao128 y266.length co128)) (fun _ hk => trivial)⟩, ⟨by (with_reducible repeat (first | refine blk_drewN ?_ _ | refine blk_drew ?_ | refine blk_alloc ?_ _)); refine blk_far ?_ NB234_240.out _; (with_reducible repeat (first | refine blk_drewN ?_ _ | refine blk_drew ?_ | refine blk_alloc ?_ _)); exact BK234.out⟩, ⟨by (with_reducible repeat (first | refine blk_drewN ?_ _ | refine blk_drew ?_ | refine blk_alloc ?_ _)); refine blk_far ?_ NB235_240.out _; (with_reducible repeat (first | refine blk_drewN ?_ _ | refine blk_drew ?_ | refine blk_alloc ?_ _)); exact BK235.out⟩, ⟨by (with_reducible repeat (first | refine blk_drewN ?_ _ | refine blk_drew ?_ | refine blk_alloc ?_ _)); refine blk_put (cs := #[.int .i64 a0_0, u241001]) ?_ 1 _ rfl; (with_reducible repeat (first | refine blk_drewN ?_ _ | refine blk_drew ?_ | refine blk_alloc ?_ _)); exact BK240.out⟩, ⟨hB⟩⟩
            ·rw [if_neg c117] at H
             exact absurd H (by simp)
           ·rw [if_neg c116] at H
            have c116b0 : ((Int.tmod t241 6) == 3) = false := beq_eq_false_iff_ne.mpr c116
            have c116b1 : ((Int.tmod t241 6) != 3) = true := bne_iff_ne.mpr c116
            by_cases c130 : (Int.tmod t241 6) = 4
            ·rw [if_pos c130] at H
             have c130b0 : ((Int.tmod t241 6) == 4) = true := beq_iff_eq.mpr c130
             have c130b1 : ((Int.tmod t241 6) != 4) = false := bne_eq_false_iff_eq.mpr c130
             clear c130
             replace H := Option.bind_eq_some_iff.mp H
             obtain ⟨t269, A1310, H⟩ := H
             try dsimp only at H
             have A131 := Aside0.mk A1310
             clear A1310
             by_cases c132 : x241001_2.length < 5864062014805
             ·rw [if_pos c132] at H
              have LMc132 := Aside0.mk c132
              clear c132
              obtain ⟨y270, hy270⟩ : ∃ y_ : List (S70), y_ = (x241001_2 ++ [(⟨(Int.tmod t241 6), t269, 0⟩ : S70)]) := ⟨_, rfl⟩
              replace H : (spec_MakePuzzle.l0 kj36 (wrap64 (x1_2 - 1)) a0_0 t241 a0_0 l0_1 a0_0 y270) = some (r1, r2, r3) := by first | (rw [hy270]; with_reducible exact H) | (have H2_ := (Option.bind_some _ _).symm.trans H; rw [hy270]; with_reducible exact H2_) | (have H2_ := (Option.bind_some _ _).symm.trans H; with_reducible exact H2_) | with_reducible exact H | (rw [hy270]; exact H) | exact H
              have Ny270 := Aside0.mk hy270
              clear hy270
              have H' := Aside0.mk H
              clear H
              have hnb133 := NB234_235.out
              have hnc133 := NB235_234.out
              have hnb134 := NB234_240.out
              have hnc134 := NB240_234.out
              have hnb135 := NB234_242.out
              have hnc135 := NB242_234.out
              have hcz136_0 := cz BK234 0
              have hcz136_1 := cz BK234 1
              have hfz136_0 := fz BK234 0
              have hfz136_1 := fz BK234 1
              go_wp2_with (first | ((with_reducible refine gate_callee (f := 56) rfl ?_); refine goC (N := some 114) Tryd.func56 #[.agg #[.int .i64 a0_0, .slice A0_1 l0_1.length c0_1]] rfl ?_; (with_reducible refine (spec_pzThrees.calls kj36 a0_0 _ _ l0_1 t269 _ ?side1 ?side2 A131.out).mono ?_); (case side1 => exact cS (Kd.C_below HR0_1.out HB.out)); (case side2 => exact HC0_1.out); rintro e w137 ⟨rfl, hb⟩; refine ⟨_, rfl, ?_⟩; replace HO_241001 := Aside0.mk (Kd.R_below (rU HO_241001) hb); replace BK234 := bS BK234 hb; replace BK235 := bS BK235 hb; replace BK240 := bS BK240 hb; replace BK242 := bS BK242 hb; replace HB := hS HB hb; (try clear hb); (try clear hb2); (try clear hk); (try clear hi); have hnb138 := NB242_235.out; have hnc138 := NB235_242.out; have hnb139 := NB242_240.out; have hnc139 := NB240_242.out; have hcz140_0 := cz BK242 0; have hcz140_1 := cz BK242 1; have hcz140_2 := cz BK242 2; have hfz140_0 := fz BK242 0; have hfz140_1 := fz BK242 1; have hfz140_2 := fz BK242 2; have hnb141 := NB240_235.out; have hnc141 := NB235_240.out; have hcz142_0 := cz BK240 0; have hcz142_1 := cz BK240 1; have hfz142_0 := fz BK240 0; have hfz142_1 := fz BK240 1) | ((with_reducible refine gate_builtin (b := .append) (xs := #[.tmp 117, .tmp 119]) rfl ?_); at_builtin; refine Kd.R_append k70 (w0 := w) w.heap.size rfl (.tmp 117) (.tmp 119) 26 70 (.agg #[(.int .i64 0), (.int .i64 0), (.int .i64 0)]) 24 rfl Tryd.underlying26 info70 rfl (by decide) (by omega) u241001 x241001_2 (⟨(Int.tmod t241 6), t269, 0⟩ : S70) [.int .i64 (Int.tmod t241 6), .int .i64 t269, .int .i64 0] (fun k_ => k_ ≠ gb242) (fun _ => False) rfl (by first | (go_simp; done) | (go_simp; rfl)) ?aP (fun _ hk => hk.elim) ?aF ?aO ?aB ?aS ?aL ?_; (case aP => exact k70_mkM _ _ _ (⟨(Int.tmod t241 6), t269, 0⟩ : S70)); (case aB => exact hB); (case aF => exact (fun k_ hk => Kd.freshB (g := gb242) (o := .cells #[.int .i64 (Int.tmod t241 6), .int .i64 t269, .int .i64 0] 70 (0, 0)) (by (with_reducible repeat (first | refine blk_drewN ?_ _ | refine blk_drew ?_ | refine blk_alloc ?_ _)); refine blk_put (cs := #[.int .i64 (Int.tmod t241 6), .int .i64 0, .int .i64 0]) ?_ 1 _ rfl; (with_reducible repeat (first | refine blk_drewN ?_ _ | refine blk_drew ?_ | refine blk_alloc ?_ _)); exact BK242.out) k_ hk)); (case aO => exact (by (with_reducible repeat (first | apply Kd.R_alloc | apply Kd.R_drewN | apply Kd.R_drew)); exact Kd.R_mono (Kd.R_far (p := ⟨gb242, 1, none⟩) (Kd.R_mono HO_241001.out (fun k_ hk => (⟨hk, hk⟩ : _ ∧ k_ ≠ gb242))) (fun _ hk => hk.2) (.int .i64 t269)) (fun _ hk => hk.1))); (case aS => exact (below_size hB)); (case aL => have := LMc132.out; omega); intro v271 w143 ho hb hg hat; rw [← Ny270.out] at ho; have HO272 := Aside0.mk (ho); replace BK234 := Aside0.mk (blk_grown (g := gb234) (o := .cells #[.int .i64 a0_0, .slice A0_1 l0_1.length c0_1] 33 (0, 0)) (by (with_reducible repeat (first | refine blk_drewN ?_ _ | refine blk_drew ?_ | refine blk_alloc ?_ _)); refine blk_far ?_ NB234_242.out _; (with_reducible repeat (first | refine blk_drewN ?_ _ | refine blk_drew ?_ | refine blk_alloc ?_ _)); exact BK234.out) hg (Kd.R_ne HO_241001.out BK234.out (by decide))); replace BK235 := Aside0.mk (blk_grown (g := gb235) (o := .cells #[.int .i64 0, .slice none 0 0] 28 (0, 0)) (by (with_reducible repeat (first | refine blk_drewN ?_ _ | refine blk_drew ?_ | refine blk_alloc ?_ _)); refine blk_far ?_ NB235_242.out _; (with_reducible repeat (first | refine blk_drewN ?_ _ | refine blk_drew ?_ | refine blk_alloc ?_ _)); exact BK235.out) hg (Kd.R_ne HO_241001.out BK235.out (by decide))); replace BK240 := Aside0.mk (blk_grown (g := gb240) (o := .cells #[.int .i64 a0_0, u241001] 28 (0, 0)) (by (with_reducible repeat (first | refine blk_drewN ?_ _ | refine blk_drew ?_ | refine blk_alloc ?_ _)); refine blk_far ?_ NB240_242.out _; (with_reducible repeat (first | refine blk_drewN ?_ _ | refine blk_drew ?_ | refine blk_alloc ?_ _)); exact BK240.out) hg (Kd.R_ne HO_241001.out BK240.out (by decide))); replace BK242 := Aside0.mk (blk_grown (g := gb242) (o := .cells #[.int .i64 (Int.tmod t241 6), .int .i64 t269, .int .i64 0] 70 (0, 0)) (by (with_reducible repeat (first | refine blk_drewN ?_ _ | refine blk_drew ?_ | refine blk_alloc ?_ _)); refine blk_put (cs := #[.int .i64 (Int.tmod t241 6), .int .i64 0, .int .i64 0]) ?_ 1 _ rfl; (with_reducible repeat (first | refine blk_drewN ?_ _ | refine blk_drew ?_ | refine blk_alloc ?_ _)); exact BK242.out) hg (Kd.R_away HO_241001.out (fun _ hk => hk))); replace HB := Aside0.mk (hb); clear HO_241001; clear ho hb hg hat; obtain ⟨Ao144, co144, eo144⟩ := Kd.R_slice HO272.out; subst eo144; have hcz145_0 := cz BK240 0; have hcz145_1 := cz BK240 1; have hfz145_0 := fz BK240 0; have hfz145_1 := fz BK240 1))
              go_roundg kj36
              case measure => have := HJ3.out; have := HK2.out; have := HJ36.out; omega
              case rel => exact ⟨(wrap64 (x1_2 - 1)), (t241), (y270), (.slice Ao144 y270.length co144), (by first | rfl | (simp; done) | (simp [*]; done)), (by first | rfl | (simp; done) | (simp [*]; done)), H', ⟨by have := HJ3.out; have := HK2.out; have := HJ36.out; omega⟩, ⟨by (with_reducible repeat (first | apply Kd.R_alloc | apply Kd.R_drewN | apply Kd.R_drew)); exact Kd.R_mono (Kd.R_far (p := ⟨gb240, 1, none⟩) (Kd.R_types HO272.out BK240.out (by decide)) (fun _ hk => hk.2) (.slice Ao144 y270.length co144)) (fun _ hk => trivial)⟩, ⟨by (with_reducible repeat (first | refine blk_drewN ?_ _ | refine blk_drew ?_ | refine blk_alloc ?_ _)); refine blk_far ?_ NB234_240.out _; (with_reducible repeat (first | refine blk_drewN ?_ _ | refine blk_drew ?_ | refine blk_alloc ?_ _)); exact BK234.out⟩, ⟨by (with_reducible repeat (first | refine blk_drewN ?_ _ | refine blk_drew ?_ | refine blk_alloc ?_ _)); refine blk_far ?_ NB235_240.out _; (with_reducible repeat (first | refine blk_drewN ?_ _ | refine blk_drew ?_ | refine blk_alloc ?_ _)); exact BK235.out⟩, ⟨by (with_reducible repeat (first | refine blk_drewN ?_ _ | refine blk_drew ?_ | refine blk_alloc ?_ _)); refine blk_put (cs := #[.int .i64 a0_0, u241001]) ?_ 1 _ rfl; (with_reducible repeat (first | refine blk_drewN ?_ _ | refine blk_drew ?_ | refine blk_alloc ?_ _)); exact BK240.out⟩, ⟨hB⟩⟩
             ·rw [if_neg c132] at H
              exact absurd H (by simp)
            ·rw [if_neg c130] at H
             have c130b0 : ((Int.tmod t241 6) == 4) = false := beq_eq_false_iff_ne.mpr c130
             have c130b1 : ((Int.tmod t241 6) != 4) = true := bne_iff_ne.mpr c130
             replace H := Option.bind_eq_some_iff.mp H
             obtain ⟨t273, A1460, H⟩ := H
             try dsimp only at H
             have A146 := Aside0.mk A1460
             clear A1460
             by_cases c147 : x241001_2.length < 5864062014805
             ·rw [if_pos c147] at H
              have LMc147 := Aside0.mk c147
              clear c147
              obtain ⟨y276, hy276⟩ : ∃ y_ : List (S70), y_ = (x241001_2 ++ [(⟨(Int.tmod t241 6), (t273.length : Int), 0⟩ : S70)]) := ⟨_, rfl⟩
              replace H : (spec_MakePuzzle.l0 kj36 (wrap64 (x1_2 - 1)) a0_0 t241 a0_0 l0_1 a0_0 y276) = some (r1, r2, r3) := by first | (rw [hy276]; with_reducible exact H) | (have H2_ := (Option.bind_some _ _).symm.trans H; rw [hy276]; with_reducible exact H2_) | (have H2_ := (Option.bind_some _ _).symm.trans H; with_reducible exact H2_) | with_reducible exact H | (rw [hy276]; exact H) | exact H
              have Ny276 := Aside0.mk hy276
              clear hy276
              have H' := Aside0.mk H
              clear H
              have hnb148 := NB234_235.out
              have hnc148 := NB235_234.out
              have hnb149 := NB234_240.out
              have hnc149 := NB240_234.out
              have hnb150 := NB234_242.out
              have hnc150 := NB242_234.out
              have hcz151_0 := cz BK234 0
              have hcz151_1 := cz BK234 1
              have hfz151_0 := fz BK234 0
              have hfz151_1 := fz BK234 1
              go_wp2_with (first | ((with_reducible refine gate_callee (f := 57) rfl ?_); refine goC (N := some 50) Tryd.func57 #[.agg #[.int .i64 a0_0, .slice A0_1 l0_1.length c0_1]] rfl ?_; (with_reducible refine (spec_paParts.calls kj36 a0_0 _ _ l0_1 t273 _ ?side1 ?side2 A146.out).mono ?_); (case side1 => exact cS (Kd.C_below HR0_1.out HB.out)); (case side2 => exact HC0_1.out); rintro e w152 ⟨v274, rfl, ho0, hb⟩; refine ⟨_, rfl, ?_⟩; have HO275 := Aside0.mk (Kd.S_lower ho0 (below_size hB)); replace HO_241001 := Aside0.mk (Kd.R_below (rU HO_241001) hb); replace BK234 := bS BK234 hb; replace BK235 := bS BK235 hb; replace BK240 := bS BK240 hb; replace BK242 := bS BK242 hb; replace HB := hS HB hb; (try clear hb); (try clear hb2); (try clear hk); (try clear hi); (try clear ho0); obtain ⟨Ao153, co153, eo153⟩ := Kd.S_slice HO275.out; subst eo153; have hnb154 := NB242_235.out; have hnc154 := NB235_242.out; have hnb155 := NB242_240.out; have hnc155 := NB240_242.out; have hcz156_0 := cz BK242 0; have hcz156_1 := cz BK242 1; have hcz156_2 := cz BK242 2; have hfz156_0 := fz BK242 0; have hfz156_1 := fz BK242 1; have hfz156_2 := fz BK242 2; have hnb157 := NB240_235.out; have hnc157 := NB235_240.out; have hcz158_0 := cz BK240 0; have hcz158_1 := cz BK240 1; have hfz158_0 := fz BK240 0; have hfz158_1 := fz BK240 1) | ((with_reducible refine gate_builtin (b := .append) (xs := #[.tmp 117, .tmp 119]) rfl ?_); at_builtin; refine Kd.R_append k70 (w0 := w) w.heap.size rfl (.tmp 117) (.tmp 119) 26 70 (.agg #[(.int .i64 0), (.int .i64 0), (.int .i64 0)]) 24 rfl Tryd.underlying26 info70 rfl (by decide) (by omega) u241001 x241001_2 (⟨(Int.tmod t241 6), (t273.length : Int), 0⟩ : S70) [.int .i64 (Int.tmod t241 6), .int .i64 (t273.length : Int), .int .i64 0] (fun k_ => k_ ≠ gb242) (fun _ => False) rfl (by first | (go_simp; done) | (go_simp; rfl)) ?aP (fun _ hk => hk.elim) ?aF ?aO ?aB ?aS ?aL ?_; (case aP => exact k70_mkM _ _ _ (⟨(Int.tmod t241 6), (t273.length : Int), 0⟩ : S70)); (case aB => exact hB); (case aF => exact (fun k_ hk => Kd.freshB (g := gb242) (o := .cells #[.int .i64 (Int.tmod t241 6), .int .i64 (t273.length : Int), .int .i64 0] 70 (0, 0)) (by (with_reducible repeat (first | refine blk_drewN ?_ _ | refine blk_drew ?_ | refine blk_alloc ?_ _)); refine blk_put (cs := #[.int .i64 (Int.tmod t241 6), .int .i64 0, .int .i64 0]) ?_ 1 _ rfl; (with_reducible repeat (first | refine blk_drewN ?_ _ | refine blk_drew ?_ | refine blk_alloc ?_ _)); exact BK242.out) k_ hk)); (case aO => exact (by (with_reducible repeat (first | apply Kd.R_alloc | apply Kd.R_drewN | apply Kd.R_drew)); exact Kd.R_mono (Kd.R_far (p := ⟨gb242, 1, none⟩) (Kd.R_mono HO_241001.out (fun k_ hk => (⟨hk, hk⟩ : _ ∧ k_ ≠ gb242))) (fun _ hk => hk.2) (.int .i64 (t273.length : Int))) (fun _ hk => hk.1))); (case aS => exact (below_size hB)); (case aL => have := LMc147.out; omega); intro v277 w159 ho hb hg hat; rw [← Ny276.out] at ho; have HO278 := Aside0.mk (ho); replace BK234 := Aside0.mk (blk_grown (g := gb234) (o := .cells #[.int .i64 a0_0, .slice A0_1 l0_1.length c0_1] 33 (0, 0)) (by (with_reducible repeat (first | refine blk_drewN ?_ _ | refine blk_drew ?_ | refine blk_alloc ?_ _)); refine blk_far ?_ NB234_242.out _; (with_reducible repeat (first | refine blk_drewN ?_ _ | refine blk_drew ?_ | refine blk_alloc ?_ _)); exact BK234.out) hg (Kd.R_ne HO_241001.out BK234.out (by decide))); replace BK235 := Aside0.mk (blk_grown (g := gb235) (o := .cells #[.int .i64 0, .slice none 0 0] 28 (0, 0)) (by (with_reducible repeat (first | refine blk_drewN ?_ _ | refine blk_drew ?_ | refine blk_alloc ?_ _)); refine blk_far ?_ NB235_242.out _; (with_reducible repeat (first | refine blk_drewN ?_ _ | refine blk_drew ?_ | refine blk_alloc ?_ _)); exact BK235.out) hg (Kd.R_ne HO_241001.out BK235.out (by decide))); replace BK240 := Aside0.mk (blk_grown (g := gb240) (o := .cells #[.int .i64 a0_0, u241001] 28 (0, 0)) (by (with_reducible repeat (first | refine blk_drewN ?_ _ | refine blk_drew ?_ | refine blk_alloc ?_ _)); refine blk_far ?_ NB240_242.out _; (with_reducible repeat (first | refine blk_drewN ?_ _ | refine blk_drew ?_ | refine blk_alloc ?_ _)); exact BK240.out) hg (Kd.R_ne HO_241001.out BK240.out (by decide))); replace HO275 := Aside0.mk (Kd.S_over' (by (with_reducible repeat (first | apply Kd.S_alloc | apply Kd.S_drewN | apply Kd.S_drew)); exact (Kd.S_mono (Kd.S_far (p := ⟨gb242, 1, none⟩) (Kd.S_types HO275.out BK242.out (by decide)) (fun _ hk => hk.2) (.int .i64 (t273.length : Int))) (fun _ h_ => h_.1))) (Kd.R_typed (by (with_reducible repeat (first | apply Kd.R_alloc | apply Kd.R_drewN | apply Kd.R_drew)); exact (Kd.R_mono (Kd.R_far (p := ⟨gb242, 1, none⟩) (Kd.R_mono HO_241001.out (fun k_ hk => (⟨hk, hk⟩ : _ ∧ k_ ≠ gb242))) (fun _ hk => hk.2) (.int .i64 (t273.length : Int))) (fun _ h_ => h_.1)))) (by decide) hg); replace BK242 := Aside0.mk (blk_grown (g := gb242) (o := .cells #[.int .i64 (Int.tmod t241 6), .int .i64 (t273.length : Int), .int .i64 0] 70 (0, 0)) (by (with_reducible repeat (first | refine blk_drewN ?_ _ | refine blk_drew ?_ | refine blk_alloc ?_ _)); refine blk_put (cs := #[.int .i64 (Int.tmod t241 6), .int .i64 0, .int .i64 0]) ?_ 1 _ rfl; (with_reducible repeat (first | refine blk_drewN ?_ _ | refine blk_drew ?_ | refine blk_alloc ?_ _)); exact BK242.out) hg (Kd.R_away HO_241001.out (fun _ hk => hk))); replace HB := Aside0.mk (hb); clear HO_241001; clear ho hb hg hat; obtain ⟨Ao160, co160, eo160⟩ := Kd.R_slice HO278.out; subst eo160; have hcz161_0 := cz BK240 0; have hcz161_1 := cz BK240 1; have hfz161_0 := fz BK240 0; have hfz161_1 := fz BK240 1))
              go_roundg kj36
              case measure => have := HJ3.out; have := HK2.out; have := HJ36.out; omega
              case rel => exact ⟨(wrap64 (x1_2 - 1)), (t241), (y276), (.slice Ao160 y276.length co160), (by first | rfl | (simp; done) | (simp [*]; done)), (by first | rfl | (simp; done) | (simp [*]; done)), H', ⟨by have := HJ3.out; have := HK2.out; have := HJ36.out; omega⟩, ⟨by (with_reducible repeat (first | apply Kd.R_alloc | apply Kd.R_drewN | apply Kd.R_drew)); exact Kd.R_mono (Kd.R_far (p := ⟨gb240, 1, none⟩) (Kd.R_types HO278.out BK240.out (by decide)) (fun _ hk => hk.2) (.slice Ao160 y276.length co160)) (fun _ hk => trivial)⟩, ⟨by (with_reducible repeat (first | refine blk_drewN ?_ _ | refine blk_drew ?_ | refine blk_alloc ?_ _)); refine blk_far ?_ NB234_240.out _; (with_reducible repeat (first | refine blk_drewN ?_ _ | refine blk_drew ?_ | refine blk_alloc ?_ _)); exact BK234.out⟩, ⟨by (with_reducible repeat (first | refine blk_drewN ?_ _ | refine blk_drew ?_ | refine blk_alloc ?_ _)); refine blk_far ?_ NB235_240.out _; (with_reducible repeat (first | refine blk_drewN ?_ _ | refine blk_drew ?_ | refine blk_alloc ?_ _)); exact BK235.out⟩, ⟨by (with_reducible repeat (first | refine blk_drewN ?_ _ | refine blk_drew ?_ | refine blk_alloc ?_ _)); refine blk_put (cs := #[.int .i64 a0_0, u241001]) ?_ 1 _ rfl; (with_reducible repeat (first | refine blk_drewN ?_ _ | refine blk_drew ?_ | refine blk_alloc ?_ _)); exact BK240.out⟩, ⟨hB⟩⟩
             ·rw [if_neg c147] at H
              exact absurd H (by simp)
      ·rw [if_neg c35] at H
       have c35b0 : decide (0 < x1_2) = false := decide_eq_false c35
       clear c35
       simp only [Option.some.injEq, Prod.mk.injEq] at H
       obtain ⟨rfl, rfl, rfl⟩ := H
       have hnb162 := NB240_234.out
       have hnc162 := NB234_240.out
       have hnb163 := NB240_235.out
       have hnc163 := NB235_240.out
       have hcz164_0 := cz BK240 0
       have hcz164_1 := cz BK240 1
       have hfz164_0 := fz BK240 0
       have hfz164_1 := fz BK240 1
       have hnb165 := NB235_234.out
       have hnc165 := NB234_235.out
       have hcz166_0 := cz BK235 0
       have hcz166_1 := cz BK235 1
       have hfz166_0 := fz BK235 0
       have hfz166_1 := fz BK235 1
       obtain ⟨Ao167, co167, eo167⟩ := Kd.R_slice HO_241001.out
       subst eo167
       go_wp2
       refine bodyPost_ret (results_ct rfl _ _ gb235 28 #[.int .i64 a0_0, .slice Ao167 x241001_2.length co167] (0, 0) _ rfl (by (with_reducible repeat (first | refine blk_drewN ?_ _ | refine blk_drew ?_ | refine blk_alloc ?_ _)); refine blk_put (cs := #[.int .i64 a0_0, .slice none 0 0]) ?_ 1 _ rfl; (with_reducible repeat (first | refine blk_drewN ?_ _ | refine blk_drew ?_ | refine blk_alloc ?_ _)); refine blk_put (cs := #[.int .i64 0, .slice none 0 0]) ?_ 0 _ rfl; (with_reducible repeat (first | refine blk_drewN ?_ _ | refine blk_drew ?_ | refine blk_alloc ?_ _)); exact BK235.out) Tryd.underlying28 rfl (by kernel_rfl)) rfl ?_
       exact ⟨_, by first | rfl | (simp [errW_none, errW_some] <;> rfl) | (simp [*, errW_none, errW_some] <;> rfl), by (with_reducible repeat (first | apply Kd.R_alloc | apply Kd.R_drewN | apply Kd.R_drew)); exact Kd.R_mono (Kd.R_far (p := ⟨gb235, 1, none⟩) (Kd.R_far (p := ⟨gb235, 0, none⟩) (Kd.R_types HO_241001.out BK235.out (by decide)) (fun _ hk => hk.2) (.int .i64 a0_0)) (fun _ hk => hk.2) (.slice Ao167 x241001_2.length co167)) (fun _ hk => trivial), hB⟩

end Go.Proofs.YtjpfbkkikcpmhaaDoor.PFnExactMakePuzzle
