-- Of this session's own program wip/gen/gen.py (it drives the kit's print): contracts of the functions that the law reaches.
import Derived.Test.YtjpfbkkikcpmhaaDoorPFnExactMostInPairsx0
import Derived.Test.YtjpfbkkikcpmhaaDoorPFnExactMostInPairsx2
import Derived.Test.YtjpfbkkikcpmhaaDoorPFnExactMostInPairsx3
import Derived.Test.YtjpfbkkikcpmhaaDoorPFnExactMostInPairsx4
namespace Go.Proofs.YtjpfbkkikcpmhaaDoor.PFnExactMostInPairs
open Go.RowKit Go.Proofs.YtjpfbkkikcpmhaaDoorW.PrintWords Go.Proofs.YtjpfbkkikcpmhaaDoorW.PrintLast Go.Proofs.YtjpfbkkikcpmhaaDoorW.PrintMore Go.Proofs.YtjpfbkkikcpmhaaDoor.Base
attribute [local go_sem] max2_int min2_int max_two min_two max_three min_three max_four min_four   -- for this text's walks alone
set_option linter.unusedVariables false
set_option linter.unusedSimpArgs false

/-! ### spec_MostInPairs: function 37 -/
mutual
def spec_MostInPairs.l0 : Nat → List (List Bool) → List Bool → List (S105) → Int → List (S105) → Int → Int → Option ((List (S105)) × Bool)
 | 0, _, _, _, _, _, _, _ => none
 | k + 1, x4, x5, x6, x7, x24, x25, x26 => if x26 < x25 then (if 0 ≤ x26 then (if x26 < (x24.length : Int) then (if x7 = 0 then (spec_MostInPairs.j1 k x4 x5 x6 x7 x24 x25 x26 true ((rd_T105 x24 x26).f0) ((rd_T105 x24 x26).f1)) else (if 0 ≤ ((rd_T105 x24 x26).f0) then (if ((rd_T105 x24 x26).f0) < (x5.length : Int) then (if rdOf false x5 ((rd_T105 x24 x26).f0) = true then (spec_MostInPairs.j1 k x4 x5 x6 x7 x24 x25 x26 true ((rd_T105 x24 x26).f0) ((rd_T105 x24 x26).f1)) else (if 0 ≤ ((rd_T105 x24 x26).f1) then (if ((rd_T105 x24 x26).f1) < (x5.length : Int) then (spec_MostInPairs.j1 k x4 x5 x6 x7 x24 x25 x26 (rdOf false x5 ((rd_T105 x24 x26).f1)) ((rd_T105 x24 x26).f0) ((rd_T105 x24 x26).f1)) else (none)) else (none))) else (none)) else (none))) else (none)) else (none)) else (some (x6, true))
def spec_MostInPairs.j1 : Nat → List (List Bool) → List Bool → List (S105) → Int → List (S105) → Int → Int → Bool → Int → Int → Option ((List (S105)) × Bool)
 | 0, _, _, _, _, _, _, _, _, _, _ => none
 | k + 1, x4, x5, x6, x7, x24, x25, x26, x45, x185000, x185001 => if x45 = true then (spec_MostInPairs.l0 k x4 x5 x6 x7 x24 x25 (wrap64 (x26 + 1))) else ((some (([] : List Bool) : List Bool)).bind fun y187 => (if y187.length + x5.length < 140737488355328 then ((some (y187 ++ x5 : List Bool)).bind fun y190 => (if 0 ≤ x185000 then (if x185000 < (y190.length : Int) then (if 0 ≤ x185001 then (if x185001 < (y190.length : Int) then (spec_MostInPairs.l1 k x4 x5 x6 x7 ((y190.set (x185000 : Int).toNat true).set (x185001 : Int).toNat true) 0 x24 x25 x26 x185000 x185001) else (none)) else (none)) else (none)) else (none))) else (none)))
def spec_MostInPairs.l1 : Nat → List (List Bool) → List Bool → List (S105) → Int → List Bool → Int → List (S105) → Int → Int → Int → Int → Option ((List (S105)) × Bool)
 | 0, _, _, _, _, _, _, _, _, _, _, _ => none
 | k + 1, x4, x5, x6, x7, x10, x11, x24, x25, x26, x185000, x185001 => if x11 < x185000 then (if 0 ≤ x11 then (if x11 < (x10.length : Int) then (spec_MostInPairs.l1 k x4 x5 x6 x7 (x10.set (x11 : Int).toNat true) (wrap64 (x11 + 1)) x24 x25 x26 x185000 x185001) else (none)) else (none)) else ((spec_taMost.f k x4 x10 0).bind fun bt196 => (if (wrap64 (1 + bt196.1)) = x7 then (if x6.length < 8796093022208 then (if 0 ≤ x185000 then (if x185000 < (x5.length : Int) then (if 0 ≤ x185001 then (if x185001 < (x5.length : Int) then (spec_MostInPairs.l0 k x4 ((x5.set (x185000 : Int).toNat true).set (x185001 : Int).toNat true) (x6 ++ [(⟨x185000, x185001⟩ : S105)]) (wrap64 (x7 - 1)) x24 x25 (wrap64 (x26 + 1))) else (none)) else (none)) else (none)) else (none)) else (none)) else (spec_MostInPairs.l0 k x4 x5 x6 x7 x24 x25 (wrap64 (x26 + 1)))))
end
def spec_MostInPairs.f (k : Nat) (a0_0 : Int) (l0_1 : List (S105)) : Option ((List (S105)) × Bool) := (spec_paGood.f k a0_0 l0_1).bind fun t174 => (if t174 = true then ((spec_paTable.f k a0_0 l0_1).bind fun t175 => (if 0 ≤ a0_0 then (if (a0_0 : Int).toNat ≤ 281474976710656 then ((spec_taMost.f k t175 (List.replicate (a0_0 : Int).toNat false) 0).bind fun bt181 => (spec_MostInPairs.l0 k t175 bt181.2 ([] : List (S105)) bt181.1 l0_1 (l0_1.length : Int) 0)) else (none)) else (none))) else (some (([] : List (S105)), false)))
theorem spec_MostInPairs.mono_l : ∀ k, (∀ y0 y1 y2 y3 y4 y5 y6, LeO (spec_MostInPairs.l0 k y0 y1 y2 y3 y4 y5 y6) (spec_MostInPairs.l0 (k + 1) y0 y1 y2 y3 y4 y5 y6)) ∧ (∀ y0 y1 y2 y3 y4 y5 y6 y7 y8 y9, LeO (spec_MostInPairs.j1 k y0 y1 y2 y3 y4 y5 y6 y7 y8 y9) (spec_MostInPairs.j1 (k + 1) y0 y1 y2 y3 y4 y5 y6 y7 y8 y9)) ∧ (∀ y0 y1 y2 y3 y4 y5 y6 y7 y8 y9 y10, LeO (spec_MostInPairs.l1 k y0 y1 y2 y3 y4 y5 y6 y7 y8 y9 y10) (spec_MostInPairs.l1 (k + 1) y0 y1 y2 y3 y4 y5 y6 y7 y8 y9 y10))
 | 0 => ⟨fun _ _ _ _ _ _ _ r h => by simp [spec_MostInPairs.l0] at h, fun _ _ _ _ _ _ _ _ _ _ r h => by simp [spec_MostInPairs.j1] at h, fun _ _ _ _ _ _ _ _ _ _ _ r h => by simp [spec_MostInPairs.l1] at h⟩
 | k + 1 => by
  obtain ⟨ih0, ih1, ih2⟩ := spec_MostInPairs.mono_l k
  refine ⟨?_, ?_, ?_⟩
  ·intro y0 y1 y2 y3 y4 y5 y6
   unfold spec_MostInPairs.l0
   repeat' first
   | (with_reducible exact ih0 _ _ _ _ _ _ _)
   | (with_reducible exact ih1 _ _ _ _ _ _ _ _ _ _)
   | (with_reducible exact ih2 _ _ _ _ _ _ _ _ _ _ _)
   | (with_reducible exact spec_paGood.mono _ _ _)
   | (with_reducible exact spec_paTable.mono _ _ _)
   | (with_reducible exact spec_taMost.mono _ _ _ _)
   | (with_reducible exact LeO.refl _)
   | (with_reducible exact LeO.none _)
   | (with_reducible refine LeO.ite ?_ ?_)
   | (with_reducible refine LeO.bind ?_ (fun _ => ?_))
   | exact ih0 _ _ _ _ _ _ _
   | exact ih1 _ _ _ _ _ _ _ _ _ _
   | exact ih2 _ _ _ _ _ _ _ _ _ _ _
   | exact spec_paGood.mono _ _ _
   | exact spec_paTable.mono _ _ _
   | exact spec_taMost.mono _ _ _ _
   | exact LeO.none _
   | refine LeO.ite ?_ ?_
   | refine LeO.bind ?_ (fun _ => ?_)
  ·intro y0 y1 y2 y3 y4 y5 y6 y7 y8 y9
   unfold spec_MostInPairs.j1
   repeat' first
   | (with_reducible exact ih0 _ _ _ _ _ _ _)
   | (with_reducible exact ih1 _ _ _ _ _ _ _ _ _ _)
   | (with_reducible exact ih2 _ _ _ _ _ _ _ _ _ _ _)
   | (with_reducible exact spec_paGood.mono _ _ _)
   | (with_reducible exact spec_paTable.mono _ _ _)
   | (with_reducible exact spec_taMost.mono _ _ _ _)
   | (with_reducible exact LeO.refl _)
   | (with_reducible exact LeO.none _)
   | (with_reducible refine LeO.ite ?_ ?_)
   | (with_reducible refine LeO.bind ?_ (fun _ => ?_))
   | exact ih0 _ _ _ _ _ _ _
   | exact ih1 _ _ _ _ _ _ _ _ _ _
   | exact ih2 _ _ _ _ _ _ _ _ _ _ _
   | exact spec_paGood.mono _ _ _
   | exact spec_paTable.mono _ _ _
   | exact spec_taMost.mono _ _ _ _
   | exact LeO.none _
   | refine LeO.ite ?_ ?_
   | refine LeO.bind ?_ (fun _ => ?_)
  ·intro y0 y1 y2 y3 y4 y5 y6 y7 y8 y9 y10
   unfold spec_MostInPairs.l1
   repeat' first
   | (with_reducible exact ih0 _ _ _ _ _ _ _)
   | (with_reducible exact ih1 _ _ _ _ _ _ _ _ _ _)
   | (with_reducible exact ih2 _ _ _ _ _ _ _ _ _ _ _)
   | (with_reducible exact spec_paGood.mono _ _ _)
   | (with_reducible exact spec_paTable.mono _ _ _)
   | (with_reducible exact spec_taMost.mono _ _ _ _)
   | (with_reducible exact LeO.refl _)
   | (with_reducible exact LeO.none _)
   | (with_reducible refine LeO.ite ?_ ?_)
   | (with_reducible refine LeO.bind ?_ (fun _ => ?_))
   | exact ih0 _ _ _ _ _ _ _
   | exact ih1 _ _ _ _ _ _ _ _ _ _
   | exact ih2 _ _ _ _ _ _ _ _ _ _ _
   | exact spec_paGood.mono _ _ _
   | exact spec_paTable.mono _ _ _
   | exact spec_taMost.mono _ _ _ _
   | exact LeO.none _
   | refine LeO.ite ?_ ?_
   | refine LeO.bind ?_ (fun _ => ?_)
theorem spec_MostInPairs.mono : ∀ a0 a1 k, LeO (spec_MostInPairs.f k a0 a1) (spec_MostInPairs.f (k + 1) a0 a1) := by
 intro a0 a1 k
 obtain ⟨ih0, ih1, ih2⟩ := spec_MostInPairs.mono_l k
 unfold spec_MostInPairs.f
 repeat' first
   | (with_reducible exact ih0 _ _ _ _ _ _ _)
   | (with_reducible exact ih1 _ _ _ _ _ _ _ _ _ _)
   | (with_reducible exact ih2 _ _ _ _ _ _ _ _ _ _ _)
   | (with_reducible exact spec_paGood.mono _ _ _)
   | (with_reducible exact spec_paTable.mono _ _ _)
   | (with_reducible exact spec_taMost.mono _ _ _ _)
   | (with_reducible exact LeO.refl _)
   | (with_reducible exact LeO.none _)
   | (with_reducible refine LeO.ite ?_ ?_)
   | (with_reducible refine LeO.bind ?_ (fun _ => ?_))
   | exact ih0 _ _ _ _ _ _ _
   | exact ih1 _ _ _ _ _ _ _ _ _ _
   | exact ih2 _ _ _ _ _ _ _ _ _ _ _
   | exact spec_paGood.mono _ _ _
   | exact spec_paTable.mono _ _ _
   | exact spec_taMost.mono _ _ _ _
   | exact LeO.none _
   | refine LeO.ite ?_ ?_
   | refine LeO.bind ?_ (fun _ => ?_)
set_option maxHeartbeats 8000000 in
set_option maxRecDepth 100000 in
theorem spec_MostInPairs.calls (k : Nat) (a0_0 : Int) (A0_1 : Option Addr) (c0_1 : Nat) (l0_1 : List (S105)) (r1 : List (S105)) (r2 : Bool) (w : World) (hr0_1 : Kd.C k105 w A0_1 l0_1.length l0_1) (hc0_1 : l0_1.length ≤ c0_1) (h : spec_MostInPairs.f k a0_0 l0_1 = some (r1, r2)) :
  Calls Tryd.prog 37 #[.agg #[.int .i64 a0_0, .slice A0_1 l0_1.length c0_1]] w fun e w' => ∃ v0_ : Value, e = .returned (.tuple #[v0_, .bool r2]) ∧ Kd.R k105 105 w' w.heap.size (fun _ => True) v0_ r1 ∧ Below w.heap.size w w' := by
 have hu33 := Tryd.underlying33
 have hu105 := Tryd.underlying105
 have HR0_1 := Aside0.mk hr0_1
 have HC0_1 := Aside0.mk hc0_1
 clear hr0_1 hc0_1
 have HB := Aside0.mk (Below.refl w.heap.size w)
 have H : ((spec_paGood.f k a0_0 l0_1).bind fun t174 => (if t174 = true then ((spec_paTable.f k a0_0 l0_1).bind fun t175 => (if 0 ≤ a0_0 then (if (a0_0 : Int).toNat ≤ 281474976710656 then ((spec_taMost.f k t175 (List.replicate (a0_0 : Int).toNat false) 0).bind fun bt181 => (spec_MostInPairs.l0 k t175 bt181.2 ([] : List (S105)) bt181.1 l0_1 (l0_1.length : Int) 0)) else (none)) else (none))) else (some (([] : List (S105)), false)))) = some (r1, r2) := h
 clear h
 replace H := Option.bind_eq_some_iff.mp H
 obtain ⟨t174, A20, H⟩ := H
 try dsimp only at H
 have A2 := Aside0.mk A20
 clear A20
 by_cases c3 : t174 = true
 ·subst c3
  rw [if_pos rfl] at H
  replace H := Option.bind_eq_some_iff.mp H
  obtain ⟨t175, A40, H⟩ := H
  try dsimp only at H
  have A4 := Aside0.mk A40
  clear A40
  by_cases c5 : 0 ≤ a0_0
  ·rw [if_pos c5] at H
   have c5b0 := eq_true c5
   have c5b1 : decide (0 ≤ a0_0) = true := decide_eq_true c5
   clear c5
   by_cases c6 : (a0_0 : Int).toNat ≤ 281474976710656
   ·rw [if_pos c6] at H
    have c6b0 := eq_true c6
    have c6b1 : decide ((a0_0 : Int).toNat ≤ 281474976710656) = true := decide_eq_true c6
    clear c6
    obtain ⟨y178, hy178⟩ : ∃ y_ : List Bool, y_ = (List.replicate (a0_0 : Int).toNat false) := ⟨_, rfl⟩
    replace H : ((spec_taMost.f k t175 y178 0).bind fun bt181 => (spec_MostInPairs.l0 k t175 bt181.2 ([] : List (S105)) bt181.1 l0_1 (l0_1.length : Int) 0)) = some (r1, r2) := by first | (rw [hy178]; with_reducible exact H) | (have H2_ := (Option.bind_some _ _).symm.trans H; rw [hy178]; with_reducible exact H2_) | (have H2_ := (Option.bind_some _ _).symm.trans H; with_reducible exact H2_) | with_reducible exact H | (rw [hy178]; exact H) | exact H
    have Ny178 := Aside0.mk hy178
    clear hy178
    replace H := Option.bind_eq_some_iff.mp H
    obtain ⟨⟨t181, t182⟩, A70, H⟩ := H
    try dsimp only at H
    have A7 := Aside0.mk A70
    clear A70
    have H' := Aside0.mk H
    clear H
    go_enter Tryd.func37, Tryd.ntmps37
    go_wp2_with (first | ((with_reducible refine gate_dst (N := 1) rfl ?_); refine bxE 1 #[.int .i64 a0_0, .slice A0_1 l0_1.length c0_1] 33 rfl ?_; intro gb173 hg w8 hbox hb; have BK173 := Aside0.mk (hbox); have GW173 := gS HB hg; have GE173 := gS HB hg; replace HB := hS HB hb; clear hb hbox hg; have hcz9_0 := cz BK173 0; have hcz9_1 := cz BK173 1; have hfz9_0 := fz BK173 0; have hfz9_1 := fz BK173 1) | ((with_reducible refine gate_callee (f := 49) rfl ?_); refine goC (N := some 13) Tryd.func49 #[.agg #[.int .i64 a0_0, .slice A0_1 l0_1.length c0_1]] rfl ?_; (with_reducible refine (spec_paGood.calls k a0_0 _ _ l0_1 true _ ?side1 ?side2 A2.out).mono ?_); (case side1 => exact cS (Kd.C_below HR0_1.out HB.out)); (case side2 => exact HC0_1.out); rintro e w10 ⟨rfl, hb⟩; refine ⟨_, rfl, ?_⟩; replace BK173 := bS BK173 hb; replace HB := hS HB hb; (try clear hb); (try clear hb2); (try clear hk); (try clear hi); have hcz11_0 := cz BK173 0; have hcz11_1 := cz BK173 1; have hfz11_0 := fz BK173 0; have hfz11_1 := fz BK173 1) | ((with_reducible refine gate_callee (f := 54) rfl ?_); refine goC (N := some 16) Tryd.func54 #[.agg #[.int .i64 a0_0, .slice A0_1 l0_1.length c0_1]] rfl ?_; (with_reducible refine (spec_paTable.calls k a0_0 _ _ l0_1 t175 _ ?side1 ?side2 A4.out).mono ?_); (case side1 => exact cS (Kd.C_below HR0_1.out HB.out)); (case side2 => exact HC0_1.out); rintro e w12 ⟨v176, rfl, ho0, hb⟩; refine ⟨_, rfl, ?_⟩; have HO177 := Aside0.mk (Kd.S_lower ho0 (below_size hB)); replace BK173 := bS BK173 hb; replace HB := hS HB hb; (try clear hb); (try clear hb2); (try clear hk); (try clear hi); (try clear ho0); have hcz13_0 := cz BK173 0; have hcz13_1 := cz BK173 1; have hfz13_0 := fz BK173 0; have hfz13_1 := fz BK173 1) | ((with_reducible refine gate_dst (N := 19) rfl ?_); refine Kd.R_make Kd.bool _ 4 rfl (N := 19) rfl 72 _ _ rfl a0_0 rfl rfl Tryd.underlying72 (.bool false) 1 info4 rfl (by decide) (by omega) false (ok := fun _ => True) (okp := fun _ => True) rfl (fun _ hk => hk) trivial (of_decide_eq_true (by first | (with_reducible assumption) | assumption)) (Nat.le_trans (Nat.mul_le_mul_right _ (of_decide_eq_true (by first | (with_reducible assumption) | assumption) : a0_0.toNat ≤ 281474976710656)) (by omega)) (Below.refl _ _) (Nat.le_refl _) ?_; intro v179 w14 ho15 hb hg_ hnew_; clear hg_ hnew_; (first | rw [← Ny178.out] at ho15 | (simp only [Int.reduceToNat] at ho15; rw [← Ny178.out] at ho15)); have HO180 := Aside0.mk (Kd.R_lower ho15 (below_size hB)); replace HO177 := Aside0.mk (Kd.S_elder' (sU HO177) (Kd.R_base ho15) hb); replace BK173 := bS BK173 hb; replace HB := hS HB hb; clear hb ho15; obtain ⟨Ao16, co16, eo16⟩ := Kd.S_slice HO177.out; subst eo16; obtain ⟨Ao17, co17, eo17⟩ := Kd.R_slice HO180.out; subst eo17) | ((with_reducible refine gate_callee (f := 86) rfl ?_); refine goC (N := some 22) Tryd.func86 #[.slice Ao16 t175.length co16, .slice Ao17 y178.length co17, .int .i64 0] rfl ?_; (with_reducible refine (spec_taMost.calls k _ _ t175 (fun k_ => some k_ = (.slice Ao17 y178.length co17 : Value).ownBlock) (.slice Ao17 y178.length co17) y178 0 t181 t182 w _ ?side1 ?side2 ?side3 ?side4 A7.out).mono ?_); (case side1 => repeat (first | (with_reducible first | exact HB.out | apply below_alloc | apply pw_below_drewN | apply below_drew1 | refine below_set ?_ GE173.out) | exact HB.out)); (case side2 => exact Kd.C_kept_own ((Kd.S_R HO177.out)) (fun k_ hk_ hs_ => pjn hk_ hs_)); (case side3 => exact (Kd.S_reads' HO177.out).2.1); (case side4 => exact Kd.R_tight rfl (rU HO180)); rintro e w18 ⟨rfl, hy0, hb, hkp⟩; refine ⟨_, rfl, ?_⟩; replace BK173 := Aside0.mk (blk_kept bK hkp (fun hs_ => (fun e_ => (Kd.R_ne HO180.out BK173.out (by decide)) e_) hs_)); replace HO177 := Aside0.mk (Kd.S_mono (ok' := fun k_ => some k_ ≠ (.slice Ao17 y178.length co17 : Value).ownBlock) (Kd.S_keptB (HO177.out) hkp (fun k_ hk_ hs_ => pjn hk_ hs_)) (fun k_ hk_ => pj hk_)); replace HO180 := Aside0.mk (Kd.R_reok rfl hy0 (fun k_ e_ => HO180.out.1 k_ e_)); replace HB := Aside0.mk (hb); (try clear hb); (try clear hkp); (try clear hy0); have hcz19_0 := cz BK173 0; have hcz19_1 := cz BK173 1; have hfz19_0 := fz BK173 0; have hfz19_1 := fz BK173 1))
    go_loopg [6, 7, 26] k (fun kq v6 v7 v26 w' => ∃ (x5_1 : List Bool) (x6_1 : List (S105)) (x7_1 : Int) (x26_1 : Int), v7 = .int .i64 x7_1 ∧ v26 = .int .i64 x26_1 ∧ Aside0 (spec_MostInPairs.l0 kq t175 x5_1 x6_1 x7_1 l0_1 (l0_1.length : Int) x26_1 = some (r1, r2)) ∧ Aside0 (kq ≤ k) ∧ Aside0 (Kd.S (Kd.slice 4 Kd.bool) 72 w' w.heap.size (fun k_ => some k_ ≠ ((.slice Ao17 y178.length co17) : Value).ownBlock) (.slice Ao16 t175.length co16) t175) ∧ Aside0 (Kd.R Kd.bool 4 w' w.heap.size (fun _ => True) (.slice Ao17 y178.length co17) x5_1) ∧ Aside0 (Kd.R k105 105 w' w.heap.size (fun _ => True) v6 x6_1) ∧ Aside0 (w'.heap[gb173]? = some (.cells #[.int .i64 a0_0, (.slice A0_1 l0_1.length c0_1)] 33 (0, 0))) ∧ Aside0 (Below w.heap.size w w'))
    case atStart => exact ⟨(t182), (([] : List (S105))), (t181), (0), (by first | rfl | (simp; done) | (simp [*]; done)), (by first | rfl | (simp; done) | (simp [*]; done)), H', ⟨Nat.le_refl _⟩, ⟨sU HO177⟩, ⟨rU HO180⟩, ⟨by first | exact Kd.R_nil _ _ _ _ _ | exact Kd.N_nil _ _ _ _ _ | exact Kd.V_nil _ _ _ _ _ | exact Kd.Q_nil _ _ _ _ _ | exact Kd.S_nil _ _ _ _ _⟩, ⟨bK⟩, ⟨hB⟩⟩
    case round =>
     clear H'
     try clear p2
     try clear c3
     try clear c4
     try clear c5
     try clear c5b0
     try clear c5b1
     try clear c6
     try clear c6b0
     try clear c6b1
     try clear c8
     try clear hcz11_0
     try clear hcz11_1
     try clear hcz13_0
     try clear hcz13_1
     try clear hcz19_0
     try clear hcz19_1
     try clear hcz9_0
     try clear hcz9_1
     try clear hfz11_0
     try clear hfz11_1
     try clear hfz13_0
     try clear hfz13_1
     try clear hfz19_0
     try clear hfz19_1
     try clear hfz9_0
     try clear hfz9_1
     obtain ⟨x5_1, x6_1, x7_1, x26_1, rfl, rfl, HA, HK1, HO_4, HO_5, HO_6, BK173, HB⟩ := hrel
     have hl5_1 := (Kd.R_reads' HO_5.out).1
     rw [hl5_1] at HO_5
     (try simp only [hl5_1])
     (try simp only [hl5_1] at BK173)
     (try simp only [hl5_1] at HO_4)
     (try simp only [hl5_1] at HO_6)
     cases gk with
     | zero => exact absurd HA.out (by simp [spec_MostInPairs.l0])
     | succ k1 =>
      have H := HA.out
      clear HA
      simp only [spec_MostInPairs.l0] at H
      by_cases c20 : x26_1 < (l0_1.length : Int)
      ·rw [if_pos c20] at H
       have c20b0 : decide (x26_1 < (l0_1.length : Int)) = true := decide_eq_true c20
       (try (have c20b0m := c20b0; simp only [hl5_1] at c20b0m))
       clear c20
       by_cases c21 : 0 ≤ x26_1
       ·rw [if_pos c21] at H
        have c21b0 : decide (0 ≤ x26_1) = true := decide_eq_true c21
        clear c21
        by_cases c22 : x26_1 < (l0_1.length : Int)
        ·rw [if_pos c22] at H
         have c22b0 : decide (x26_1 < (l0_1.length : Int)) = true := decide_eq_true c22
         (try (have c22b0m := c22b0; simp only [hl5_1] at c22b0m))
         clear c22
         have HC23 := Aside0.mk H
         clear H
         have p183 : 0 ≤ (x26_1 : Int) := of_decide_eq_true (by first | (with_reducible assumption) | assumption)
         have q183 : x26_1 < (l0_1.length : Int) := of_decide_eq_true (by first | (with_reducible assumption) | assumption)
         obtain ⟨ad183, e183, hx183_0, hx183_1⟩ := at_T105 HR0_1.out x26_1 p183 q183
         cases e183
         replace hx183_0 := (HB.out.cell (World.block_lt_of_cell? w _ hx183_0)).trans hx183_0
         replace hx183_1 := (HB.out.cell (World.block_lt_of_cell? w _ hx183_1)).trans hx183_1
         replace p183 := eq_true p183
         replace q183 := eq_true q183
         go_upto_region 10 with (first | ((with_reducible refine gate_dst (N := 9) rfl ?_); refine bxE 9 #[.int .i64 0, .int .i64 0] 105 rfl ?_; intro gb184 hg w24 hbox hb; have BK184 := Aside0.mk (hbox); have GW184 := gS HB hg; have GE184 := gS HB hg; have NB173_184 := nL BK173 hg; have NB184_173 := nG BK173 hg; replace HO_4 := Aside0.mk (Kd.S_below (sU HO_4) hb); replace HO_5 := Aside0.mk (Kd.R_below (rU HO_5) hb); replace HO_6 := Aside0.mk (Kd.R_below (Kd.R_elderB (rU HO_6) gb184 (Nat.le_of_eq hg.symm)) hb); replace BK173 := bS BK173 hb; replace HB := hS HB hb; clear hb hbox hg; have hnb25 := NB184_173.out; have hnc25 := NB173_184.out; have hcz26_0 := cz BK184 0; have hcz26_1 := cz BK184 1; have hfz26_0 := fz BK184 0; have hfz26_1 := fz BK184 1))
         (try simp only [Act.put, List.setIfInBounds_toArray, List.set_cons_zero, List.set_cons_succ])
         go_cut [45] (fun v45 wc => ∃ (kq : Nat) (x45_22 : Bool), v45 = .bool x45_22 ∧ Aside0 (spec_MostInPairs.j1 kq t175 x5_1 x6_1 x7_1 l0_1 (l0_1.length : Int) x26_1 x45_22 ((rd_T105 l0_1 x26_1).f0) ((rd_T105 l0_1 x26_1).f1) = some (r1, r2)) ∧ Aside0 (kq ≤ k1) ∧ Aside0 (Kd.S (Kd.slice 4 Kd.bool) 72 wc w.heap.size (fun k_ => some k_ ≠ ((.slice Ao17 x5_1.length co17) : Value).ownBlock) (.slice Ao16 t175.length co16) t175) ∧ Aside0 (Kd.R Kd.bool 4 wc w.heap.size (fun _ => True) (.slice Ao17 x5_1.length co17) x5_1) ∧ Aside0 (Kd.R k105 105 wc w.heap.size (fun k_ => k_ ≠ gb184) u6 x6_1) ∧ Aside0 (wc.heap[gb173]? = some (.cells #[.int .i64 a0_0, (.slice (some ad183) l0_1.length c0_1)] 33 (0, 0))) ∧ Aside0 (wc.heap[gb184]? = some (.cells #[.int .i64 ((rd_T105 l0_1 x26_1).f0), .int .i64 ((rd_T105 l0_1 x26_1).f1)] 105 (0, 0))) ∧ Aside0 (Below w.heap.size w wc))
         case first =>
          have H := HC23.out
          clear HC23
          by_cases c27 : x7_1 = 0
          ·rw [if_pos c27] at H
           have c27b0 : (x7_1 == 0) = true := beq_iff_eq.mpr c27
           have c27b1 : (x7_1 != 0) = false := bne_eq_false_iff_eq.mpr c27
           clear c27
           (first | rw [c27b0] | (simp only [i64_w, i32_w]; rw [c27b0]) | skip)
           have H' := Aside0.mk H
           clear H
           go_wp2
           go_meet
           case rel => exact ⟨_, (true), (by first | rfl | (simp; done) | (simp [*]; done)), H', ⟨by have := HK1.out; first | omega | exact Nat.le_refl _⟩, ⟨by (try simp only [hl5_1]); (with_reducible repeat (first | apply Kd.S_alloc | apply Kd.S_drewN | apply Kd.S_drew)); exact Kd.S_mono (Kd.S_far (p := ⟨gb184, 1, none⟩) (Kd.S_far (p := ⟨gb184, 0, none⟩) (Kd.S_types HO_4.out BK184.out (by decide)) (fun _ hk => hk.2) (.int .i64 ((rd_T105 l0_1 x26_1).f0))) (fun _ hk => hk.2) (.int .i64 ((rd_T105 l0_1 x26_1).f1))) (fun _ hk => hk.1)⟩, ⟨by (try simp only [hl5_1]); (with_reducible repeat (first | apply Kd.R_alloc | apply Kd.R_drewN | apply Kd.R_drew)); exact Kd.R_mono (Kd.R_far (p := ⟨gb184, 1, none⟩) (Kd.R_far (p := ⟨gb184, 0, none⟩) (Kd.R_types HO_5.out BK184.out (by decide)) (fun _ hk => hk.2) (.int .i64 ((rd_T105 l0_1 x26_1).f0))) (fun _ hk => hk.2) (.int .i64 ((rd_T105 l0_1 x26_1).f1))) (fun _ hk => trivial)⟩, ⟨by (try simp only [hl5_1]); (with_reducible repeat (first | apply Kd.R_alloc | apply Kd.R_drewN | apply Kd.R_drew)); exact Kd.R_mono (Kd.R_far (p := ⟨gb184, 1, none⟩) (Kd.R_far (p := ⟨gb184, 0, none⟩) (Kd.R_mono HO_6.out (fun k_ hk => (⟨hk, hk.2⟩ : _ ∧ k_ ≠ gb184))) (fun _ hk => hk.2) (.int .i64 ((rd_T105 l0_1 x26_1).f0))) (fun _ hk => hk.2) (.int .i64 ((rd_T105 l0_1 x26_1).f1))) (fun _ hk => hk.1.2)⟩, ⟨by (try simp only [hl5_1]); (with_reducible repeat (first | refine blk_drewN ?_ _ | refine blk_drew ?_ | refine blk_alloc ?_ _)); refine blk_far ?_ NB173_184.out _; (with_reducible repeat (first | refine blk_drewN ?_ _ | refine blk_drew ?_ | refine blk_alloc ?_ _)); refine blk_far ?_ NB173_184.out _; (with_reducible repeat (first | refine blk_drewN ?_ _ | refine blk_drew ?_ | refine blk_alloc ?_ _)); exact BK173.out⟩, ⟨by (try simp only [hl5_1]); (with_reducible repeat (first | refine blk_drewN ?_ _ | refine blk_drew ?_ | refine blk_alloc ?_ _)); refine blk_put (cs := #[.int .i64 ((rd_T105 l0_1 x26_1).f0), .int .i64 0]) ?_ 1 _ rfl; (with_reducible repeat (first | refine blk_drewN ?_ _ | refine blk_drew ?_ | refine blk_alloc ?_ _)); refine blk_put (cs := #[.int .i64 0, .int .i64 0]) ?_ 0 _ rfl; (with_reducible repeat (first | refine blk_drewN ?_ _ | refine blk_drew ?_ | refine blk_alloc ?_ _)); exact BK184.out⟩, ⟨hB⟩⟩
          ·rw [if_neg c27] at H
           have c27b0 : (x7_1 == 0) = false := beq_eq_false_iff_ne.mpr c27
           have c27b1 : (x7_1 != 0) = true := bne_iff_ne.mpr c27
           (first | rw [c27b0] | (simp only [i64_w, i32_w]; rw [c27b0]) | skip)
           by_cases c28 : 0 ≤ ((rd_T105 l0_1 x26_1).f0)
           ·rw [if_pos c28] at H
            have c28b0 : decide (0 ≤ ((rd_T105 l0_1 x26_1).f0)) = true := decide_eq_true c28
            clear c28
            by_cases c29 : ((rd_T105 l0_1 x26_1).f0) < (x5_1.length : Int)
            ·rw [if_pos c29] at H
             have c29b0 : decide (((rd_T105 l0_1 x26_1).f0) < (x5_1.length : Int)) = true := decide_eq_true c29
             (try (have c29b0m := c29b0; simp only [hl5_1] at c29b0m))
             clear c29
             obtain ⟨bq30, hbq30⟩ : ∃ b_ : Bool, b_ = (rdOf false x5_1 ((rd_T105 l0_1 x26_1).f0)) := ⟨_, rfl⟩
             replace H : (if bq30 = true then (spec_MostInPairs.j1 k1 t175 x5_1 x6_1 x7_1 l0_1 (l0_1.length : Int) x26_1 true ((rd_T105 l0_1 x26_1).f0) ((rd_T105 l0_1 x26_1).f1)) else (if 0 ≤ ((rd_T105 l0_1 x26_1).f1) then (if ((rd_T105 l0_1 x26_1).f1) < (x5_1.length : Int) then (spec_MostInPairs.j1 k1 t175 x5_1 x6_1 x7_1 l0_1 (l0_1.length : Int) x26_1 (rdOf false x5_1 ((rd_T105 l0_1 x26_1).f1)) ((rd_T105 l0_1 x26_1).f0) ((rd_T105 l0_1 x26_1).f1)) else (none)) else (none))) = some (r1, r2) := by rw [← hbq30] at H; exact H
             have Nbq30 := Aside0.mk hbq30
             clear hbq30
             by_cases c31 : bq30 = true
             ·subst c31
              rw [if_pos rfl] at H
              have H' := Aside0.mk H
              clear H
              have hnb32 := NB184_173.out
              have hnc32 := NB173_184.out
              have hcz33_0 := cz BK184 0
              have hcz33_1 := cz BK184 1
              have hfz33_0 := fz BK184 0
              have hfz33_1 := fz BK184 1
              have p185 : 0 ≤ (((rd_T105 l0_1 x26_1).f0) : Int) := of_decide_eq_true (by first | (with_reducible assumption) | assumption)
              have q185 : ((rd_T105 l0_1 x26_1).f0) < (x5_1.length : Int) := of_decide_eq_true (by first | (with_reducible assumption) | assumption)
              obtain ⟨ad185, e185, hx185_0⟩ := Kd.at_bool (Kd.R_reads' HO_5.out).2.2 ((rd_T105 l0_1 x26_1).f0) p185 q185
              (try rw [← Nbq30.out] at hx185_0)
              cases e185
              have hn185_0 : ad185.block ≠ gb184 := Kd.own_blk (Kd.R_ne HO_5.out BK184.out (by decide))
              have hn185_1 : ad185.block ≠ gb184 := Kd.own_blk (Kd.R_ne HO_5.out BK184.out (by decide))
              replace hx185_0 := (cell_far (p := ⟨gb184, 0, none⟩) (by first | (rw [add_block]; exact hn185_0) | (show (Addr.add _ _).block ≠ _; rw [add_block]; exact hn185_0) | exact hn185_0) (.int .i64 ((rd_T105 l0_1 x26_1).f0))).trans hx185_0
              replace hx185_0 := (cell_far (p := ⟨gb184, 1, none⟩) (by first | (rw [add_block]; exact hn185_1) | (show (Addr.add _ _).block ≠ _; rw [add_block]; exact hn185_1) | exact hn185_1) (.int .i64 ((rd_T105 l0_1 x26_1).f1))).trans hx185_0
              clear hn185_0
              clear hn185_1
              replace p185 := eq_true p185
              replace q185 := eq_true q185
              go_wp2
              go_meet
              case rel => exact ⟨_, (true), (by first | rfl | (simp; done) | (simp [*]; done)), H', ⟨by have := HK1.out; first | omega | exact Nat.le_refl _⟩, ⟨by (try simp only [hl5_1]); (with_reducible repeat (first | apply Kd.S_alloc | apply Kd.S_drewN | apply Kd.S_drew)); exact Kd.S_mono (Kd.S_far (p := ⟨gb184, 1, none⟩) (Kd.S_far (p := ⟨gb184, 0, none⟩) (Kd.S_types HO_4.out BK184.out (by decide)) (fun _ hk => hk.2) (.int .i64 ((rd_T105 l0_1 x26_1).f0))) (fun _ hk => hk.2) (.int .i64 ((rd_T105 l0_1 x26_1).f1))) (fun _ hk => hk.1)⟩, ⟨by (try simp only [hl5_1]); (with_reducible repeat (first | apply Kd.R_alloc | apply Kd.R_drewN | apply Kd.R_drew)); exact Kd.R_mono (Kd.R_far (p := ⟨gb184, 1, none⟩) (Kd.R_far (p := ⟨gb184, 0, none⟩) (Kd.R_types HO_5.out BK184.out (by decide)) (fun _ hk => hk.2) (.int .i64 ((rd_T105 l0_1 x26_1).f0))) (fun _ hk => hk.2) (.int .i64 ((rd_T105 l0_1 x26_1).f1))) (fun _ hk => trivial)⟩, ⟨by (try simp only [hl5_1]); (with_reducible repeat (first | apply Kd.R_alloc | apply Kd.R_drewN | apply Kd.R_drew)); exact Kd.R_mono (Kd.R_far (p := ⟨gb184, 1, none⟩) (Kd.R_far (p := ⟨gb184, 0, none⟩) (Kd.R_mono HO_6.out (fun k_ hk => (⟨hk, hk.2⟩ : _ ∧ k_ ≠ gb184))) (fun _ hk => hk.2) (.int .i64 ((rd_T105 l0_1 x26_1).f0))) (fun _ hk => hk.2) (.int .i64 ((rd_T105 l0_1 x26_1).f1))) (fun _ hk => hk.1.2)⟩, ⟨by (try simp only [hl5_1]); (with_reducible repeat (first | refine blk_drewN ?_ _ | refine blk_drew ?_ | refine blk_alloc ?_ _)); refine blk_far ?_ NB173_184.out _; (with_reducible repeat (first | refine blk_drewN ?_ _ | refine blk_drew ?_ | refine blk_alloc ?_ _)); refine blk_far ?_ NB173_184.out _; (with_reducible repeat (first | refine blk_drewN ?_ _ | refine blk_drew ?_ | refine blk_alloc ?_ _)); exact BK173.out⟩, ⟨by (try simp only [hl5_1]); (with_reducible repeat (first | refine blk_drewN ?_ _ | refine blk_drew ?_ | refine blk_alloc ?_ _)); refine blk_put (cs := #[.int .i64 ((rd_T105 l0_1 x26_1).f0), .int .i64 0]) ?_ 1 _ rfl; (with_reducible repeat (first | refine blk_drewN ?_ _ | refine blk_drew ?_ | refine blk_alloc ?_ _)); refine blk_put (cs := #[.int .i64 0, .int .i64 0]) ?_ 0 _ rfl; (with_reducible repeat (first | refine blk_drewN ?_ _ | refine blk_drew ?_ | refine blk_alloc ?_ _)); exact BK184.out⟩, ⟨hB⟩⟩
             ·replace c31 := Bool.eq_false_iff.mpr c31
              subst c31
              rw [if_neg (show ¬ (false = true) by decide)] at H
              by_cases c34 : 0 ≤ ((rd_T105 l0_1 x26_1).f1)
              ·rw [if_pos c34] at H
               have c34b0 : decide (0 ≤ ((rd_T105 l0_1 x26_1).f1)) = true := decide_eq_true c34
               clear c34
               by_cases c35 : ((rd_T105 l0_1 x26_1).f1) < (x5_1.length : Int)
               ·rw [if_pos c35] at H
                have c35b0 : decide (((rd_T105 l0_1 x26_1).f1) < (x5_1.length : Int)) = true := decide_eq_true c35
                (try (have c35b0m := c35b0; simp only [hl5_1] at c35b0m))
                clear c35
                have H' := Aside0.mk H
                clear H
                have hnb36 := NB184_173.out
                have hnc36 := NB173_184.out
                have hcz37_0 := cz BK184 0
                have hcz37_1 := cz BK184 1
                have hfz37_0 := fz BK184 0
                have hfz37_1 := fz BK184 1
                have p185 : 0 ≤ (((rd_T105 l0_1 x26_1).f0) : Int) := of_decide_eq_true (by first | (with_reducible assumption) | assumption)
                have q185 : ((rd_T105 l0_1 x26_1).f0) < (x5_1.length : Int) := of_decide_eq_true (by first | (with_reducible assumption) | assumption)
                obtain ⟨ad185, e185, hx185_0⟩ := Kd.at_bool (Kd.R_reads' HO_5.out).2.2 ((rd_T105 l0_1 x26_1).f0) p185 q185
                (try rw [← Nbq30.out] at hx185_0)
                cases e185
                have hn185_0 : ad185.block ≠ gb184 := Kd.own_blk (Kd.R_ne HO_5.out BK184.out (by decide))
                have hn185_1 : ad185.block ≠ gb184 := Kd.own_blk (Kd.R_ne HO_5.out BK184.out (by decide))
                replace hx185_0 := (cell_far (p := ⟨gb184, 0, none⟩) (by first | (rw [add_block]; exact hn185_0) | (show (Addr.add _ _).block ≠ _; rw [add_block]; exact hn185_0) | exact hn185_0) (.int .i64 ((rd_T105 l0_1 x26_1).f0))).trans hx185_0
                replace hx185_0 := (cell_far (p := ⟨gb184, 1, none⟩) (by first | (rw [add_block]; exact hn185_1) | (show (Addr.add _ _).block ≠ _; rw [add_block]; exact hn185_1) | exact hn185_1) (.int .i64 ((rd_T105 l0_1 x26_1).f1))).trans hx185_0
                clear hn185_0
                clear hn185_1
                replace p185 := eq_true p185
                replace q185 := eq_true q185
                have p186 : 0 ≤ (((rd_T105 l0_1 x26_1).f1) : Int) := of_decide_eq_true (by first | (with_reducible assumption) | assumption)
                have q186 : ((rd_T105 l0_1 x26_1).f1) < (x5_1.length : Int) := of_decide_eq_true (by first | (with_reducible assumption) | assumption)
                obtain ⟨ad186, e186, hx186_0⟩ := Kd.at_bool (Kd.R_reads' HO_5.out).2.2 ((rd_T105 l0_1 x26_1).f1) p186 q186
                (try rw [← Nbq30.out] at hx186_0)
                obtain rfl : ad185 = ad186 := (by injection e186)
                have hn186_0 : ad185.block ≠ gb184 := Kd.own_blk (Kd.R_ne HO_5.out BK184.out (by decide))
                have hn186_1 : ad185.block ≠ gb184 := Kd.own_blk (Kd.R_ne HO_5.out BK184.out (by decide))
                replace hx186_0 := (cell_far (p := ⟨gb184, 0, none⟩) (by first | (rw [add_block]; exact hn186_0) | (show (Addr.add _ _).block ≠ _; rw [add_block]; exact hn186_0) | exact hn186_0) (.int .i64 ((rd_T105 l0_1 x26_1).f0))).trans hx186_0
                replace hx186_0 := (cell_far (p := ⟨gb184, 1, none⟩) (by first | (rw [add_block]; exact hn186_1) | (show (Addr.add _ _).block ≠ _; rw [add_block]; exact hn186_1) | exact hn186_1) (.int .i64 ((rd_T105 l0_1 x26_1).f1))).trans hx186_0
                clear hn186_0
                clear hn186_1
                replace p186 := eq_true p186
                replace q186 := eq_true q186
                go_wp2
                go_meet
                case rel => exact ⟨_, (rdOf false x5_1 ((rd_T105 l0_1 x26_1).f1)), (by first | rfl | (simp; done) | (simp [*]; done)), H', ⟨by have := HK1.out; first | omega | exact Nat.le_refl _⟩, ⟨by (try simp only [hl5_1]); (with_reducible repeat (first | apply Kd.S_alloc | apply Kd.S_drewN | apply Kd.S_drew)); exact Kd.S_mono (Kd.S_far (p := ⟨gb184, 1, none⟩) (Kd.S_far (p := ⟨gb184, 0, none⟩) (Kd.S_types HO_4.out BK184.out (by decide)) (fun _ hk => hk.2) (.int .i64 ((rd_T105 l0_1 x26_1).f0))) (fun _ hk => hk.2) (.int .i64 ((rd_T105 l0_1 x26_1).f1))) (fun _ hk => hk.1)⟩, ⟨by (try simp only [hl5_1]); (with_reducible repeat (first | apply Kd.R_alloc | apply Kd.R_drewN | apply Kd.R_drew)); exact Kd.R_mono (Kd.R_far (p := ⟨gb184, 1, none⟩) (Kd.R_far (p := ⟨gb184, 0, none⟩) (Kd.R_types HO_5.out BK184.out (by decide)) (fun _ hk => hk.2) (.int .i64 ((rd_T105 l0_1 x26_1).f0))) (fun _ hk => hk.2) (.int .i64 ((rd_T105 l0_1 x26_1).f1))) (fun _ hk => trivial)⟩, ⟨by (try simp only [hl5_1]); (with_reducible repeat (first | apply Kd.R_alloc | apply Kd.R_drewN | apply Kd.R_drew)); exact Kd.R_mono (Kd.R_far (p := ⟨gb184, 1, none⟩) (Kd.R_far (p := ⟨gb184, 0, none⟩) (Kd.R_mono HO_6.out (fun k_ hk => (⟨hk, hk.2⟩ : _ ∧ k_ ≠ gb184))) (fun _ hk => hk.2) (.int .i64 ((rd_T105 l0_1 x26_1).f0))) (fun _ hk => hk.2) (.int .i64 ((rd_T105 l0_1 x26_1).f1))) (fun _ hk => hk.1.2)⟩, ⟨by (try simp only [hl5_1]); (with_reducible repeat (first | refine blk_drewN ?_ _ | refine blk_drew ?_ | refine blk_alloc ?_ _)); refine blk_far ?_ NB173_184.out _; (with_reducible repeat (first | refine blk_drewN ?_ _ | refine blk_drew ?_ | refine blk_alloc ?_ _)); refine blk_far ?_ NB173_184.out _; (with_reducible repeat (first | refine blk_drewN ?_ _ | refine blk_drew ?_ | refine blk_alloc ?_ _)); exact BK173.out⟩, ⟨by (try simp only [hl5_1]); (with_reducible repeat (first | refine blk_drewN ?_ _ | refine blk_drew ?_ | refine blk_alloc ?_ _)); refine blk_put (cs := #[.int .i64 ((rd_T105 l0_1 x26_1).f0), .int .i64 0]) ?_ 1 _ rfl; (with_reducible repeat (first | refine blk_drewN ?_ _ | refine blk_drew ?_ | refine blk_alloc ?_ _)); refine blk_put (cs := #[.int .i64 0, .int .i64 0]) ?_ 0 _ rfl; (with_reducible repeat (first | refine blk_drewN ?_ _ | refine blk_drew ?_ | refine blk_alloc ?_ _)); exact BK184.out⟩, ⟨hB⟩⟩
               ·rw [if_neg c35] at H
                exact absurd H (by simp)
              ·rw [if_neg c34] at H
               exact absurd H (by simp)
            ·rw [if_neg c29] at H
             exact absurd H (by simp)
           ·rw [if_neg c28] at H
            exact absurd H (by simp)
         case rest =>
          clear HC23
          try clear p1
          try clear q1
          try clear hx1
          try clear c2
          try clear p2
          try clear c3
          try clear q3
          try clear c4
          try clear c5
          try clear c5b0
          try clear c5b1
          try clear c6
          try clear c6b0
          try clear c6b1
          try clear c8
          try clear p18
          try clear q18
          try clear hx18
          try clear c20
          try clear c20b0
          try clear c21
          try clear c21b0
          try clear c22
          try clear c22b0
          try clear c25
          try clear c27
          try clear c27b0
          try clear c27b1
          try clear c28
          try clear c28b0
          try clear c29
          try clear c29b0
          try clear q30
          try clear c31
          try clear c32
          try clear c34
          try clear c34b0
          try clear c35
          try clear c35b0
          try clear c36
          try clear c37
          try clear hcz11_0
          try clear hcz11_1
          try clear hcz13_0
          try clear hcz13_1
          try clear hcz19_0
          try clear hcz19_1
          try clear hcz26_0
          try clear hcz26_1
          try clear hcz33_0
          try clear hcz33_1
          try clear hcz37_0
          try clear hcz37_1
          try clear hcz9_0
          try clear hcz9_1
          try clear hfz11_0
          try clear hfz11_1
          try clear hfz13_0
          try clear hfz13_1
          try clear hfz19_0
          try clear hfz19_1
          try clear hfz26_0
          try clear hfz26_1
          try clear hfz33_0
          try clear hfz33_1
          try clear hfz37_0
          try clear hfz37_1
          try clear hfz9_0
          try clear hfz9_1
          try clear hx183_0
          try clear hx183_1
          try clear hx185_0
          try clear hx186_0
          try clear p183
          try clear p185
          try clear p186
          try clear p2
          try clear q183
          try clear q185
          try clear q186
          obtain ⟨kq, x45_22, rfl, HA, HJ22, HO_4, HO_5, HO_6, BK173, BK184, HB⟩ := hcut
          cases kq with
          | zero => exact absurd HA.out (by simp [spec_MostInPairs.j1])
          | succ kj22 =>
           have H := HA.out
           clear HA
           simp only [spec_MostInPairs.j1] at H
           by_cases c38 : x45_22 = true
           ·subst c38
            rw [if_pos rfl] at H
            have H' := Aside0.mk H
            clear H
            go_wp2
            (try simp only [← hl5_1])
            go_roundg kj22
            case measure => have := HK1.out; have := HJ22.out; omega
            case rel => exact ⟨(x5_1), (x6_1), (x7_1), (wrap64 (x26_1 + 1)), (by first | rfl | (simp; done) | (simp [*]; done)), (by first | rfl | (simp; done) | (simp [*]; done)), H', ⟨by have := HK1.out; have := HJ22.out; omega⟩, ⟨by (try simp only [hl5_1]); (with_reducible repeat (first | apply Kd.S_alloc | apply Kd.S_drewN | apply Kd.S_drew)); exact HO_4.out⟩, ⟨by (try simp only [hl5_1]); (with_reducible repeat (first | apply Kd.R_alloc | apply Kd.R_drewN | apply Kd.R_drew)); exact HO_5.out⟩, ⟨by (try simp only [hl5_1]); (with_reducible repeat (first | apply Kd.R_alloc | apply Kd.R_drewN | apply Kd.R_drew)); exact Kd.R_mono HO_6.out (fun _ hk => trivial)⟩, ⟨by (try simp only [hl5_1]); (with_reducible repeat (first | refine blk_drewN ?_ _ | refine blk_drew ?_ | refine blk_alloc ?_ _)); exact BK173.out⟩, ⟨hB⟩⟩
           ·replace c38 := Bool.eq_false_iff.mpr c38
            subst c38
            rw [if_neg (show ¬ (false = true) by decide)] at H
            obtain ⟨y187, hy187⟩ : ∃ y_ : List Bool, y_ = (([] : List Bool)) := ⟨_, rfl⟩
            replace H : (if y187.length + x5_1.length < 140737488355328 then ((some (y187 ++ x5_1 : List Bool)).bind fun y190 => (if 0 ≤ ((rd_T105 l0_1 x26_1).f0) then (if ((rd_T105 l0_1 x26_1).f0) < (y190.length : Int) then (if 0 ≤ ((rd_T105 l0_1 x26_1).f1) then (if ((rd_T105 l0_1 x26_1).f1) < (y190.length : Int) then (spec_MostInPairs.l1 kj22 t175 x5_1 x6_1 x7_1 ((y190.set (((rd_T105 l0_1 x26_1).f0) : Int).toNat true).set (((rd_T105 l0_1 x26_1).f1) : Int).toNat true) 0 l0_1 (l0_1.length : Int) x26_1 ((rd_T105 l0_1 x26_1).f0) ((rd_T105 l0_1 x26_1).f1)) else (none)) else (none)) else (none)) else (none))) else (none)) = some (r1, r2) := by first | (rw [hy187]; with_reducible exact H) | (have H2_ := (Option.bind_some _ _).symm.trans H; rw [hy187]; with_reducible exact H2_) | (have H2_ := (Option.bind_some _ _).symm.trans H; with_reducible exact H2_) | with_reducible exact H | (rw [hy187]; exact H) | exact H
            have Ny187 := Aside0.mk hy187
            clear hy187
            by_cases c39 : y187.length + x5_1.length < 140737488355328
            ·rw [if_pos c39] at H
             have LMc39 := Aside0.mk c39
             clear c39
             obtain ⟨y190, hy190⟩ : ∃ y_ : List Bool, y_ = (y187 ++ x5_1) := ⟨_, rfl⟩
             replace H : (if 0 ≤ ((rd_T105 l0_1 x26_1).f0) then (if ((rd_T105 l0_1 x26_1).f0) < (y190.length : Int) then (if 0 ≤ ((rd_T105 l0_1 x26_1).f1) then (if ((rd_T105 l0_1 x26_1).f1) < (y190.length : Int) then (spec_MostInPairs.l1 kj22 t175 x5_1 x6_1 x7_1 ((y190.set (((rd_T105 l0_1 x26_1).f0) : Int).toNat true).set (((rd_T105 l0_1 x26_1).f1) : Int).toNat true) 0 l0_1 (l0_1.length : Int) x26_1 ((rd_T105 l0_1 x26_1).f0) ((rd_T105 l0_1 x26_1).f1)) else (none)) else (none)) else (none)) else (none)) = some (r1, r2) := by first | (rw [hy190]; with_reducible exact H) | (have H2_ := (Option.bind_some _ _).symm.trans H; rw [hy190]; with_reducible exact H2_) | (have H2_ := (Option.bind_some _ _).symm.trans H; with_reducible exact H2_) | with_reducible exact H | (rw [hy190]; exact H) | exact H
             have Ny190 := Aside0.mk hy190
             clear hy190
             by_cases c40 : 0 ≤ ((rd_T105 l0_1 x26_1).f0)
             ·rw [if_pos c40] at H
              have c40b0 : decide (0 ≤ ((rd_T105 l0_1 x26_1).f0)) = true := decide_eq_true c40
              clear c40
              by_cases c41 : ((rd_T105 l0_1 x26_1).f0) < (y190.length : Int)
              ·rw [if_pos c41] at H
               have c41b0 : decide (((rd_T105 l0_1 x26_1).f0) < (y190.length : Int)) = true := decide_eq_true c41
               (try (have c41b0m := c41b0; simp only [hl5_1] at c41b0m))
               clear c41
               obtain ⟨y193, hy193⟩ : ∃ y_ : List Bool, y_ = (y190.set (((rd_T105 l0_1 x26_1).f0) : Int).toNat true) := ⟨_, rfl⟩
               replace H : (if 0 ≤ ((rd_T105 l0_1 x26_1).f1) then (if ((rd_T105 l0_1 x26_1).f1) < (y190.length : Int) then (spec_MostInPairs.l1 kj22 t175 x5_1 x6_1 x7_1 (y193.set (((rd_T105 l0_1 x26_1).f1) : Int).toNat true) 0 l0_1 (l0_1.length : Int) x26_1 ((rd_T105 l0_1 x26_1).f0) ((rd_T105 l0_1 x26_1).f1)) else (none)) else (none)) = some (r1, r2) := by first | (rw [hy193]; with_reducible exact H) | (have H2_ := (Option.bind_some _ _).symm.trans H; rw [hy193]; with_reducible exact H2_) | (have H2_ := (Option.bind_some _ _).symm.trans H; with_reducible exact H2_) | with_reducible exact H | (rw [hy193]; exact H) | exact H
               have Ny193 := Aside0.mk hy193
               clear hy193
               by_cases c43 : 0 ≤ ((rd_T105 l0_1 x26_1).f1)
               ·rw [if_pos c43] at H
                have c43b0 : decide (0 ≤ ((rd_T105 l0_1 x26_1).f1)) = true := decide_eq_true c43
                clear c43
                by_cases c44 : ((rd_T105 l0_1 x26_1).f1) < (y190.length : Int)
                ·rw [if_pos c44] at H
                 have c44b0 : decide (((rd_T105 l0_1 x26_1).f1) < (y190.length : Int)) = true := decide_eq_true c44
                 (try (have c44b0m := c44b0; simp only [hl5_1] at c44b0m))
                 clear c44
                 obtain ⟨y194, hy194⟩ : ∃ y_ : List Bool, y_ = (y193.set (((rd_T105 l0_1 x26_1).f1) : Int).toNat true) := ⟨_, rfl⟩
                 replace H : (spec_MostInPairs.l1 kj22 t175 x5_1 x6_1 x7_1 y194 0 l0_1 (l0_1.length : Int) x26_1 ((rd_T105 l0_1 x26_1).f0) ((rd_T105 l0_1 x26_1).f1)) = some (r1, r2) := by first | (rw [hy194]; with_reducible exact H) | (have H2_ := (Option.bind_some _ _).symm.trans H; rw [hy194]; with_reducible exact H2_) | (have H2_ := (Option.bind_some _ _).symm.trans H; with_reducible exact H2_) | with_reducible exact H | (rw [hy194]; exact H) | exact H
                 have Ny194 := Aside0.mk hy194
                 clear hy194
                 have H' := Aside0.mk H
                 clear H
                 go_wp2_with (first | ((with_reducible refine gate_dst (N := 46) rfl ?_); refine Kd.R_lit Kd.bool _ 4 ?hg (N := 46) ?hd (xs := ([] : List Bool)) (inner := []) (ok := fun _ => True) (okp := fun _ => True) ?hr ?hp (fun _ hk => hk) trivial (Below.refl _ _) (Nat.le_refl _) (by simp) ?_; (case hd => rfl); (case hg => rfl); (case hr => first | (go_simp; done) | (go_simp; rfl)); (case hp => exact (Reps.none _ _)); intro v188 w46 ho47 hb hg_ hnew_; clear hg_ hnew_; (first | rw [← Ny187.out] at ho47 | (simp only [Int.reduceToNat] at ho47; rw [← Ny187.out] at ho47)); have HO189 := Aside0.mk (Kd.R_lower (Kd.R_new' ho47 (Kd.R_lt (rU HO_5))) (below_size hB)); replace HO_4 := Aside0.mk (Kd.S_elder' (sU HO_4) (Kd.R_base ho47) hb); replace HO_5 := Aside0.mk (Kd.R_elder' (rU HO_5) (Kd.R_base ho47) hb); replace HO_6 := Aside0.mk (Kd.R_below (rU HO_6) hb); replace BK173 := bS BK173 hb; replace BK184 := bS BK184 hb; replace HB := hS HB hb; clear hb ho47) | ((with_reducible refine gate_builtin (b := .append) (xs := #[.tmp 46, .tmp 47]) rfl ?_); at_builtin; refine Kd.R_append_rows Kd.bool (w0 := w) w.heap.size rfl (.tmp 46) (.tmp 47) 72 4 (.bool false) 1 rfl Tryd.underlying72 info4 rfl (by decide) (by omega) v188 y187 x5_1 _ _ _ (fun k_ => some k_ ≠ (.slice Ao17 x5_1.length co17 : Value).ownBlock) (fun _ => False) rfl rfl ?aO ?aR (fun _ _ h => h) (fun _ h => h.elim) ?aF ?aB ?aS ?aL ?_; (case aR => repeat (first | exact (Kd.R_reads' HO_5.out).2.2 | (with_reducible refine Kd.C_alloc ?_ _) | (with_reducible refine Kd.C_drewN ?_ _) | (with_reducible refine Kd.C_drew ?_))); (case aB => exact hB); (case aF => exact (fun k_ hk => Kd.fresh' (Kd.R_lt (rU HO_5)) k_ hk)); (case aO => exact (by (with_reducible repeat (first | apply Kd.R_alloc | apply Kd.R_drewN | apply Kd.R_drew)); exact Kd.R_mono HO189.out (fun _ hk => hk.2))); (case aS => exact (below_size hB)); (case aL => have := LMc39.out; omega); intro v191 w48 ho hb hg hat; rw [← Ny190.out] at ho; have n0_ := Aside0.mk (Kd.S_after (ok := (fun k_ => some k_ ≠ (.slice Ao17 x5_1.length co17 : Value).ownBlock)) (sU HO_4) hg hat); have n1_ := Aside0.mk (Kd.R_after (ok := (fun _ => True)) (rU HO_5) hg hat); have n2_ := Aside0.mk (Kd.R_over' (rU HO_6) (Kd.R_typed (rU HO189)) (by decide) hg); have n3_ := Aside0.mk (blk_grown (g := gb173) (o := .cells #[.int .i64 a0_0, .slice (some ad183) l0_1.length c0_1] 33 (0, 0)) bK hg (Kd.R_ne HO189.out BK173.out (by decide))); have n4_ := Aside0.mk (blk_grown (g := gb184) (o := .cells #[.int .i64 ((rd_T105 l0_1 x26_1).f0), .int .i64 ((rd_T105 l0_1 x26_1).f1)] 105 (0, 0)) bK hg (Kd.R_ne HO189.out BK184.out (by decide))); have n5_ := Aside0.mk (hb); have n6_ := Aside0.mk (ho); clear HO_4; clear HO_5; clear HO_6; clear BK173; clear BK184; clear HB; clear HO189; have HO_4 := n0_; have HO_5 := n1_; have HO_6 := n2_; have BK173 := n3_; have BK184 := n4_; have HB := n5_; have HO192 := n6_; clear n0_ n1_ n2_ n3_ n4_ n5_ n6_; clear ho hb hg hat; have hnb49 := NB184_173.out; have hnc49 := NB173_184.out; have hcz50_0 := cz BK184 0; have hcz50_1 := cz BK184 1; have hfz50_0 := fz BK184 0; have hfz50_1 := fz BK184 1; have p42 : 0 ≤ (((rd_T105 l0_1 x26_1).f0) : Int) := of_decide_eq_true (by first | (with_reducible assumption) | assumption); have q42 : (((rd_T105 l0_1 x26_1).f0) : Int) < ((y190.length : Int) : Int) := of_decide_eq_true (by first | (with_reducible assumption) | assumption); obtain ⟨go42, co42, eo42, gb42, gl42, cl42, HG42⟩ := Kd.R_form HO192.out (by omega); (first | cases eo42 | (injection eo42 with ea_ en_ ec_; (first | subst ea_ | (injection ea_ with ea_; subst ea_)); subst ec_; clear en_)); have GB42 := Aside0.mk gb42; have GG42 := Aside0.mk HG42; clear gb42 gl42 HG42; obtain ⟨hx42_0, hf42_0⟩ := Kd.R_celln false HO192.out (((rd_T105 l0_1 x26_1).f0) : Int) p42 q42; replace p42 := eq_true p42; replace q42 := eq_true q42; obtain ⟨hy51_, hz51_⟩ := Kd.R_celln false HO192.out (((rd_T105 l0_1 x26_1).f0) : Int) (of_decide_eq_true (by first | (with_reducible assumption) | assumption)) (of_decide_eq_true (by first | (with_reducible assumption) | assumption)); have HP51 := Kd.R_putg HO192.out (((rd_T105 l0_1 x26_1).f0) : Int) true) | ((with_reducible refine gate_store (t := 4) (p := 52) rfl ?_); refine store_event (t := 4) (p := 52) (v := ?vo_w52) (w1 := (w48.setCell ⟨go42, (((rd_T105 l0_1 x26_1).f0) : Int).toNat, none⟩ (.bool true))) ?hg ?ho ?hn ?hr ?_; (case ho => rfl); (case hg => rfl); (case hn => rfl); (case hr => first | (go_simp; done) | (go_simp; rfl)); intro w52 hw; have hg : w48.grownBy w52 (some go42) := (by rw [hw]; exact HP51.2); have hp_ : Kd.R Kd.bool 4 w52 w.heap.size (fun k_ => some k_ ≠ (.slice Ao17 x5_1.length co17 : Value).ownBlock) (.slice (some ⟨go42, 0, none⟩) y190.length co42) y193 := (by rw [hw, Ny193.out]; exact HP51.1); clear HP51; have n0_ := Aside0.mk (Kd.S_after (v := (.slice (some ⟨go42, 0, none⟩) y190.length co42)) (v1 := (.slice (some ⟨go42, 0, none⟩) y190.length co42)) (ok := (fun k_ => some k_ ≠ (.slice Ao17 x5_1.length co17 : Value).ownBlock)) (sU HO_4) hg (.inl rfl)); have n1_ := Aside0.mk (Kd.R_after (v := (.slice (some ⟨go42, 0, none⟩) y190.length co42)) (v1 := (.slice (some ⟨go42, 0, none⟩) y190.length co42)) (ok := (fun _ => True)) (rU HO_5) hg (.inl rfl)); have n2_ := Aside0.mk (Kd.R_over' (v := (.slice (some ⟨go42, 0, none⟩) y190.length co42)) (rU HO_6) (Kd.R_typed HO192.out) (by decide) hg); have n3_ := Aside0.mk (blk_grown (g := gb173) (o := .cells #[.int .i64 a0_0, .slice (some ad183) l0_1.length c0_1] 33 (0, 0)) bK hg (Kd.R_ne HO192.out BK173.out (by decide))); have n4_ := Aside0.mk (blk_grown (g := gb184) (o := .cells #[.int .i64 ((rd_T105 l0_1 x26_1).f0), .int .i64 ((rd_T105 l0_1 x26_1).f1)] 105 (0, 0)) bK hg (Kd.R_ne HO192.out BK184.out (by decide))); have n5_ := Aside0.mk (hp_); have n6_ := Aside0.mk ((by rw [hw]; exact below_set (HB.out) GB42.out : Below w.heap.size w w52)); clear HO_4; clear HO_5; clear HO_6; clear BK173; clear BK184; clear HO192; clear HB; have HO_4 := n0_; have HO_5 := n1_; have HO_6 := n2_; have BK173 := n3_; have BK184 := n4_; have HO192 := n5_; have HB := n6_; clear n0_ n1_ n2_ n3_ n4_ n5_ n6_; clear hg hw hp_; have hcz53_0 := cz BK184 0; have hcz53_1 := cz BK184 1; have hfz53_0 := fz BK184 0; have hfz53_1 := fz BK184 1; have p45 : 0 ≤ (((rd_T105 l0_1 x26_1).f1) : Int) := of_decide_eq_true (by first | (with_reducible assumption) | assumption); have q45 : (((rd_T105 l0_1 x26_1).f1) : Int) < ((y190.length : Int) : Int) := of_decide_eq_true (by first | (with_reducible assumption) | assumption); obtain ⟨hx45_0, hf45_0⟩ := Kd.R_celln false HO192.out (((rd_T105 l0_1 x26_1).f1) : Int) p45 q45; replace p45 := eq_true p45; replace q45 := eq_true q45; obtain ⟨hy54_, hz54_⟩ := Kd.R_celln false HO192.out (((rd_T105 l0_1 x26_1).f1) : Int) (of_decide_eq_true (by first | (with_reducible assumption) | assumption)) (of_decide_eq_true (by first | (with_reducible assumption) | assumption)); have HP54 := Kd.R_putg HO192.out (((rd_T105 l0_1 x26_1).f1) : Int) true) | ((with_reducible refine gate_store (t := 4) (p := 56) rfl ?_); refine store_event (t := 4) (p := 56) (v := ?vo_w55) (w1 := (w52.setCell ⟨go42, (((rd_T105 l0_1 x26_1).f1) : Int).toNat, none⟩ (.bool true))) ?hg ?ho ?hn ?hr ?_; (case ho => rfl); (case hg => rfl); (case hn => rfl); (case hr => first | (go_simp; done) | (go_simp; rfl)); intro w55 hw; have hg : w52.grownBy w55 (some go42) := (by rw [hw]; exact HP54.2); have hp_ : Kd.R Kd.bool 4 w55 w.heap.size (fun k_ => some k_ ≠ (.slice Ao17 x5_1.length co17 : Value).ownBlock) (.slice (some ⟨go42, 0, none⟩) y190.length co42) y194 := (by rw [hw, Ny194.out]; exact HP54.1); clear HP54; have n0_ := Aside0.mk (Kd.S_after (v := (.slice (some ⟨go42, 0, none⟩) y190.length co42)) (v1 := (.slice (some ⟨go42, 0, none⟩) y190.length co42)) (ok := (fun k_ => some k_ ≠ (.slice Ao17 x5_1.length co17 : Value).ownBlock)) (sU HO_4) hg (.inl rfl)); have n1_ := Aside0.mk (Kd.R_after (v := (.slice (some ⟨go42, 0, none⟩) y190.length co42)) (v1 := (.slice (some ⟨go42, 0, none⟩) y190.length co42)) (ok := (fun _ => True)) (rU HO_5) hg (.inl rfl)); have n2_ := Aside0.mk (Kd.R_over' (v := (.slice (some ⟨go42, 0, none⟩) y190.length co42)) (rU HO_6) (Kd.R_typed HO192.out) (by decide) hg); have n3_ := Aside0.mk (blk_grown (g := gb173) (o := .cells #[.int .i64 a0_0, .slice (some ad183) l0_1.length c0_1] 33 (0, 0)) bK hg (Kd.R_ne HO192.out BK173.out (by decide))); have n4_ := Aside0.mk (blk_grown (g := gb184) (o := .cells #[.int .i64 ((rd_T105 l0_1 x26_1).f0), .int .i64 ((rd_T105 l0_1 x26_1).f1)] 105 (0, 0)) bK hg (Kd.R_ne HO192.out BK184.out (by decide))); have n5_ := Aside0.mk (hp_); have n6_ := Aside0.mk ((by rw [hw]; exact below_set (HB.out) GB42.out : Below w.heap.size w w55)); clear HO_4; clear HO_5; clear HO_6; clear BK173; clear BK184; clear HO192; clear HB; have HO_4 := n0_; have HO_5 := n1_; have HO_6 := n2_; have BK173 := n3_; have BK184 := n4_; have HO192 := n5_; have HB := n6_; clear n0_ n1_ n2_ n3_ n4_ n5_ n6_; clear hg hw hp_))
                 go_loopg [11] kj22 (fun kq v11 w' => ∃ (x10_3 : List Bool) (x11_3 : Int), v11 = .int .i64 x11_3 ∧ Aside0 (spec_MostInPairs.l1 kq t175 x5_1 x6_1 x7_1 x10_3 x11_3 l0_1 (l0_1.length : Int) x26_1 ((rd_T105 l0_1 x26_1).f0) ((rd_T105 l0_1 x26_1).f1) = some (r1, r2)) ∧ Aside0 (kq ≤ kj22) ∧ Aside0 (Kd.S (Kd.slice 4 Kd.bool) 72 w' w.heap.size (fun k_ => some k_ ≠ ((.slice Ao17 x5_1.length co17) : Value).ownBlock ∧ some k_ ≠ ((.slice (some ⟨go42, 0, none⟩) y190.length co42) : Value).ownBlock) (.slice Ao16 t175.length co16) t175) ∧ Aside0 (Kd.R Kd.bool 4 w' w.heap.size (fun k_ => some k_ ≠ ((.slice (some ⟨go42, 0, none⟩) y190.length co42) : Value).ownBlock) (.slice Ao17 x5_1.length co17) x5_1) ∧ Aside0 (Kd.R k105 105 w' w.heap.size (fun k_ => k_ ≠ gb184) u6 x6_1) ∧ Aside0 (Kd.R Kd.bool 4 w' w.heap.size (fun k_ => some k_ ≠ ((.slice Ao17 x5_1.length co17) : Value).ownBlock) (.slice (some ⟨go42, 0, none⟩) y190.length co42) x10_3) ∧ Aside0 (w'.heap[gb173]? = some (.cells #[.int .i64 a0_0, (.slice (some ad183) l0_1.length c0_1)] 33 (0, 0))) ∧ Aside0 (w'.heap[gb184]? = some (.cells #[.int .i64 ((rd_T105 l0_1 x26_1).f0), .int .i64 ((rd_T105 l0_1 x26_1).f1)] 105 (0, 0))) ∧ Aside0 (Below w.heap.size w w'))
                 case atStart => exact ⟨(y194), (0), (by first | rfl | (simp; done) | (simp [*]; done)), H', ⟨Nat.le_refl _⟩, ⟨by (try simp only [hl5_1]); (with_reducible repeat (first | apply Kd.S_alloc | apply Kd.S_drewN | apply Kd.S_drew)); exact HO_4.out⟩, ⟨by (try simp only [hl5_1]); (with_reducible repeat (first | apply Kd.R_alloc | apply Kd.R_drewN | apply Kd.R_drew)); exact Kd.R_mono HO_5.out (fun _ hk => hk.2)⟩, ⟨by (try simp only [hl5_1]); (with_reducible repeat (first | apply Kd.R_alloc | apply Kd.R_drewN | apply Kd.R_drew)); exact HO_6.out⟩, ⟨by (try simp only [hl5_1]); (with_reducible repeat (first | apply Kd.R_alloc | apply Kd.R_drewN | apply Kd.R_drew)); exact HO192.out⟩, ⟨by (try simp only [hl5_1]); (with_reducible repeat (first | refine blk_drewN ?_ _ | refine blk_drew ?_ | refine blk_alloc ?_ _)); exact BK173.out⟩, ⟨by (try simp only [hl5_1]); (with_reducible repeat (first | refine blk_drewN ?_ _ | refine blk_drew ?_ | refine blk_alloc ?_ _)); exact BK184.out⟩, ⟨hB⟩⟩
                 case round =>
                  clear H'
                  try clear p1
                  try clear q1
                  try clear hx1
                  try clear c2
                  try clear p2
                  try clear c3
                  try clear q3
                  try clear c4
                  try clear p4
                  try clear q4
                  try clear hx4
                  try clear hf4
                  try clear c5
                  try clear c5b0
                  try clear c5b1
                  try clear c6
                  try clear c6b0
                  try clear c6b1
                  try clear p6
                  try clear c8
                  try clear p18
                  try clear q18
                  try clear hx18
                  try clear c20
                  try clear c20b0
                  try clear c21
                  try clear c21b0
                  try clear c22
                  try clear c22b0
                  try clear c25
                  try clear c27
                  try clear c27b0
                  try clear c27b1
                  try clear c28
                  try clear c28b0
                  try clear c29
                  try clear c29b0
                  try clear q30
                  try clear c31
                  try clear c32
                  try clear c34
                  try clear c34b0
                  try clear c35
                  try clear c35b0
                  try clear c36
                  try clear c37
                  try clear c38
                  try clear c39
                  try clear c40
                  try clear c40b0
                  try clear c41
                  try clear c41b0
                  try clear p42
                  try clear q42
                  try clear hx42
                  try clear hf42
                  try clear c43
                  try clear c43b0
                  try clear c44
                  try clear c44b0
                  try clear p45
                  try clear q45
                  try clear hx45
                  try clear hf45
                  try clear c49
                  try clear c54
                  try clear hcz11_0
                  try clear hcz11_1
                  try clear hcz13_0
                  try clear hcz13_1
                  try clear hcz19_0
                  try clear hcz19_1
                  try clear hcz26_0
                  try clear hcz26_1
                  try clear hcz33_0
                  try clear hcz33_1
                  try clear hcz37_0
                  try clear hcz37_1
                  try clear hcz50_0
                  try clear hcz50_1
                  try clear hcz53_0
                  try clear hcz53_1
                  try clear hcz9_0
                  try clear hcz9_1
                  try clear hfz11_0
                  try clear hfz11_1
                  try clear hfz13_0
                  try clear hfz13_1
                  try clear hfz19_0
                  try clear hfz19_1
                  try clear hfz26_0
                  try clear hfz26_1
                  try clear hfz33_0
                  try clear hfz33_1
                  try clear hfz37_0
                  try clear hfz37_1
                  try clear hfz50_0
                  try clear hfz50_1
                  try clear hfz53_0
                  try clear hfz53_1
                  try clear hfz9_0
                  try clear hfz9_1
                  try clear hx183_0
                  try clear hx183_1
                  try clear hx185_0
                  try clear hx186_0
                  try clear hx42_0
                  try clear hx45_0
                  try clear p1
                  try clear p18
                  try clear p183
                  try clear p185
                  try clear p186
                  try clear p2
                  try clear p42
                  try clear p45
                  try clear q1
                  try clear q18
                  try clear q183
                  try clear q185
                  try clear q186
                  try clear q3
                  try clear q30
                  try clear q42
                  try clear q45
                  obtain ⟨x10_3, x11_3, rfl, HA, HK3, HO_4, HO_5, HO_6, HO_10, BK173, BK184, HB⟩ := hrel
                  have hl10_3 := (Kd.R_reads' HO_10.out).1
                  rw [hl10_3] at HO_10
                  (try simp only [hl10_3])
                  (try simp only [hl10_3] at BK173)
                  (try simp only [hl10_3] at BK184)
                  (try simp only [hl10_3] at HO_4)
                  (try simp only [hl10_3] at HO_5)
                  (try simp only [hl10_3] at HO_6)
                  cases gk with
                  | zero => exact absurd HA.out (by simp [spec_MostInPairs.l1])
                  | succ k3 =>
                   have H := HA.out
                   clear HA
                   simp only [spec_MostInPairs.l1] at H
                   by_cases c56 : x11_3 < ((rd_T105 l0_1 x26_1).f0)
                   ·rw [if_pos c56] at H
                    have c56b0 : decide (x11_3 < ((rd_T105 l0_1 x26_1).f0)) = true := decide_eq_true c56
                    clear c56
                    by_cases c57 : 0 ≤ x11_3
                    ·rw [if_pos c57] at H
                     have c57b0 : decide (0 ≤ x11_3) = true := decide_eq_true c57
                     clear c57
                     by_cases c58 : x11_3 < (x10_3.length : Int)
                     ·rw [if_pos c58] at H
                      have c58b0 : decide (x11_3 < (x10_3.length : Int)) = true := decide_eq_true c58
                      (try (have c58b0m := c58b0; simp only [hl5_1] at c58b0m))
                      (try (have c58b0m := c58b0; simp only [hl10_3] at c58b0m))
                      clear c58
                      obtain ⟨y195, hy195⟩ : ∃ y_ : List Bool, y_ = (x10_3.set (x11_3 : Int).toNat true) := ⟨_, rfl⟩
                      replace H : (spec_MostInPairs.l1 k3 t175 x5_1 x6_1 x7_1 y195 (wrap64 (x11_3 + 1)) l0_1 (l0_1.length : Int) x26_1 ((rd_T105 l0_1 x26_1).f0) ((rd_T105 l0_1 x26_1).f1)) = some (r1, r2) := by first | (rw [hy195]; with_reducible exact H) | (have H2_ := (Option.bind_some _ _).symm.trans H; rw [hy195]; with_reducible exact H2_) | (have H2_ := (Option.bind_some _ _).symm.trans H; with_reducible exact H2_) | with_reducible exact H | (rw [hy195]; exact H) | exact H
                      have Ny195 := Aside0.mk hy195
                      clear hy195
                      have H' := Aside0.mk H
                      clear H
                      have hnb60 := NB184_173.out
                      have hnc60 := NB173_184.out
                      have hcz61_0 := cz BK184 0
                      have hcz61_1 := cz BK184 1
                      have hfz61_0 := fz BK184 0
                      have hfz61_1 := fz BK184 1
                      have p59 : 0 ≤ (x11_3 : Int) := of_decide_eq_true (by first | (with_reducible assumption) | assumption)
                      have q59 : (x11_3 : Int) < ((x10_3.length : Int) : Int) := of_decide_eq_true (by first | (with_reducible assumption) | assumption)
                      obtain ⟨hx59_0, hf59_0⟩ := Kd.R_celln false HO_10.out (x11_3 : Int) p59 q59
                      replace p59 := eq_true p59
                      replace q59 := eq_true q59
                      have HP62 := Kd.R_putg HO_10.out (x11_3 : Int) true
                      go_wp2_with (first | ((with_reducible refine gate_store (t := 4) (p := 65) rfl ?_); refine store_event (t := 4) (p := 65) (v := ?vo_w63) (w1 := (wr.setCell ⟨go42, (x11_3 : Int).toNat, none⟩ (.bool true))) ?hg ?ho ?hn ?hr ?_; (case ho => rfl); (case hg => rfl); (case hn => rfl); (case hr => first | (go_simp; done) | (go_simp; rfl)); intro w63 hw; have hg : wr.grownBy w63 (some go42) := (by rw [hw]; exact HP62.2); have hp_ : Kd.R Kd.bool 4 w63 w.heap.size (fun k_ => some k_ ≠ (.slice Ao17 x5_1.length co17 : Value).ownBlock) (.slice (some ⟨go42, 0, none⟩) x10_3.length co42) y195 := (by rw [hw, Ny195.out]; exact HP62.1); clear HP62; have n0_ := Aside0.mk (Kd.S_after (v := (.slice (some ⟨go42, 0, none⟩) x10_3.length co42)) (v1 := (.slice (some ⟨go42, 0, none⟩) x10_3.length co42)) (ok := (fun k_ => some k_ ≠ (.slice Ao17 x5_1.length co17 : Value).ownBlock)) (sU HO_4) hg (.inl rfl)); have n1_ := Aside0.mk (Kd.R_after (v := (.slice (some ⟨go42, 0, none⟩) x10_3.length co42)) (v1 := (.slice (some ⟨go42, 0, none⟩) x10_3.length co42)) (ok := (fun _ => True)) (by (with_reducible repeat (first | apply Kd.R_alloc | apply Kd.R_drewN | apply Kd.R_drew)); exact Kd.R_mono HO_5.out (fun _ hk => ⟨trivial, hk⟩)) hg (.inl rfl)); have n2_ := Aside0.mk (Kd.R_over' (v := (.slice (some ⟨go42, 0, none⟩) x10_3.length co42)) (rU HO_6) (Kd.R_typed HO_10.out) (by decide) hg); have n3_ := Aside0.mk (hp_); have n4_ := Aside0.mk (blk_grown (g := gb173) (o := .cells #[.int .i64 a0_0, .slice (some ad183) l0_1.length c0_1] 33 (0, 0)) bK hg (Kd.R_ne HO_10.out BK173.out (by decide))); have n5_ := Aside0.mk (blk_grown (g := gb184) (o := .cells #[.int .i64 ((rd_T105 l0_1 x26_1).f0), .int .i64 ((rd_T105 l0_1 x26_1).f1)] 105 (0, 0)) bK hg (Kd.R_ne HO_10.out BK184.out (by decide))); have n6_ := Aside0.mk ((by rw [hw]; exact below_set (HB.out) GB42.out : Below w.heap.size w w63)); clear HO_4; clear HO_5; clear HO_6; clear HO_10; clear BK173; clear BK184; clear HB; have HO_4 := n0_; have HO_5 := n1_; have HO_6 := n2_; have HO_10 := n3_; have BK173 := n4_; have BK184 := n5_; have HB := n6_; clear n0_ n1_ n2_ n3_ n4_ n5_ n6_; clear hg hw hp_))
                      (try simp only [← hl10_3])
                      go_roundg k3
                      case measure => have := HK1.out; have := HJ22.out; have := HK3.out; omega
                      case rel => exact ⟨(y195), (wrap64 (x11_3 + 1)), (by first | rfl | (simp; done) | (simp [*]; done)), H', ⟨by have := HK1.out; have := HJ22.out; have := HK3.out; omega⟩, ⟨by (try simp only [hl5_1]); (try simp only [hl10_3]); (with_reducible repeat (first | apply Kd.S_alloc | apply Kd.S_drewN | apply Kd.S_drew)); exact HO_4.out⟩, ⟨by (try simp only [hl5_1]); (try simp only [hl10_3]); (with_reducible repeat (first | apply Kd.R_alloc | apply Kd.R_drewN | apply Kd.R_drew)); exact Kd.R_mono HO_5.out (fun _ hk => hk.2)⟩, ⟨by (try simp only [hl5_1]); (try simp only [hl10_3]); (with_reducible repeat (first | apply Kd.R_alloc | apply Kd.R_drewN | apply Kd.R_drew)); exact HO_6.out⟩, ⟨by (try simp only [hl5_1]); (try simp only [hl10_3]); (with_reducible repeat (first | apply Kd.R_alloc | apply Kd.R_drewN | apply Kd.R_drew)); exact HO_10.out⟩, ⟨by (try simp only [hl5_1]); (try simp only [hl10_3]); (with_reducible repeat (first | refine blk_drewN ?_ _ | refine blk_drew ?_ | refine blk_alloc ?_ _)); exact BK173.out⟩, ⟨by (try simp only [hl5_1]); (try simp only [hl10_3]); (with_reducible repeat (first | refine blk_drewN ?_ _ | refine blk_drew ?_ | refine blk_alloc ?_ _)); exact BK184.out⟩, ⟨hB⟩⟩
                     ·rw [if_neg c58] at H
                      exact absurd H (by simp)
                    ·rw [if_neg c57] at H
                     exact absurd H (by simp)
                   ·rw [if_neg c56] at H
                    have c56b0 : decide (x11_3 < ((rd_T105 l0_1 x26_1).f0)) = false := decide_eq_false c56
                    clear c56
                    replace H := Option.bind_eq_some_iff.mp H
                    obtain ⟨⟨t196, t197⟩, A640, H⟩ := H
                    try dsimp only at H
                    have A64 := Aside0.mk A640
                    clear A640
                    by_cases c65 : (wrap64 (1 + t196)) = x7_1
                    ·rw [if_pos c65] at H
                     have c65b0 : ((wrap64 (1 + t196)) == x7_1) = true := beq_iff_eq.mpr c65
                     have c65b1 : ((wrap64 (1 + t196)) != x7_1) = false := bne_eq_false_iff_eq.mpr c65
                     clear c65
                     by_cases c66 : x6_1.length < 8796093022208
                     ·rw [if_pos c66] at H
                      have LMc66 := Aside0.mk c66
                      clear c66
                      obtain ⟨y198, hy198⟩ : ∃ y_ : List (S105), y_ = (x6_1 ++ [(⟨((rd_T105 l0_1 x26_1).f0), ((rd_T105 l0_1 x26_1).f1)⟩ : S105)]) := ⟨_, rfl⟩
                      replace H : (if 0 ≤ ((rd_T105 l0_1 x26_1).f0) then (if ((rd_T105 l0_1 x26_1).f0) < (x5_1.length : Int) then (if 0 ≤ ((rd_T105 l0_1 x26_1).f1) then (if ((rd_T105 l0_1 x26_1).f1) < (x5_1.length : Int) then (spec_MostInPairs.l0 k3 t175 ((x5_1.set (((rd_T105 l0_1 x26_1).f0) : Int).toNat true).set (((rd_T105 l0_1 x26_1).f1) : Int).toNat true) y198 (wrap64 (x7_1 - 1)) l0_1 (l0_1.length : Int) (wrap64 (x26_1 + 1))) else (none)) else (none)) else (none)) else (none)) = some (r1, r2) := by first | (rw [hy198]; with_reducible exact H) | (have H2_ := (Option.bind_some _ _).symm.trans H; rw [hy198]; with_reducible exact H2_) | (have H2_ := (Option.bind_some _ _).symm.trans H; with_reducible exact H2_) | with_reducible exact H | (rw [hy198]; exact H) | exact H
                      have Ny198 := Aside0.mk hy198
                      clear hy198
                      by_cases c67 : 0 ≤ ((rd_T105 l0_1 x26_1).f0)
                      ·rw [if_pos c67] at H
                       have c67b0 : decide (0 ≤ ((rd_T105 l0_1 x26_1).f0)) = true := decide_eq_true c67
                       clear c67
                       by_cases c68 : ((rd_T105 l0_1 x26_1).f0) < (x5_1.length : Int)
                       ·rw [if_pos c68] at H
                        have c68b0 : decide (((rd_T105 l0_1 x26_1).f0) < (x5_1.length : Int)) = true := decide_eq_true c68
                        (try (have c68b0m := c68b0; simp only [hl5_1] at c68b0m))
                        (try (have c68b0m := c68b0; simp only [hl10_3] at c68b0m))
                        clear c68
                        obtain ⟨y201, hy201⟩ : ∃ y_ : List Bool, y_ = (x5_1.set (((rd_T105 l0_1 x26_1).f0) : Int).toNat true) := ⟨_, rfl⟩
                        replace H : (if 0 ≤ ((rd_T105 l0_1 x26_1).f1) then (if ((rd_T105 l0_1 x26_1).f1) < (x5_1.length : Int) then (spec_MostInPairs.l0 k3 t175 (y201.set (((rd_T105 l0_1 x26_1).f1) : Int).toNat true) y198 (wrap64 (x7_1 - 1)) l0_1 (l0_1.length : Int) (wrap64 (x26_1 + 1))) else (none)) else (none)) = some (r1, r2) := by first | (rw [hy201]; with_reducible exact H) | (have H2_ := (Option.bind_some _ _).symm.trans H; rw [hy201]; with_reducible exact H2_) | (have H2_ := (Option.bind_some _ _).symm.trans H; with_reducible exact H2_) | with_reducible exact H | (rw [hy201]; exact H) | exact H
                        have Ny201 := Aside0.mk hy201
                        clear hy201
                        by_cases c70 : 0 ≤ ((rd_T105 l0_1 x26_1).f1)
                        ·rw [if_pos c70] at H
                         have c70b0 : decide (0 ≤ ((rd_T105 l0_1 x26_1).f1)) = true := decide_eq_true c70
                         clear c70
                         by_cases c71 : ((rd_T105 l0_1 x26_1).f1) < (x5_1.length : Int)
                         ·rw [if_pos c71] at H
                          have c71b0 : decide (((rd_T105 l0_1 x26_1).f1) < (x5_1.length : Int)) = true := decide_eq_true c71
                          (try (have c71b0m := c71b0; simp only [hl5_1] at c71b0m))
                          (try (have c71b0m := c71b0; simp only [hl10_3] at c71b0m))
                          clear c71
                          obtain ⟨y202, hy202⟩ : ∃ y_ : List Bool, y_ = (y201.set (((rd_T105 l0_1 x26_1).f1) : Int).toNat true) := ⟨_, rfl⟩
                          replace H : (spec_MostInPairs.l0 k3 t175 y202 y198 (wrap64 (x7_1 - 1)) l0_1 (l0_1.length : Int) (wrap64 (x26_1 + 1))) = some (r1, r2) := by first | (rw [hy202]; with_reducible exact H) | (have H2_ := (Option.bind_some _ _).symm.trans H; rw [hy202]; with_reducible exact H2_) | (have H2_ := (Option.bind_some _ _).symm.trans H; with_reducible exact H2_) | with_reducible exact H | (rw [hy202]; exact H) | exact H
                          have Ny202 := Aside0.mk hy202
                          clear hy202
                          have H' := Aside0.mk H
                          clear H
                          have hnb73 := NB184_173.out
                          have hnc73 := NB173_184.out
                          have hcz74_0 := cz BK184 0
                          have hcz74_1 := cz BK184 1
                          have hfz74_0 := fz BK184 0
                          have hfz74_1 := fz BK184 1
                          go_wp2_with (first | ((with_reducible refine gate_callee (f := 86) rfl ?_); refine goC (N := some 68) Tryd.func86 #[.slice Ao16 t175.length co16, .slice (some ⟨go42, 0, none⟩) x10_3.length co42, .int .i64 0] rfl ?_; (with_reducible refine (spec_taMost.calls k3 _ _ t175 (fun k_ => some k_ = (.slice (some ⟨go42, 0, none⟩) x10_3.length co42 : Value).ownBlock) (.slice (some ⟨go42, 0, none⟩) x10_3.length co42) x10_3 0 t196 t197 w _ ?side1 ?side2 ?side3 ?side4 A64.out).mono ?_); (case side1 => repeat (first | (with_reducible first | exact HB.out | apply below_alloc | apply pw_below_drewN | apply below_drew1 | refine below_set ?_ GE173.out | refine below_set ?_ GE184.out) | exact HB.out)); (case side2 => exact Kd.C_kept_own ((Kd.S_R HO_4.out)) (fun k_ hk_ hs_ => pjn hk_ hs_)); (case side3 => exact (Kd.S_reads' HO_4.out).2.1); (case side4 => exact Kd.R_tight rfl HO_10.out); rintro e w75 ⟨rfl, hy0, hb, hkp⟩; refine ⟨_, rfl, ?_⟩; have n0_ := Aside0.mk (Kd.S_mono (ok' := fun k_ => some k_ ≠ (.slice Ao17 x5_1.length co17 : Value).ownBlock ∧ some k_ ≠ (.slice (some ⟨go42, 0, none⟩) x10_3.length co42 : Value).ownBlock) (Kd.S_keptB (HO_4.out) hkp (fun k_ hk_ hs_ => pjn hk_ hs_)) (fun k_ hk_ => pj hk_)); have n1_ := Aside0.mk (Kd.R_mono (ok' := fun k_ => some k_ ≠ (.slice (some ⟨go42, 0, none⟩) x10_3.length co42 : Value).ownBlock) (Kd.R_keptB (HO_5.out) hkp (fun k_ hk_ hs_ => pjn hk_ hs_)) (fun k_ hk_ => pj hk_)); have n2_ := Aside0.mk (Kd.R_mono (ok' := fun k_ => k_ ≠ gb184) (Kd.R_keptB ((Kd.R_apart' HO_6.out (Kd.R_typed HO_10.out) (by decide))) hkp (fun k_ hk_ hs_ => pjn hk_ hs_)) (fun k_ hk_ => pj hk_)); have n3_ := Aside0.mk (Kd.R_reok rfl hy0 (fun k_ e_ => HO_10.out.1 k_ e_)); have n4_ := Aside0.mk (blk_kept bK hkp (fun hs_ => (fun e_ => (Kd.R_ne HO_10.out BK173.out (by decide)) e_) hs_)); have n5_ := Aside0.mk (blk_kept bK hkp (fun hs_ => (fun e_ => (Kd.R_ne HO_10.out BK184.out (by decide)) e_) hs_)); have n6_ := Aside0.mk (hb); clear HO_4; clear HO_5; clear HO_6; clear HO_10; clear BK173; clear BK184; clear HB; have HO_4 := n0_; have HO_5 := n1_; have HO_6 := n2_; have HO_10 := n3_; have BK173 := n4_; have BK184 := n5_; have HB := n6_; clear n0_ n1_ n2_ n3_ n4_ n5_ n6_; (try clear hb); (try clear hkp); (try clear hy0); have hcz76_0 := cz BK184 0; have hcz76_1 := cz BK184 1; have hfz76_0 := fz BK184 0; have hfz76_1 := fz BK184 1) | ((with_reducible refine gate_builtin (b := .append) (xs := #[.tmp 72, .tmp 74]) rfl ?_); at_builtin; refine Kd.R_append k105 (w0 := w) w.heap.size rfl (.tmp 72) (.tmp 74) 31 105 (.agg #[(.int .i64 0), (.int .i64 0)]) 16 rfl Tryd.underlying31 info105 rfl (by decide) (by omega) u6 x6_1 (⟨((rd_T105 l0_1 x26_1).f0), ((rd_T105 l0_1 x26_1).f1)⟩ : S105) [.int .i64 ((rd_T105 l0_1 x26_1).f0), .int .i64 ((rd_T105 l0_1 x26_1).f1)] (fun k_ => k_ ≠ gb184) (fun _ => False) rfl rfl ?aP (fun _ hk => hk.elim) ?aF ?aO ?aB ?aS ?aL ?_; (case aP => exact k105_mkM _ _ _ (⟨((rd_T105 l0_1 x26_1).f0), ((rd_T105 l0_1 x26_1).f1)⟩ : S105)); (case aB => exact hB); (case aF => exact (fun k_ hk => Kd.freshB (g := gb184) (o := .cells #[.int .i64 ((rd_T105 l0_1 x26_1).f0), .int .i64 ((rd_T105 l0_1 x26_1).f1)] 105 (0, 0)) bK k_ hk)); (case aO => exact (rU HO_6)); (case aS => exact (below_size hB)); (case aL => have := LMc66.out; omega); intro v199 w77 ho hb hg hat; rw [← Ny198.out] at ho; have n0_ := Aside0.mk (Kd.S_over' (sU HO_4) (Kd.R_typed (rU HO_6)) (by decide) hg); have n1_ := Aside0.mk (Kd.R_over' (rU HO_5) (Kd.R_typed (rU HO_6)) (by decide) hg); have n2_ := Aside0.mk (Kd.R_over' (rU HO_10) (Kd.R_typed (rU HO_6)) (by decide) hg); have n3_ := Aside0.mk (blk_grown (g := gb173) (o := .cells #[.int .i64 a0_0, .slice (some ad183) l0_1.length c0_1] 33 (0, 0)) bK hg (Kd.R_ne HO_6.out BK173.out (by decide))); have n4_ := Aside0.mk (blk_grown (g := gb184) (o := .cells #[.int .i64 ((rd_T105 l0_1 x26_1).f0), .int .i64 ((rd_T105 l0_1 x26_1).f1)] 105 (0, 0)) bK hg (Kd.R_away HO_6.out (fun _ hk => hk))); have n5_ := Aside0.mk (hb); have n6_ := Aside0.mk (ho); clear HO_4; clear HO_5; clear HO_10; clear BK173; clear BK184; clear HB; clear HO_6; have HO_4 := n0_; have HO_5 := n1_; have HO_10 := n2_; have BK173 := n3_; have BK184 := n4_; have HB := n5_; have HO200 := n6_; clear n0_ n1_ n2_ n3_ n4_ n5_ n6_; clear ho hb hg hat; have hcz78_0 := cz BK184 0; have hcz78_1 := cz BK184 1; have hfz78_0 := fz BK184 0; have hfz78_1 := fz BK184 1; have p69 : 0 ≤ (((rd_T105 l0_1 x26_1).f0) : Int) := of_decide_eq_true (by first | (with_reducible assumption) | assumption); have q69 : (((rd_T105 l0_1 x26_1).f0) : Int) < ((x5_1.length : Int) : Int) := of_decide_eq_true (by first | (with_reducible assumption) | assumption); obtain ⟨go69, co69, eo69, gb69, gl69, cl69, HG69⟩ := Kd.R_form HO_5.out (by omega); (first | cases eo69 | (injection eo69 with ea_ en_ ec_; (first | subst ea_ | (injection ea_ with ea_; subst ea_)); subst ec_; clear en_)); have GB69 := Aside0.mk gb69; have GG69 := Aside0.mk HG69; clear gb69 gl69 HG69; obtain ⟨hx69_0, hf69_0⟩ := Kd.R_celln false HO_5.out (((rd_T105 l0_1 x26_1).f0) : Int) p69 q69; replace p69 := eq_true p69; replace q69 := eq_true q69; obtain ⟨hy79_, hz79_⟩ := Kd.R_celln false HO_5.out (((rd_T105 l0_1 x26_1).f0) : Int) (of_decide_eq_true (by first | (with_reducible assumption) | assumption)) (of_decide_eq_true (by first | (with_reducible assumption) | assumption)); have HP79 := Kd.R_putg HO_5.out (((rd_T105 l0_1 x26_1).f0) : Int) true) | ((with_reducible refine gate_store (t := 4) (p := 79) rfl ?_); refine store_event (t := 4) (p := 79) (v := ?vo_w80) (w1 := (w77.setCell ⟨go69, (((rd_T105 l0_1 x26_1).f0) : Int).toNat, none⟩ (.bool true))) ?hg ?ho ?hn ?hr ?_; (case ho => rfl); (case hg => rfl); (case hn => rfl); (case hr => first | (go_simp; done) | (go_simp; rfl)); intro w80 hw; have hg : w77.grownBy w80 (some go69) := (by rw [hw]; exact HP79.2); have hp_ : Kd.R Kd.bool 4 w80 w.heap.size (fun k_ => some k_ ≠ (.slice (some ⟨go42, 0, none⟩) x10_3.length co42 : Value).ownBlock) (.slice (some ⟨go69, 0, none⟩) x5_1.length co17) y201 := (by rw [hw, Ny201.out]; exact HP79.1); clear HP79; have n0_ := Aside0.mk (Kd.S_after (v := (.slice (some ⟨go69, 0, none⟩) x5_1.length co17)) (v1 := (.slice (some ⟨go69, 0, none⟩) x5_1.length co17)) (ok := (fun k_ => some k_ ≠ (.slice (some ⟨go42, 0, none⟩) x10_3.length co42 : Value).ownBlock)) (by (with_reducible repeat (first | apply Kd.S_alloc | apply Kd.S_drewN | apply Kd.S_drew)); exact Kd.S_mono HO_4.out (fun _ hk => ⟨hk.2, hk.1⟩)) hg (.inl rfl)); have n1_ := Aside0.mk (hp_); have n2_ := Aside0.mk (Kd.R_after (v := (.slice (some ⟨go69, 0, none⟩) x5_1.length co17)) (v1 := (.slice (some ⟨go69, 0, none⟩) x5_1.length co17)) (ok := (fun _ => True)) (by (with_reducible repeat (first | apply Kd.R_alloc | apply Kd.R_drewN | apply Kd.R_drew)); exact Kd.R_mono HO_10.out (fun _ hk => ⟨trivial, hk⟩)) hg (.inl rfl)); have n3_ := Aside0.mk (blk_grown (g := gb173) (o := .cells #[.int .i64 a0_0, .slice (some ad183) l0_1.length c0_1] 33 (0, 0)) bK hg (Kd.R_ne HO_5.out BK173.out (by decide))); have n4_ := Aside0.mk (blk_grown (g := gb184) (o := .cells #[.int .i64 ((rd_T105 l0_1 x26_1).f0), .int .i64 ((rd_T105 l0_1 x26_1).f1)] 105 (0, 0)) bK hg (Kd.R_ne HO_5.out BK184.out (by decide))); have n5_ := Aside0.mk (Kd.R_over' (v := (.slice (some ⟨go69, 0, none⟩) x5_1.length co17)) (rU HO200) (Kd.R_typed HO_5.out) (by decide) hg); have n6_ := Aside0.mk ((by rw [hw]; exact below_set (HB.out) GB69.out : Below w.heap.size w w80)); clear HO_4; clear HO_5; clear HO_10; clear BK173; clear BK184; clear HO200; clear HB; have HO_4 := n0_; have HO_5 := n1_; have HO_10 := n2_; have BK173 := n3_; have BK184 := n4_; have HO200 := n5_; have HB := n6_; clear n0_ n1_ n2_ n3_ n4_ n5_ n6_; clear hg hw hp_; have hcz81_0 := cz BK184 0; have hcz81_1 := cz BK184 1; have hfz81_0 := fz BK184 0; have hfz81_1 := fz BK184 1; have p72 : 0 ≤ (((rd_T105 l0_1 x26_1).f1) : Int) := of_decide_eq_true (by first | (with_reducible assumption) | assumption); have q72 : (((rd_T105 l0_1 x26_1).f1) : Int) < ((x5_1.length : Int) : Int) := of_decide_eq_true (by first | (with_reducible assumption) | assumption); obtain ⟨hx72_0, hf72_0⟩ := Kd.R_celln false HO_5.out (((rd_T105 l0_1 x26_1).f1) : Int) p72 q72; replace p72 := eq_true p72; replace q72 := eq_true q72; obtain ⟨hy82_, hz82_⟩ := Kd.R_celln false HO_5.out (((rd_T105 l0_1 x26_1).f1) : Int) (of_decide_eq_true (by first | (with_reducible assumption) | assumption)) (of_decide_eq_true (by first | (with_reducible assumption) | assumption)); have HP82 := Kd.R_putg HO_5.out (((rd_T105 l0_1 x26_1).f1) : Int) true) | ((with_reducible refine gate_store (t := 4) (p := 83) rfl ?_); refine store_event (t := 4) (p := 83) (v := ?vo_w83) (w1 := (w80.setCell ⟨go69, (((rd_T105 l0_1 x26_1).f1) : Int).toNat, none⟩ (.bool true))) ?hg ?ho ?hn ?hr ?_; (case ho => rfl); (case hg => rfl); (case hn => rfl); (case hr => first | (go_simp; done) | (go_simp; rfl)); intro w83 hw; have hg : w80.grownBy w83 (some go69) := (by rw [hw]; exact HP82.2); have hp_ : Kd.R Kd.bool 4 w83 w.heap.size (fun k_ => some k_ ≠ (.slice (some ⟨go42, 0, none⟩) x10_3.length co42 : Value).ownBlock) (.slice (some ⟨go69, 0, none⟩) x5_1.length co17) y202 := (by rw [hw, Ny202.out]; exact HP82.1); clear HP82; have n0_ := Aside0.mk (Kd.S_after (v := (.slice (some ⟨go69, 0, none⟩) x5_1.length co17)) (v1 := (.slice (some ⟨go69, 0, none⟩) x5_1.length co17)) (ok := (fun k_ => some k_ ≠ (.slice (some ⟨go42, 0, none⟩) x10_3.length co42 : Value).ownBlock)) (sU HO_4) hg (.inl rfl)); have n1_ := Aside0.mk (hp_); have n2_ := Aside0.mk (Kd.R_after (v := (.slice (some ⟨go69, 0, none⟩) x5_1.length co17)) (v1 := (.slice (some ⟨go69, 0, none⟩) x5_1.length co17)) (ok := (fun _ => True)) (rU HO_10) hg (.inl rfl)); have n3_ := Aside0.mk (blk_grown (g := gb173) (o := .cells #[.int .i64 a0_0, .slice (some ad183) l0_1.length c0_1] 33 (0, 0)) bK hg (Kd.R_ne HO_5.out BK173.out (by decide))); have n4_ := Aside0.mk (blk_grown (g := gb184) (o := .cells #[.int .i64 ((rd_T105 l0_1 x26_1).f0), .int .i64 ((rd_T105 l0_1 x26_1).f1)] 105 (0, 0)) bK hg (Kd.R_ne HO_5.out BK184.out (by decide))); have n5_ := Aside0.mk (Kd.R_over' (v := (.slice (some ⟨go69, 0, none⟩) x5_1.length co17)) (rU HO200) (Kd.R_typed HO_5.out) (by decide) hg); have n6_ := Aside0.mk ((by rw [hw]; exact below_set (HB.out) GB69.out : Below w.heap.size w w83)); clear HO_4; clear HO_5; clear HO_10; clear BK173; clear BK184; clear HO200; clear HB; have HO_4 := n0_; have HO_5 := n1_; have HO_10 := n2_; have BK173 := n3_; have BK184 := n4_; have HO200 := n5_; have HB := n6_; clear n0_ n1_ n2_ n3_ n4_ n5_ n6_; clear hg hw hp_))
                          (try simp only [← hl5_1, ← hl10_3])
                          go_roundg k3
                          case measure => have := HK1.out; have := HJ22.out; have := HK3.out; omega
                          case rel => exact ⟨(y202), (y198), (wrap64 (x7_1 - 1)), (wrap64 (x26_1 + 1)), (by first | rfl | (simp; done) | (simp [*]; done)), (by first | rfl | (simp; done) | (simp [*]; done)), H', ⟨by have := HK1.out; have := HJ22.out; have := HK3.out; omega⟩, ⟨by (try simp only [hl5_1]); (try simp only [hl10_3]); (with_reducible repeat (first | apply Kd.S_alloc | apply Kd.S_drewN | apply Kd.S_drew)); exact Kd.S_mono HO_4.out (fun _ hk => hk.2)⟩, ⟨by (try simp only [hl5_1]); (try simp only [hl10_3]); (with_reducible repeat (first | apply Kd.R_alloc | apply Kd.R_drewN | apply Kd.R_drew)); exact Kd.R_mono HO_5.out (fun _ hk => trivial)⟩, ⟨by (try simp only [hl5_1]); (try simp only [hl10_3]); (with_reducible repeat (first | apply Kd.R_alloc | apply Kd.R_drewN | apply Kd.R_drew)); exact Kd.R_mono HO200.out (fun _ hk => trivial)⟩, ⟨by (try simp only [hl5_1]); (try simp only [hl10_3]); (with_reducible repeat (first | refine blk_drewN ?_ _ | refine blk_drew ?_ | refine blk_alloc ?_ _)); exact BK173.out⟩, ⟨hB⟩⟩
                         ·rw [if_neg c71] at H
                          exact absurd H (by simp)
                        ·rw [if_neg c70] at H
                         exact absurd H (by simp)
                       ·rw [if_neg c68] at H
                        exact absurd H (by simp)
                      ·rw [if_neg c67] at H
                       exact absurd H (by simp)
                     ·rw [if_neg c66] at H
                      exact absurd H (by simp)
                    ·rw [if_neg c65] at H
                     have c65b0 : ((wrap64 (1 + t196)) == x7_1) = false := beq_eq_false_iff_ne.mpr c65
                     have c65b1 : ((wrap64 (1 + t196)) != x7_1) = true := bne_iff_ne.mpr c65
                     have H' := Aside0.mk H
                     clear H
                     have hnb84 := NB184_173.out
                     have hnc84 := NB173_184.out
                     have hcz85_0 := cz BK184 0
                     have hcz85_1 := cz BK184 1
                     have hfz85_0 := fz BK184 0
                     have hfz85_1 := fz BK184 1
                     go_wp2_with (first | ((with_reducible refine gate_callee (f := 86) rfl ?_); refine goC (N := some 68) Tryd.func86 #[.slice Ao16 t175.length co16, .slice (some ⟨go42, 0, none⟩) x10_3.length co42, .int .i64 0] rfl ?_; (with_reducible refine (spec_taMost.calls k3 _ _ t175 (fun k_ => some k_ = (.slice (some ⟨go42, 0, none⟩) x10_3.length co42 : Value).ownBlock) (.slice (some ⟨go42, 0, none⟩) x10_3.length co42) x10_3 0 t196 t197 w _ ?side1 ?side2 ?side3 ?side4 A64.out).mono ?_); (case side1 => repeat (first | (with_reducible first | exact HB.out | apply below_alloc | apply pw_below_drewN | apply below_drew1 | refine below_set ?_ GE173.out | refine below_set ?_ GE184.out) | exact HB.out)); (case side2 => exact Kd.C_kept_own ((Kd.S_R HO_4.out)) (fun k_ hk_ hs_ => pjn hk_ hs_)); (case side3 => exact (Kd.S_reads' HO_4.out).2.1); (case side4 => exact Kd.R_tight rfl HO_10.out); rintro e w86 ⟨rfl, hy0, hb, hkp⟩; refine ⟨_, rfl, ?_⟩; have n0_ := Aside0.mk (Kd.S_mono (ok' := fun k_ => some k_ ≠ (.slice Ao17 x5_1.length co17 : Value).ownBlock ∧ some k_ ≠ (.slice (some ⟨go42, 0, none⟩) x10_3.length co42 : Value).ownBlock) (Kd.S_keptB (HO_4.out) hkp (fun k_ hk_ hs_ => pjn hk_ hs_)) (fun k_ hk_ => pj hk_)); have n1_ := Aside0.mk (Kd.R_mono (ok' := fun k_ => some k_ ≠ (.slice (some ⟨go42, 0, none⟩) x10_3.length co42 : Value).ownBlock) (Kd.R_keptB (HO_5.out) hkp (fun k_ hk_ hs_ => pjn hk_ hs_)) (fun k_ hk_ => pj hk_)); have n2_ := Aside0.mk (Kd.R_mono (ok' := fun k_ => k_ ≠ gb184) (Kd.R_keptB ((Kd.R_apart' HO_6.out (Kd.R_typed HO_10.out) (by decide))) hkp (fun k_ hk_ hs_ => pjn hk_ hs_)) (fun k_ hk_ => pj hk_)); have n3_ := Aside0.mk (Kd.R_reok rfl hy0 (fun k_ e_ => HO_10.out.1 k_ e_)); have n4_ := Aside0.mk (blk_kept bK hkp (fun hs_ => (fun e_ => (Kd.R_ne HO_10.out BK173.out (by decide)) e_) hs_)); have n5_ := Aside0.mk (blk_kept bK hkp (fun hs_ => (fun e_ => (Kd.R_ne HO_10.out BK184.out (by decide)) e_) hs_)); have n6_ := Aside0.mk (hb); clear HO_4; clear HO_5; clear HO_6; clear HO_10; clear BK173; clear BK184; clear HB; have HO_4 := n0_; have HO_5 := n1_; have HO_6 := n2_; have HO_10 := n3_; have BK173 := n4_; have BK184 := n5_; have HB := n6_; clear n0_ n1_ n2_ n3_ n4_ n5_ n6_; (try clear hb); (try clear hkp); (try clear hy0)))
                     (try simp only [← hl5_1, ← hl10_3])
                     go_roundg k3
                     case measure => have := HK1.out; have := HJ22.out; have := HK3.out; omega
                     case rel => exact ⟨(x5_1), (x6_1), (x7_1), (wrap64 (x26_1 + 1)), (by first | rfl | (simp; done) | (simp [*]; done)), (by first | rfl | (simp; done) | (simp [*]; done)), H', ⟨by have := HK1.out; have := HJ22.out; have := HK3.out; omega⟩, ⟨by (try simp only [hl5_1]); (try simp only [hl10_3]); (with_reducible repeat (first | apply Kd.S_alloc | apply Kd.S_drewN | apply Kd.S_drew)); exact Kd.S_mono HO_4.out (fun _ hk => hk.1)⟩, ⟨by (try simp only [hl5_1]); (try simp only [hl10_3]); (with_reducible repeat (first | apply Kd.R_alloc | apply Kd.R_drewN | apply Kd.R_drew)); exact Kd.R_mono HO_5.out (fun _ hk => trivial)⟩, ⟨by (try simp only [hl5_1]); (try simp only [hl10_3]); (with_reducible repeat (first | apply Kd.R_alloc | apply Kd.R_drewN | apply Kd.R_drew)); exact Kd.R_mono HO_6.out (fun _ hk => trivial)⟩, ⟨by (try simp only [hl5_1]); (try simp only [hl10_3]); (with_reducible repeat (first | refine blk_drewN ?_ _ | refine blk_drew ?_ | refine blk_alloc ?_ _)); exact BK173.out⟩, ⟨hB⟩⟩
                ·rw [if_neg c44] at H
                 exact absurd H (by simp)
               ·rw [if_neg c43] at H
                exact absurd H (by simp)
              ·rw [if_neg c41] at H
               exact absurd H (by simp)
             ·rw [if_neg c40] at H
              exact absurd H (by simp)
            ·rw [if_neg c39] at H
             exact absurd H (by simp)
        ·rw [if_neg c22] at H
         exact absurd H (by simp)
       ·rw [if_neg c21] at H
        exact absurd H (by simp)
      ·rw [if_neg c20] at H
       have c20b0 : decide (x26_1 < (l0_1.length : Int)) = false := decide_eq_false c20
       (try (have c20b0m := c20b0; simp only [hl5_1] at c20b0m))
       clear c20
       simp only [Option.some.injEq, Prod.mk.injEq] at H
       obtain ⟨rfl, rfl⟩ := H
       go_wp2
       go_ret2
       exact ⟨_, by first | rfl | (simp [errW_none, errW_some] <;> rfl) | (simp [*, errW_none, errW_some] <;> rfl), rU HO_6, hB⟩
   ·rw [if_neg c6] at H
    exact absurd H (by simp)
  ·rw [if_neg c5] at H
   exact absurd H (by simp)
 ·replace c3 := Bool.eq_false_iff.mpr c3
  subst c3
  rw [if_neg (show ¬ (false = true) by decide)] at H
  simp only [Option.some.injEq, Prod.mk.injEq] at H
  obtain ⟨rfl, rfl⟩ := H
  go_enter Tryd.func37, Tryd.ntmps37
  go_wp2_with (first | ((with_reducible refine gate_dst (N := 1) rfl ?_); refine bxE 1 #[.int .i64 a0_0, .slice A0_1 l0_1.length c0_1] 33 rfl ?_; intro gb173 hg w87 hbox hb; have BK173 := Aside0.mk (hbox); have GW173 := gS HB hg; have GE173 := gS HB hg; replace HB := hS HB hb; clear hb hbox hg; have hcz88_0 := cz BK173 0; have hcz88_1 := cz BK173 1; have hfz88_0 := fz BK173 0; have hfz88_1 := fz BK173 1) | ((with_reducible refine gate_callee (f := 49) rfl ?_); refine goC (N := some 13) Tryd.func49 #[.agg #[.int .i64 a0_0, .slice A0_1 l0_1.length c0_1]] rfl ?_; (with_reducible refine (spec_paGood.calls k a0_0 _ _ l0_1 false _ ?side1 ?side2 A2.out).mono ?_); (case side1 => exact cS (Kd.C_below HR0_1.out HB.out)); (case side2 => exact HC0_1.out); rintro e w89 ⟨rfl, hb⟩; refine ⟨_, rfl, ?_⟩; replace BK173 := bS BK173 hb; replace HB := hS HB hb; (try clear hb); (try clear hb2); (try clear hk); (try clear hi)))
  go_ret2
  exact ⟨_, by first | rfl | (simp [errW_none, errW_some] <;> rfl) | (simp [*, errW_none, errW_some] <;> rfl), by first | exact Kd.R_nil _ _ _ _ _ | exact Kd.N_nil _ _ _ _ _ | exact Kd.V_nil _ _ _ _ _ | exact Kd.Q_nil _ _ _ _ _ | exact Kd.S_nil _ _ _ _ _, hB⟩

end Go.Proofs.YtjpfbkkikcpmhaaDoor.PFnExactMostInPairs
