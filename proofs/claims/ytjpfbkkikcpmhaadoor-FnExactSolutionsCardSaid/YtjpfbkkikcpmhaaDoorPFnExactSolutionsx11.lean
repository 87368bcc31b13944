-- Of this session's own program wip/gen/gen.py (it drives the kit's print): contracts of the functions that the law reaches.
import Derived.Test.YtjpfbkkikcpmhaaDoorPFnExactSolutionsx0
import Derived.Test.YtjpfbkkikcpmhaaDoorPFnExactSolutionsx10
namespace Go.Proofs.YtjpfbkkikcpmhaaDoor.PFnExactSolutions
open Go.RowKit Go.Proofs.YtjpfbkkikcpmhaaDoorW.PrintWords Go.Proofs.YtjpfbkkikcpmhaaDoorW.PrintLast Go.Proofs.YtjpfbkkikcpmhaaDoorW.PrintMore Go.Proofs.YtjpfbkkikcpmhaaDoor.Base
attribute [local go_sem] max2_int min2_int max_two min_two max_three min_three max_four min_four   -- for this text's walks alone
set_option linter.unusedVariables false
set_option linter.unusedSimpArgs false

/-! ### impl_areCrowd: function 120 -/
def impl_areCrowd.f (a0 : Int) : Option (Bool) := (impl_within.f a0 0 12).bind fun t352 => (some t352)
set_option maxHeartbeats 8000000 in
set_option maxRecDepth 100000 in
theorem impl_areCrowd.calls (a0 : Int) (r : Bool) (w : World) (h : impl_areCrowd.f a0 = some r) :
  Calls Tryd.prog 120 #[.int .i64 a0] w fun e w' => e = .returned (.bool r) ∧ Drawn0 w w' := by
 have H : ((impl_within.f a0 0 12).bind fun t352 => (some t352)) = some r := h
 clear h
 replace H := Option.bind_eq_some_iff.mp H
 obtain ⟨t352, A20, H⟩ := H
 replace H : (some t352) = some r := H
 have A2 := Aside0.mk A20
 clear A20
 obtain rfl := Option.some.inj H
 go_enter Tryd.func120, Tryd.ntmps120
 go_wp2_with (first | ((with_reducible refine gate_callee (f := 60) rfl ?_); refine goC (N := some 4) Tryd.func60 #[.int .i64 a0, .int .i64 0, .int .i64 12] rfl ?_; (with_reducible refine (impl_within.calls a0 0 12 t352 _ A2.out).mono ?_); rintro e w' ⟨rfl, ⟨nd, rfl⟩⟩; refine ⟨_, rfl, ?_⟩))
 go_ret
 exact ⟨by first | rfl | (simp; done) | (simp [*]; done), by repeat (first | exact Drawn0.refl _ | apply Drawn0.step)⟩

/-! ### impl_table_has: function 64 -/
def impl_table_has.f (l0 : List Int) (a1 : Int) (a2 : Int) : Option (Bool) := if 0 ≤ a1 then (if a1 < (l0.length : Int) then (if 0 ≤ a2 then (some ((Go.bits .and .u16 (shr .u16 (rd l0 a1) a2) 1) == 1)) else (none)) else (none)) else (none)
set_option maxHeartbeats 8000000 in
set_option maxRecDepth 100000 in
theorem impl_table_has.calls (A0 : Option Addr) (c0 : Nat) (l0 : List Int) (a1 : Int) (a2 : Int) (r : Bool) (w : World) (hr0 : Kd.C (Kd.int .u16) w A0 l0.length l0) (hc0 : l0.length ≤ c0) (h : impl_table_has.f l0 a1 a2 = some r) :
  Calls Tryd.prog 64 #[.slice A0 l0.length c0, .int .i64 a1, .int .i64 a2] w fun e w' => e = .returned (.bool r) ∧ Drawn0 w w' := by
 have HR0 := Aside0.mk hr0
 have HC0 := Aside0.mk hc0
 clear hr0 hc0
 have H : (if 0 ≤ a1 then (if a1 < (l0.length : Int) then (if 0 ≤ a2 then (some ((Go.bits .and .u16 (shr .u16 (rd l0 a1) a2) 1) == 1)) else (none)) else (none)) else (none)) = some r := h
 clear h
 by_cases c4 : 0 ≤ a1
 ·rw [if_pos c4] at H
  have c4b0 : decide (0 ≤ a1) = true := decide_eq_true c4
  clear c4
  by_cases c5 : a1 < (l0.length : Int)
  ·rw [if_pos c5] at H
   have c5b0 : decide (a1 < (l0.length : Int)) = true := decide_eq_true c5
   clear c5
   by_cases c6 : 0 ≤ a2
   ·rw [if_pos c6] at H
    have c6b0 := eq_true c6
    have c6b1 : decide (0 ≤ a2) = true := decide_eq_true c6
    clear c6
    obtain ⟨ji7, hji7⟩ : ∃ j_ : Int, (shr .u16 (rd l0 a1) a2) = j_ := ⟨_, rfl⟩
    replace H : (some ((Go.bits .and .u16 (ji7) 1) == 1)) = some r := by first | (rw [hji7] at H; exact H) | (simp only [hji7] at H ⊢; exact H)
    have hji7_ : ((rd l0 a1) / 2 ^ min a2.toNat 16) = ji7 := hji7
    have hji7z : a2 ≤ 16 → ((rd l0 a1) / 2 ^ a2.toNat) = ji7 := shr_small hji7
    obtain rfl := Option.some.inj H
    have p353 : 0 ≤ (a1 : Int) := of_decide_eq_true (by first | (with_reducible assumption) | assumption)
    have q353 : a1 < (l0.length : Int) := of_decide_eq_true (by first | (with_reducible assumption) | assumption)
    obtain ⟨ad353, e353, hx353_0⟩ := Kd.at_int HR0.out a1 p353 q353
    cases e353
    replace p353 := eq_true p353
    replace q353 := eq_true q353
    go_enter Tryd.func64, Tryd.ntmps64
    go_wp2
    go_ret
    exact ⟨by first | rfl | (simp; done) | (simp only [← hji7] <;> (first | rfl | simp)) | (simp [*]; done), by repeat (first | exact Drawn0.refl _ | apply Drawn0.step)⟩
   ·rw [if_neg c6] at H
    exact absurd H (by simp)
  ·rw [if_neg c5] at H
   exact absurd H (by simp)
 ·rw [if_neg c4] at H
  exact absurd H (by simp)

/-! ### impl_table_party: function 152 -/
mutual
def impl_table_party.l0 : Nat → List Int → Int → Int → Int → List (S105) → Option (Int × (List (S105)))
 | 0, _, _, _, _, _ => none
 | k + 1, x0, x10, x11, x356000, x356001 => if x11 < x10 then (impl_table_party.l1 k x0 x11 (wrap64 (x11 + 1)) x10 x11 x356000 x356001) else (some (x356000, x356001))
def impl_table_party.l1 : Nat → List Int → Int → Int → Int → Int → Int → List (S105) → Option (Int × (List (S105)))
 | 0, _, _, _, _, _, _, _ => none
 | k + 1, x0, x4, x5, x10, x11, x356000, x356001 => if x5 < (x0.length : Int) then ((impl_table_has.f x0 x4 x5).bind fun t356 => (if t356 = true then (if x356001.length < 8796093022208 then (impl_table_party.l1 k x0 x4 (wrap64 (x5 + 1)) x10 x11 x356000 (x356001 ++ [(⟨x4, x5⟩ : S105)])) else (none)) else (impl_table_party.l1 k x0 x4 (wrap64 (x5 + 1)) x10 x11 x356000 x356001))) else (impl_table_party.l0 k x0 x10 (wrap64 (x11 + 1)) x356000 x356001)
end
def impl_table_party.f (k : Nat) (l0 : List Int) : Option (Int × (List (S105))) := impl_table_party.l0 k l0 (l0.length : Int) 0 (l0.length : Int) ([] : List (S105))
theorem impl_table_party.mono_l : ∀ k, (∀ y0 y1 y2 y3 y4, LeO (impl_table_party.l0 k y0 y1 y2 y3 y4) (impl_table_party.l0 (k + 1) y0 y1 y2 y3 y4)) ∧ (∀ y0 y1 y2 y3 y4 y5 y6, LeO (impl_table_party.l1 k y0 y1 y2 y3 y4 y5 y6) (impl_table_party.l1 (k + 1) y0 y1 y2 y3 y4 y5 y6))
 | 0 => ⟨fun _ _ _ _ _ r h => by simp [impl_table_party.l0] at h, fun _ _ _ _ _ _ _ r h => by simp [impl_table_party.l1] at h⟩
 | k + 1 => by
  obtain ⟨ih0, ih1⟩ := impl_table_party.mono_l k
  refine ⟨?_, ?_⟩
  ·intro y0 y1 y2 y3 y4
   unfold impl_table_party.l0
   repeat' first
   | (with_reducible exact ih0 _ _ _ _ _)
   | (with_reducible exact ih1 _ _ _ _ _ _ _)
   | (with_reducible exact LeO.refl _)
   | (with_reducible exact LeO.none _)
   | (with_reducible refine LeO.ite ?_ ?_)
   | (with_reducible refine LeO.bind ?_ (fun _ => ?_))
   | exact ih0 _ _ _ _ _
   | exact ih1 _ _ _ _ _ _ _
   | exact LeO.none _
   | refine LeO.ite ?_ ?_
   | refine LeO.bind ?_ (fun _ => ?_)
  ·intro y0 y1 y2 y3 y4 y5 y6
   unfold impl_table_party.l1
   repeat' first
   | (with_reducible exact ih0 _ _ _ _ _)
   | (with_reducible exact ih1 _ _ _ _ _ _ _)
   | (with_reducible exact LeO.refl _)
   | (with_reducible exact LeO.none _)
   | (with_reducible refine LeO.ite ?_ ?_)
   | (with_reducible refine LeO.bind ?_ (fun _ => ?_))
   | exact ih0 _ _ _ _ _
   | exact ih1 _ _ _ _ _ _ _
   | exact LeO.none _
   | refine LeO.ite ?_ ?_
   | refine LeO.bind ?_ (fun _ => ?_)
theorem impl_table_party.mono : ∀ a0 k, LeO (impl_table_party.f k a0) (impl_table_party.f (k + 1) a0) := by
 intro a0 k
 obtain ⟨ih0, ih1⟩ := impl_table_party.mono_l k
 unfold impl_table_party.f
 repeat' first
   | (with_reducible exact ih0 _ _ _ _ _)
   | (with_reducible exact ih1 _ _ _ _ _ _ _)
   | (with_reducible exact LeO.refl _)
   | (with_reducible exact LeO.none _)
   | (with_reducible refine LeO.ite ?_ ?_)
   | (with_reducible refine LeO.bind ?_ (fun _ => ?_))
   | exact ih0 _ _ _ _ _
   | exact ih1 _ _ _ _ _ _ _
   | exact LeO.none _
   | refine LeO.ite ?_ ?_
   | refine LeO.bind ?_ (fun _ => ?_)
set_option maxHeartbeats 8000000 in
set_option maxRecDepth 100000 in
theorem impl_table_party.calls (k : Nat) (A0 : Option Addr) (c0 : Nat) (l0 : List Int) (r1 : Int) (r2 : List (S105)) (w : World) (hr0 : Kd.C (Kd.int .u16) w A0 l0.length l0) (hc0 : l0.length ≤ c0) (h : impl_table_party.f k l0 = some (r1, r2)) :
  Calls Tryd.prog 152 #[.slice A0 l0.length c0] w fun e w' => ∃ v1_ : Value, e = .returned (.agg #[.int .i64 r1, v1_]) ∧ Kd.R k105 105 w' w.heap.size (fun _ => True) v1_ r2 ∧ Below w.heap.size w w' := by
 have hu33 := Tryd.underlying33
 have hu105 := Tryd.underlying105
 have HR0 := Aside0.mk hr0
 have HC0 := Aside0.mk hc0
 clear hr0 hc0
 have HB := Aside0.mk (Below.refl w.heap.size w)
 have H : (impl_table_party.l0 k l0 (l0.length : Int) 0 (l0.length : Int) ([] : List (S105))) = some (r1, r2) := h
 clear h
 have H' := Aside0.mk H
 clear H
 go_enter Tryd.func152, Tryd.ntmps152
 go_wp2_with (first | ((with_reducible refine gate_dst (N := 2) rfl ?_); refine bxE 2 #[.int .i64 0, .slice none 0 0] 33 rfl ?_; intro gb354 hg w2 hbox hb; have BK354 := Aside0.mk (hbox); have GW354 := gS HB hg; have GE354 := gS HB hg; replace HB := hS HB hb; clear hb hbox hg) | ((with_reducible refine gate_dst (N := 3) rfl ?_); refine bxE 3 #[.int .i64 0, .slice none 0 0] 33 rfl ?_; intro gb355 hg w3 hbox hb; have BK355 := Aside0.mk (hbox); have GW355 := gS HB hg; have GE355 := gS HB hg; have NB354_355 := nL BK354 hg; have NB355_354 := nG BK354 hg; replace BK354 := bS BK354 hb; replace HB := hS HB hb; clear hb hbox hg; have hnb4 := NB355_354.out; have hnc4 := NB354_355.out; have hcz5_0 := cz BK355 0; have hcz5_1 := cz BK355 1; have hfz5_0 := fz BK355 0; have hfz5_1 := fz BK355 1))
 go_loopg [11] k (fun kq v11 w' => ∃ (x11_1 : Int) (x356001_1 : List (S105)) (u356001 : Value), v11 = .int .i64 x11_1 ∧ Aside0 (impl_table_party.l0 kq l0 (l0.length : Int) x11_1 (l0.length : Int) x356001_1 = some (r1, r2)) ∧ Aside0 (kq ≤ k) ∧ Aside0 (Kd.R k105 105 w' w.heap.size (fun _ => True) u356001 x356001_1) ∧ Aside0 (w'.heap[gb354]? = some (.cells #[.int .i64 0, (.slice none 0 0)] 33 (0, 0))) ∧ Aside0 (w'.heap[gb355]? = some (.cells #[.int .i64 (l0.length : Int), u356001] 33 (0, 0))) ∧ Aside0 (Below w.heap.size w w'))
 case atStart => exact ⟨(0), (([] : List (S105))), (.slice none 0 0), (by first | rfl | (simp; done) | (simp [*]; done)), H', ⟨Nat.le_refl _⟩, ⟨by first | exact Kd.R_nil _ _ _ _ _ | exact Kd.N_nil _ _ _ _ _ | exact Kd.V_nil _ _ _ _ _ | exact Kd.Q_nil _ _ _ _ _ | exact Kd.S_nil _ _ _ _ _⟩, ⟨by (with_reducible repeat (first | refine blk_drewN ?_ _ | refine blk_drew ?_ | refine blk_alloc ?_ _)); refine blk_far ?_ NB354_355.out _; (with_reducible repeat (first | refine blk_drewN ?_ _ | refine blk_drew ?_ | refine blk_alloc ?_ _)); refine blk_far ?_ NB354_355.out _; (with_reducible repeat (first | refine blk_drewN ?_ _ | refine blk_drew ?_ | refine blk_alloc ?_ _)); exact BK354.out⟩, ⟨by (with_reducible repeat (first | refine blk_drewN ?_ _ | refine blk_drew ?_ | refine blk_alloc ?_ _)); refine blk_put (cs := #[.int .i64 (l0.length : Int), .slice none 0 0]) ?_ 1 _ rfl; (with_reducible repeat (first | refine blk_drewN ?_ _ | refine blk_drew ?_ | refine blk_alloc ?_ _)); refine blk_put (cs := #[.int .i64 0, .slice none 0 0]) ?_ 0 _ rfl; (with_reducible repeat (first | refine blk_drewN ?_ _ | refine blk_drew ?_ | refine blk_alloc ?_ _)); exact BK355.out⟩, ⟨hB⟩⟩
 case round =>
  clear H'
  try clear c1
  try clear p2
  try clear c4
  try clear hcz5_0
  try clear hcz5_1
  try clear hfz5_0
  try clear hfz5_1
  obtain ⟨x11_1, x356001_1, u356001, rfl, HA, HK1, HO_356001, BK354, BK355, HB⟩ := hrel
  cases gk with
  | zero => exact absurd HA.out (by simp [impl_table_party.l0])
  | succ k1 =>
   have H := HA.out
   clear HA
   simp only [impl_table_party.l0] at H
   by_cases c6 : x11_1 < (l0.length : Int)
   ·rw [if_pos c6] at H
    have c6b0 : decide (x11_1 < (l0.length : Int)) = true := decide_eq_true c6
    clear c6
    have H' := Aside0.mk H
    clear H
    go_wp2
    go_loopg [5] k1 (fun kq v5 w' => ∃ (x5_2 : Int) (x356001_2 : List (S105)) (u356001 : Value), v5 = .int .i64 x5_2 ∧ Aside0 (impl_table_party.l1 kq l0 x11_1 x5_2 (l0.length : Int) x11_1 (l0.length : Int) x356001_2 = some (r1, r2)) ∧ Aside0 (kq ≤ k1) ∧ Aside0 (Kd.R k105 105 w' w.heap.size (fun _ => True) u356001 x356001_2) ∧ Aside0 (w'.heap[gb354]? = some (.cells #[.int .i64 0, (.slice none 0 0)] 33 (0, 0))) ∧ Aside0 (w'.heap[gb355]? = some (.cells #[.int .i64 (l0.length : Int), u356001] 33 (0, 0))) ∧ Aside0 (Below w.heap.size w w'))
    case atStart => exact ⟨(wrap64 (x11_1 + 1)), (x356001_1), (u356001), (by first | rfl | (simp; done) | (simp [*]; done)), H', ⟨Nat.le_refl _⟩, ⟨rU HO_356001⟩, ⟨bK⟩, ⟨bK⟩, ⟨hB⟩⟩
    case round =>
     clear H'
     try clear c1
     try clear p2
     try clear c4
     try clear c6
     try clear c6b0
     try clear p6
     try clear hcz5_0
     try clear hcz5_1
     try clear hfz5_0
     try clear hfz5_1
     try clear p2
     obtain ⟨x5_2, x356001_2, u356001, rfl, HA, HK2, HO_356001, BK354, BK355, HB⟩ := hrel
     cases gk with
     | zero => exact absurd HA.out (by simp [impl_table_party.l1])
     | succ k2 =>
      have H := HA.out
      clear HA
      simp only [impl_table_party.l1] at H
      by_cases c7 : x5_2 < (l0.length : Int)
      ·rw [if_pos c7] at H
       have c7b0 : decide (x5_2 < (l0.length : Int)) = true := decide_eq_true c7
       clear c7
       replace H := Option.bind_eq_some_iff.mp H
       obtain ⟨t356, A80, H⟩ := H
       try dsimp only at H
       have A8 := Aside0.mk A80
       clear A80
       by_cases c9 : t356 = true
       ·subst c9
        rw [if_pos rfl] at H
        by_cases c10 : x356001_2.length < 8796093022208
        ·rw [if_pos c10] at H
         have LMc10 := Aside0.mk c10
         clear c10
         obtain ⟨y357, hy357⟩ : ∃ y_ : List (S105), y_ = (x356001_2 ++ [(⟨x11_1, x5_2⟩ : S105)]) := ⟨_, rfl⟩
         replace H : (impl_table_party.l1 k2 l0 x11_1 (wrap64 (x5_2 + 1)) (l0.length : Int) x11_1 (l0.length : Int) y357) = some (r1, r2) := by first | (rw [hy357]; with_reducible exact H) | (have H2_ := (Option.bind_some _ _).symm.trans H; rw [hy357]; with_reducible exact H2_) | (have H2_ := (Option.bind_some _ _).symm.trans H; with_reducible exact H2_) | with_reducible exact H | (rw [hy357]; exact H) | exact H
         have Ny357 := Aside0.mk hy357
         clear hy357
         have H' := Aside0.mk H
         clear H
         go_wp2_with (first | ((with_reducible refine gate_callee (f := 64) rfl ?_); refine goC (N := some 25) Tryd.func64 #[.slice A0 l0.length c0, .int .i64 x11_1, .int .i64 x5_2] rfl ?_; (with_reducible refine (impl_table_has.calls _ _ l0 x11_1 x5_2 true _ ?side1 ?side2 A8.out).mono ?_); (case side1 => exact cS (Kd.C_below HR0.out HB.out)); (case side2 => exact HC0.out); rintro e w' ⟨rfl, ⟨nd, rfl⟩⟩; refine ⟨_, rfl, ?_⟩; (try (rw [drewN_self wr]; generalize hq_ : World.drewN wr _ = wr; have n0_ : Aside0 (Kd.R k105 105 wr w.heap.size (fun _ => True) u356001 x356001_2) := ⟨by rw [← hq_]; exact (rU HO_356001)⟩; have n1_ : Aside0 (wr.heap[gb354]? = some (.cells #[.int .i64 0, .slice none 0 0] 33 (0, 0))) := ⟨by rw [← hq_]; exact bK⟩; have n2_ : Aside0 (wr.heap[gb355]? = some (.cells #[.int .i64 (l0.length : Int), u356001] 33 (0, 0))) := ⟨by rw [← hq_]; exact bK⟩; have n3_ : Aside0 (Below w.heap.size w wr) := ⟨by rw [← hq_]; exact hB⟩; clear HO_356001 BK354 BK355 HB hq_; have HO_356001 := n0_; have BK354 := n1_; have BK355 := n2_; have HB := n3_; clear n0_ n1_ n2_ n3_)); have hnb11 := NB355_354.out; have hnc11 := NB354_355.out; have hcz12_0 := cz BK355 0; have hcz12_1 := cz BK355 1; have hfz12_0 := fz BK355 0; have hfz12_1 := fz BK355 1) | ((with_reducible refine gate_builtin (b := .append) (xs := #[.tmp 27, .tmp 31]) rfl ?_); at_builtin; refine Kd.R_append k105 (w0 := w) w.heap.size rfl (.tmp 27) (.tmp 31) 31 105 (.agg #[(.int .i64 0), (.int .i64 0)]) 16 rfl Tryd.underlying31 info105 rfl (by decide) (by omega) u356001 x356001_2 (⟨x11_1, x5_2⟩ : S105) [.int .i64 x11_1, .int .i64 x5_2] (fun _ => True) (fun _ => False) rfl rfl ?aP (fun _ hk => hk.elim) ?aF ?aO ?aB ?aS ?aL ?_; (case aP => exact k105_mkM _ _ _ (⟨x11_1, x5_2⟩ : S105)); (case aB => exact hB); (case aF => exact (fun _ _ => trivial)); (case aO => exact (rU HO_356001)); (case aS => exact (below_size hB)); (case aL => have := LMc10.out; omega); intro v358 w13 ho hb hg hat; rw [← Ny357.out] at ho; have n0_ := Aside0.mk (blk_grown (g := gb354) (o := .cells #[.int .i64 0, .slice none 0 0] 33 (0, 0)) bK hg (Kd.R_ne HO_356001.out BK354.out (by decide))); have n1_ := Aside0.mk (blk_grown (g := gb355) (o := .cells #[.int .i64 (l0.length : Int), u356001] 33 (0, 0)) bK hg (Kd.R_ne HO_356001.out BK355.out (by decide))); have n2_ := Aside0.mk (hb); have n3_ := Aside0.mk (ho); clear BK354; clear BK355; clear HB; clear HO_356001; have BK354 := n0_; have BK355 := n1_; have HB := n2_; have HO359 := n3_; clear n0_ n1_ n2_ n3_; clear ho hb hg hat; obtain ⟨Ao14, co14, eo14⟩ := Kd.R_slice HO359.out; subst eo14; have hcz15_0 := cz BK355 0; have hcz15_1 := cz BK355 1; have hfz15_0 := fz BK355 0; have hfz15_1 := fz BK355 1))
         go_roundg k2
         case measure => have := HK1.out; have := HK2.out; omega
         case rel => exact ⟨(wrap64 (x5_2 + 1)), (y357), (.slice Ao14 y357.length co14), (by first | rfl | (simp; done) | (simp [*]; done)), H', ⟨by have := HK1.out; have := HK2.out; omega⟩, ⟨by (with_reducible repeat (first | apply Kd.R_alloc | apply Kd.R_drewN | apply Kd.R_drew)); exact Kd.R_mono (Kd.R_far (p := ⟨gb355, 1, none⟩) (Kd.R_types HO359.out BK355.out (by decide)) (fun _ hk => hk.2) (.slice Ao14 y357.length co14)) (fun _ hk => trivial)⟩, ⟨by (with_reducible repeat (first | refine blk_drewN ?_ _ | refine blk_drew ?_ | refine blk_alloc ?_ _)); refine blk_far ?_ NB354_355.out _; (with_reducible repeat (first | refine blk_drewN ?_ _ | refine blk_drew ?_ | refine blk_alloc ?_ _)); exact BK354.out⟩, ⟨by (with_reducible repeat (first | refine blk_drewN ?_ _ | refine blk_drew ?_ | refine blk_alloc ?_ _)); refine blk_put (cs := #[.int .i64 (l0.length : Int), u356001]) ?_ 1 _ rfl; (with_reducible repeat (first | refine blk_drewN ?_ _ | refine blk_drew ?_ | refine blk_alloc ?_ _)); exact BK355.out⟩, ⟨hB⟩⟩
        ·rw [if_neg c10] at H
         exact absurd H (by simp)
       ·replace c9 := Bool.eq_false_iff.mpr c9
        subst c9
        rw [if_neg (show ¬ (false = true) by decide)] at H
        have H' := Aside0.mk H
        clear H
        go_wp2_with (first | ((with_reducible refine gate_callee (f := 64) rfl ?_); refine goC (N := some 25) Tryd.func64 #[.slice A0 l0.length c0, .int .i64 x11_1, .int .i64 x5_2] rfl ?_; (with_reducible refine (impl_table_has.calls _ _ l0 x11_1 x5_2 false _ ?side1 ?side2 A8.out).mono ?_); (case side1 => exact cS (Kd.C_below HR0.out HB.out)); (case side2 => exact HC0.out); rintro e w' ⟨rfl, ⟨nd, rfl⟩⟩; refine ⟨_, rfl, ?_⟩))
        go_roundg k2
        case measure => have := HK1.out; have := HK2.out; omega
        case rel => exact ⟨(wrap64 (x5_2 + 1)), (x356001_2), (u356001), (by first | rfl | (simp; done) | (simp [*]; done)), H', ⟨by have := HK1.out; have := HK2.out; omega⟩, ⟨rU HO_356001⟩, ⟨bK⟩, ⟨bK⟩, ⟨hB⟩⟩
      ·rw [if_neg c7] at H
       have c7b0 : decide (x5_2 < (l0.length : Int)) = false := decide_eq_false c7
       clear c7
       have H' := Aside0.mk H
       clear H
       go_wp2
       go_roundg k2
       case measure => have := HK1.out; have := HK2.out; omega
       case rel => exact ⟨(wrap64 (x11_1 + 1)), (x356001_2), (u356001), (by first | rfl | (simp; done) | (simp [*]; done)), H', ⟨by have := HK1.out; have := HK2.out; omega⟩, ⟨rU HO_356001⟩, ⟨bK⟩, ⟨bK⟩, ⟨hB⟩⟩
   ·rw [if_neg c6] at H
    have c6b0 : decide (x11_1 < (l0.length : Int)) = false := decide_eq_false c6
    clear c6
    simp only [Option.some.injEq, Prod.mk.injEq] at H
    obtain ⟨rfl, rfl⟩ := H
    have hnb16 := NB355_354.out
    have hnc16 := NB354_355.out
    have hcz17_0 := cz BK355 0
    have hcz17_1 := cz BK355 1
    have hfz17_0 := fz BK355 0
    have hfz17_1 := fz BK355 1
    have hcz18_0 := cz BK354 0
    have hcz18_1 := cz BK354 1
    have hfz18_0 := fz BK354 0
    have hfz18_1 := fz BK354 1
    obtain ⟨Ao19, co19, eo19⟩ := Kd.R_slice HO_356001.out
    subst eo19
    go_wp2
    refine bodyPost_ret (results_cell_row rfl _ _ gb354 33 #[.int .i64 (l0.length : Int), .slice Ao19 x356001_1.length co19] (0, 0) _ rfl (by (with_reducible repeat (first | refine blk_drewN ?_ _ | refine blk_drew ?_ | refine blk_alloc ?_ _)); refine blk_put (cs := #[.int .i64 (l0.length : Int), .slice none 0 0]) ?_ 1 _ rfl; (with_reducible repeat (first | refine blk_drewN ?_ _ | refine blk_drew ?_ | refine blk_alloc ?_ _)); refine blk_put (cs := #[.int .i64 0, .slice none 0 0]) ?_ 0 _ rfl; (with_reducible repeat (first | refine blk_drewN ?_ _ | refine blk_drew ?_ | refine blk_alloc ?_ _)); exact BK354.out) Tryd.underlying33 rfl (by kernel_rfl)) rfl ?_
    exact ⟨_, by first | rfl | (simp [errW_none, errW_some] <;> rfl) | (simp [*, errW_none, errW_some] <;> rfl), by (with_reducible repeat (first | apply Kd.R_alloc | apply Kd.R_drewN | apply Kd.R_drew)); exact Kd.R_mono (Kd.R_far (p := ⟨gb354, 1, none⟩) (Kd.R_far (p := ⟨gb354, 0, none⟩) (Kd.R_types HO_356001.out BK354.out (by decide)) (fun _ hk => hk.2) (.int .i64 (l0.length : Int))) (fun _ hk => hk.2) (.slice Ao19 x356001_1.length co19)) (fun _ hk => trivial), hB⟩

/-! ### impl_FullParty: function 136 -/
def impl_FullParty.f (k : Nat) (a0 : Int) : Option (Int × (List (S105)) × Bool) := (impl_areCrowd.f a0).bind fun t361 => (if t361 = true then (if 0 ≤ a0 then (if (a0 : Int).toNat ≤ 140737488355328 then ((impl_table_others.f k (List.replicate (a0 : Int).toNat 0)).bind fun t365 => ((impl_table_party.f k t365).bind fun bt368 => (some (bt368.1, bt368.2, true)))) else (none)) else (none)) else (some (0, ([] : List (S105)), false)))
theorem impl_FullParty.mono : ∀ a0 k, LeO (impl_FullParty.f k a0) (impl_FullParty.f (k + 1) a0) := by
 intro a0 k
 unfold impl_FullParty.f
 repeat' first
   | (with_reducible exact impl_table_others.mono _ _)
   | (with_reducible exact impl_table_party.mono _ _)
   | (with_reducible exact LeO.refl _)
   | (with_reducible exact LeO.none _)
   | (with_reducible refine LeO.ite ?_ ?_)
   | (with_reducible refine LeO.bind ?_ (fun _ => ?_))
   | exact impl_table_others.mono _ _
   | exact impl_table_party.mono _ _
   | exact LeO.none _
   | refine LeO.ite ?_ ?_
   | refine LeO.bind ?_ (fun _ => ?_)
set_option maxHeartbeats 8000000 in
set_option maxRecDepth 100000 in
theorem impl_FullParty.calls (k : Nat) (a0 : Int) (r1 : Int) (r2 : List (S105)) (r3 : Bool) (w : World) (h : impl_FullParty.f k a0 = some (r1, r2, r3)) :
  Calls Tryd.prog 136 #[.int .i64 a0] w fun e w' => ∃ v1_ : Value, e = .returned (.tuple #[.agg #[.int .i64 r1, v1_], .bool r3]) ∧ Kd.R k105 105 w' w.heap.size (fun _ => True) v1_ r2 ∧ Below w.heap.size w w' := by
 have hu33 := Tryd.underlying33
 have HB := Aside0.mk (Below.refl w.heap.size w)
 have H : ((impl_areCrowd.f a0).bind fun t361 => (if t361 = true then (if 0 ≤ a0 then (if (a0 : Int).toNat ≤ 140737488355328 then ((impl_table_others.f k (List.replicate (a0 : Int).toNat 0)).bind fun t365 => ((impl_table_party.f k t365).bind fun bt368 => (some (bt368.1, bt368.2, true)))) else (none)) else (none)) else (some (0, ([] : List (S105)), false)))) = some (r1, r2, r3) := h
 clear h
 replace H := Option.bind_eq_some_iff.mp H
 obtain ⟨t361, A20, H⟩ := H
 try dsimp only at H
 have A2 := Aside0.mk A20
 clear A20
 by_cases c3 : t361 = true
 ·subst c3
  rw [if_pos rfl] at H
  by_cases c4 : 0 ≤ a0
  ·rw [if_pos c4] at H
   have c4b0 := eq_true c4
   have c4b1 : decide (0 ≤ a0) = true := decide_eq_true c4
   clear c4
   by_cases c5 : (a0 : Int).toNat ≤ 140737488355328
   ·rw [if_pos c5] at H
    have c5b0 := eq_true c5
    have c5b1 : decide ((a0 : Int).toNat ≤ 140737488355328) = true := decide_eq_true c5
    clear c5
    obtain ⟨y362, hy362⟩ : ∃ y_ : List Int, y_ = (List.replicate (a0 : Int).toNat 0) := ⟨_, rfl⟩
    replace H : ((impl_table_others.f k y362).bind fun t365 => ((impl_table_party.f k t365).bind fun bt368 => (some (bt368.1, bt368.2, true)))) = some (r1, r2, r3) := by first | (rw [hy362]; with_reducible exact H) | (have H2_ := (Option.bind_some _ _).symm.trans H; rw [hy362]; with_reducible exact H2_) | (have H2_ := (Option.bind_some _ _).symm.trans H; with_reducible exact H2_) | with_reducible exact H | (rw [hy362]; exact H) | exact H
    have Ny362 := Aside0.mk hy362
    clear hy362
    replace H := Option.bind_eq_some_iff.mp H
    obtain ⟨t365, A60, H⟩ := H
    try dsimp only at H
    have A6 := Aside0.mk A60
    clear A60
    replace H := Option.bind_eq_some_iff.mp H
    obtain ⟨⟨t368, t369⟩, A70, H⟩ := H
    try dsimp only at H
    have A7 := Aside0.mk A70
    clear A70
    simp only [Option.some.injEq, Prod.mk.injEq] at H
    obtain ⟨rfl, rfl, rfl⟩ := H
    go_enter Tryd.func136, Tryd.ntmps136
    go_wp2_with (first | ((with_reducible refine gate_dst (N := 2) rfl ?_); refine bxE 2 #[.int .i64 0, .slice none 0 0] 33 rfl ?_; intro gb360 hg w8 hbox hb; have BK360 := Aside0.mk (hbox); have GW360 := gS HB hg; have GE360 := gS HB hg; replace HB := hS HB hb; clear hb hbox hg) | ((with_reducible refine gate_callee (f := 120) rfl ?_); refine goC (N := some 5) Tryd.func120 #[.int .i64 a0] rfl ?_; (with_reducible refine (impl_areCrowd.calls a0 true _ A2.out).mono ?_); rintro e w' ⟨rfl, ⟨nd, rfl⟩⟩; refine ⟨_, rfl, ?_⟩; (try (rw [drewN_self w8]; generalize hq_ : World.drewN w8 _ = w8; have n0_ : Aside0 (w8.heap[gb360]? = some (.cells #[.int .i64 0, .slice none 0 0] 33 (0, 0))) := ⟨by rw [← hq_]; exact bK⟩; have n1_ : Aside0 (Below w.heap.size w w8) := ⟨by rw [← hq_]; exact hB⟩; clear BK360 HB hq_; have BK360 := n0_; have HB := n1_; clear n0_ n1_))) | ((with_reducible refine gate_dst (N := 9) rfl ?_); refine Kd.R_make (Kd.int .u16) _ 97 rfl (N := 9) rfl 81 _ _ rfl a0 rfl rfl Tryd.underlying81 (.int .u16 0) 2 info97 rfl (by decide) (by omega) 0 (ok := fun _ => True) (okp := fun _ => True) rfl (fun _ hk => hk) trivial (of_decide_eq_true (by first | (with_reducible assumption) | assumption)) (Nat.le_trans (Nat.mul_le_mul_right _ (of_decide_eq_true (by first | (with_reducible assumption) | assumption) : a0.toNat ≤ 140737488355328)) (by omega)) (Below.refl _ _) (Nat.le_refl _) ?_; intro v363 w9 ho10 hb hg_ hnew_; clear hg_ hnew_; (first | rw [← Ny362.out] at ho10 | (simp only [Int.reduceToNat] at ho10; rw [← Ny362.out] at ho10)); have HO364 := Aside0.mk (Kd.R_lower ho10 (below_size hB)); replace BK360 := bS BK360 hb; replace HB := hS HB hb; clear hb ho10; obtain ⟨Ao11, co11, eo11⟩ := Kd.R_slice HO364.out; subst eo11) | ((with_reducible refine gate_callee (f := 94) rfl ?_); refine goC (N := some 10) Tryd.func94 #[.slice Ao11 y362.length co11] rfl ?_; (with_reducible refine (impl_table_others.calls k _ _ y362 t365 _ ?side1 ?side2 A6.out).mono ?_); (case side1 => exact cS (Kd.R_reads' HO364.out).2.2); (case side2 => exact (Kd.R_reads' HO364.out).2.1); rintro e w12 ⟨v366, rfl, ho0, hb⟩; refine ⟨_, rfl, ?_⟩; have HO367 := Aside0.mk (Kd.R_lower (Kd.R_new' ho0 (Kd.R_lt (rU HO364))) (below_size hB)); replace HO364 := Aside0.mk (Kd.R_elder' (rU HO364) (Kd.R_base ho0) hb); replace BK360 := bS BK360 hb; replace HB := hS HB hb; (try clear hb); (try clear hb2); (try clear hk); (try clear hi); (try clear ho0); obtain ⟨Ao13, co13, eo13⟩ := Kd.R_slice HO367.out; subst eo13) | ((with_reducible refine gate_callee (f := 152) rfl ?_); refine goC (N := some 11) Tryd.func152 #[.slice Ao13 t365.length co13] rfl ?_; (with_reducible refine (impl_table_party.calls k _ _ t365 t368 t369 _ ?side1 ?side2 A7.out).mono ?_); (case side1 => exact cS (Kd.R_reads' HO367.out).2.2); (case side2 => exact (Kd.R_reads' HO367.out).2.1); rintro e w14 ⟨v370, rfl, ho0, hb⟩; refine ⟨_, rfl, ?_⟩; have HO371 := Aside0.mk (Kd.R_lower ho0 (below_size hB)); replace HO364 := Aside0.mk (Kd.R_below (rU HO364) hb); replace HO367 := Aside0.mk (Kd.R_below (rU HO367) hb); replace BK360 := bS BK360 hb; replace HB := hS HB hb; (try clear hb); (try clear hb2); (try clear hk); (try clear hi); (try clear ho0); have hcz15_0 := cz BK360 0; have hcz15_1 := cz BK360 1; have hfz15_0 := fz BK360 0; have hfz15_1 := fz BK360 1; obtain ⟨Ao16, co16, eo16⟩ := Kd.R_slice HO371.out; subst eo16))
    refine bodyPost_ret (results_ct rfl _ _ gb360 33 #[.int .i64 t368, .slice Ao16 t369.length co16] (0, 0) _ rfl (by (with_reducible repeat (first | refine blk_drewN ?_ _ | refine blk_drew ?_ | refine blk_alloc ?_ _)); refine blk_put (cs := #[.int .i64 t368, .slice none 0 0]) ?_ 1 _ rfl; (with_reducible repeat (first | refine blk_drewN ?_ _ | refine blk_drew ?_ | refine blk_alloc ?_ _)); refine blk_put (cs := #[.int .i64 0, .slice none 0 0]) ?_ 0 _ rfl; (with_reducible repeat (first | refine blk_drewN ?_ _ | refine blk_drew ?_ | refine blk_alloc ?_ _)); exact BK360.out) Tryd.underlying33 rfl (by kernel_rfl)) rfl ?_
    exact ⟨_, by first | rfl | (simp [errW_none, errW_some] <;> rfl) | (simp [*, errW_none, errW_some] <;> rfl), by (with_reducible repeat (first | apply Kd.R_alloc | apply Kd.R_drewN | apply Kd.R_drew)); exact Kd.R_mono (Kd.R_far (p := ⟨gb360, 1, none⟩) (Kd.R_far (p := ⟨gb360, 0, none⟩) (Kd.R_types HO371.out BK360.out (by decide)) (fun _ hk => hk.2) (.int .i64 t368)) (fun _ hk => hk.2) (.slice Ao16 t369.length co16)) (fun _ hk => trivial), hB⟩
   ·rw [if_neg c5] at H
    exact absurd H (by simp)
  ·rw [if_neg c4] at H
   exact absurd H (by simp)
 ·replace c3 := Bool.eq_false_iff.mpr c3
  subst c3
  rw [if_neg (show ¬ (false = true) by decide)] at H
  simp only [Option.some.injEq, Prod.mk.injEq] at H
  obtain ⟨rfl, rfl, rfl⟩ := H
  go_enter Tryd.func136, Tryd.ntmps136
  go_wp2_with (first | ((with_reducible refine gate_dst (N := 2) rfl ?_); refine bxE 2 #[.int .i64 0, .slice none 0 0] 33 rfl ?_; intro gb360 hg w17 hbox hb; have BK360 := Aside0.mk (hbox); have GW360 := gS HB hg; have GE360 := gS HB hg; replace HB := hS HB hb; clear hb hbox hg) | ((with_reducible refine gate_callee (f := 120) rfl ?_); refine goC (N := some 5) Tryd.func120 #[.int .i64 a0] rfl ?_; (with_reducible refine (impl_areCrowd.calls a0 false _ A2.out).mono ?_); rintro e w' ⟨rfl, ⟨nd, rfl⟩⟩; refine ⟨_, rfl, ?_⟩; (try (rw [drewN_self w17]; generalize hq_ : World.drewN w17 _ = w17; have n0_ : Aside0 (w17.heap[gb360]? = some (.cells #[.int .i64 0, .slice none 0 0] 33 (0, 0))) := ⟨by rw [← hq_]; exact bK⟩; have n1_ : Aside0 (Below w.heap.size w w17) := ⟨by rw [← hq_]; exact hB⟩; clear BK360 HB hq_; have BK360 := n0_; have HB := n1_; clear n0_ n1_)); have hcz18_0 := cz BK360 0; have hcz18_1 := cz BK360 1; have hfz18_0 := fz BK360 0; have hfz18_1 := fz BK360 1))
  refine bodyPost_ret (results_ct rfl _ _ gb360 33 #[.int .i64 0, .slice none 0 0] (0, 0) _ rfl (by (with_reducible repeat (first | refine blk_drewN ?_ _ | refine blk_drew ?_ | refine blk_alloc ?_ _)); refine blk_put (cs := #[.int .i64 0, .slice none 0 0]) ?_ 1 _ rfl; (with_reducible repeat (first | refine blk_drewN ?_ _ | refine blk_drew ?_ | refine blk_alloc ?_ _)); refine blk_put (cs := #[.int .i64 0, .slice none 0 0]) ?_ 0 _ rfl; (with_reducible repeat (first | refine blk_drewN ?_ _ | refine blk_drew ?_ | refine blk_alloc ?_ _)); exact BK360.out) Tryd.underlying33 rfl (by kernel_rfl)) rfl ?_
  exact ⟨_, by first | rfl | (simp [errW_none, errW_some] <;> rfl) | (simp [*, errW_none, errW_some] <;> rfl), by first | exact Kd.R_nil _ _ _ _ _ | exact Kd.N_nil _ _ _ _ _ | exact Kd.V_nil _ _ _ _ _ | exact Kd.Q_nil _ _ _ _ _ | exact Kd.S_nil _ _ _ _ _, hB⟩

/-! ### impl_Party_table: function 61 -/
def impl_Party_table.l0 : Nat → List Int → List (S105) → Int → Int → Option (List Int)
 | 0, _, _, _, _ => none
 | k + 1, x3, x10, x11, x12 => if x12 < x11 then (if 0 ≤ x12 then (if x12 < (x10.length : Int) then (if 0 ≤ ((rd_T105 x10 x12).f0) then (if ((rd_T105 x10 x12).f0) < (x3.length : Int) then (if 0 ≤ ((rd_T105 x10 x12).f1) then ((some (x3.set (((rd_T105 x10 x12).f0) : Int).toNat (Go.bits .or .u16 (rd x3 ((rd_T105 x10 x12).f0)) (shl .u16 1 ((rd_T105 x10 x12).f1))) : List Int)).bind fun y379 => (if ((rd_T105 x10 x12).f1) < (x3.length : Int) then (impl_Party_table.l0 k (y379.set (((rd_T105 x10 x12).f1) : Int).toNat (Go.bits .or .u16 (rd y379 ((rd_T105 x10 x12).f1)) (shl .u16 1 ((rd_T105 x10 x12).f0)))) x10 x11 (wrap64 (x12 + 1))) else (none))) else (none)) else (none)) else (none)) else (none)) else (none)) else (some x3)
def impl_Party_table.f (k : Nat) (a0_0 : Int) (l0_1 : List (S105)) : Option (List Int) := if 0 ≤ a0_0 then (if (a0_0 : Int).toNat ≤ 140737488355328 then (impl_Party_table.l0 k (List.replicate (a0_0 : Int).toNat 0) l0_1 (l0_1.length : Int) 0) else (none)) else (none)
theorem impl_Party_table.mono_l : ∀ k, (∀ y0 y1 y2 y3, LeO (impl_Party_table.l0 k y0 y1 y2 y3) (impl_Party_table.l0 (k + 1) y0 y1 y2 y3))
 | 0 => fun _ _ _ _ r h => by simp [impl_Party_table.l0] at h
 | k + 1 => by
  have ih0 := impl_Party_table.mono_l k
  ·intro y0 y1 y2 y3
   unfold impl_Party_table.l0
   repeat' first
   | (with_reducible exact ih0 _ _ _ _)
   | (with_reducible exact LeO.refl _)
   | (with_reducible exact LeO.none _)
   | (with_reducible refine LeO.ite ?_ ?_)
   | (with_reducible refine LeO.bind ?_ (fun _ => ?_))
   | exact ih0 _ _ _ _
   | exact LeO.none _
   | refine LeO.ite ?_ ?_
   | refine LeO.bind ?_ (fun _ => ?_)
theorem impl_Party_table.mono : ∀ a0 a1 k, LeO (impl_Party_table.f k a0 a1) (impl_Party_table.f (k + 1) a0 a1) := by
 intro a0 a1 k
 have ih0 := impl_Party_table.mono_l k
 unfold impl_Party_table.f
 repeat' first
   | (with_reducible exact ih0 _ _ _ _)
   | (with_reducible exact LeO.refl _)
   | (with_reducible exact LeO.none _)
   | (with_reducible refine LeO.ite ?_ ?_)
   | (with_reducible refine LeO.bind ?_ (fun _ => ?_))
   | exact ih0 _ _ _ _
   | exact LeO.none _
   | refine LeO.ite ?_ ?_
   | refine LeO.bind ?_ (fun _ => ?_)
def impl_Party_table.T5 : Bool × List (List Nat × List Nat) := (true, [([], []), ([], []), ([1], [1]), ([0, 2], [0, 2]), ([3], [3]), ([], []), ([5], [5]), ([6], [6]), ([4, 7], [4, 7]), ([0, 2, 0, 1, 2, 3, 4, 5, 6, 7, 8], [0, 2]), ([9, 8, 0, 1, 2, 3, 4, 5, 6, 7, 8], [8, 9])])
def impl_Party_table.B5 : List Nat := [0, 0, 2, 7, 15, 0, 32, 96, 255, 511, 1023]
theorem impl_Party_table.tab5 : rtab .any (opsOf Tryd.f61 5) = impl_Party_table.T5 := by kernel_rfl
theorem impl_Party_table.bits5 : waitsOk impl_Party_table.T5.2 impl_Party_table.B5 = true := by kernel_rfl
def impl_Party_table.T6 : Bool × List (List Nat × List Nat) := (true, [([], []), ([], []), ([1], [1]), ([0, 2], [0, 2]), ([3], [3]), ([], []), ([5], [5]), ([6], [6]), ([4, 7], [4, 7]), ([0, 2, 0, 1, 2, 3, 4, 5, 6, 7, 8], [0, 2]), ([9, 8, 0, 1, 2, 3, 4, 5, 6, 7, 8], [8, 9])])
def impl_Party_table.B6 : List Nat := [0, 0, 2, 7, 15, 0, 32, 96, 255, 511, 1023]
theorem impl_Party_table.tab6 : rtab .any (opsOf Tryd.f61 6) = impl_Party_table.T6 := by kernel_rfl
theorem impl_Party_table.bits6 : waitsOk impl_Party_table.T6.2 impl_Party_table.B6 = true := by kernel_rfl
set_option maxHeartbeats 8000000 in
set_option maxRecDepth 100000 in
theorem impl_Party_table.calls (k : Nat) (a0_0 : Int) (A0_1 : Option Addr) (c0_1 : Nat) (l0_1 : List (S105)) (r : List Int) (w : World) (hr0_1 : Kd.C k105 w A0_1 l0_1.length l0_1) (hc0_1 : l0_1.length ≤ c0_1) (h : impl_Party_table.f k a0_0 l0_1 = some r) :
  Calls Tryd.prog 61 #[.agg #[.int .i64 a0_0, .slice A0_1 l0_1.length c0_1]] w fun e w' => ∃ v0_ : Value, e = .returned (v0_) ∧ Kd.R (Kd.int .u16) 97 w' w.heap.size (fun _ => True) v0_ r ∧ Below w.heap.size w w' := by
 have hu33 := Tryd.underlying33
 have hu105 := Tryd.underlying105
 have HR0_1 := Aside0.mk hr0_1
 have HC0_1 := Aside0.mk hc0_1
 clear hr0_1 hc0_1
 have HB := Aside0.mk (Below.refl w.heap.size w)
 have H : (if 0 ≤ a0_0 then (if (a0_0 : Int).toNat ≤ 140737488355328 then (impl_Party_table.l0 k (List.replicate (a0_0 : Int).toNat 0) l0_1 (l0_1.length : Int) 0) else (none)) else (none)) = some r := h
 clear h
 by_cases c2 : 0 ≤ a0_0
 ·rw [if_pos c2] at H
  have c2b0 := eq_true c2
  have c2b1 : decide (0 ≤ a0_0) = true := decide_eq_true c2
  clear c2
  by_cases c3 : (a0_0 : Int).toNat ≤ 140737488355328
  ·rw [if_pos c3] at H
   have c3b0 := eq_true c3
   have c3b1 : decide ((a0_0 : Int).toNat ≤ 140737488355328) = true := decide_eq_true c3
   clear c3
   obtain ⟨y373, hy373⟩ : ∃ y_ : List Int, y_ = (List.replicate (a0_0 : Int).toNat 0) := ⟨_, rfl⟩
   replace H : (impl_Party_table.l0 k y373 l0_1 (l0_1.length : Int) 0) = some r := by first | (rw [hy373]; with_reducible exact H) | (have H2_ := (Option.bind_some _ _).symm.trans H; rw [hy373]; with_reducible exact H2_) | (have H2_ := (Option.bind_some _ _).symm.trans H; with_reducible exact H2_) | with_reducible exact H | (rw [hy373]; exact H) | exact H
   have Ny373 := Aside0.mk hy373
   clear hy373
   have H' := Aside0.mk H
   clear H
   go_enter Tryd.func61, Tryd.ntmps61
   go_wp2_with (first | ((with_reducible refine gate_dst (N := 1) rfl ?_); refine bxE 1 #[.int .i64 a0_0, .slice A0_1 l0_1.length c0_1] 33 rfl ?_; intro gb372 hg w4 hbox hb; have BK372 := Aside0.mk (hbox); have GW372 := gS HB hg; have GE372 := gS HB hg; replace HB := hS HB hb; clear hb hbox hg; have hcz5_0 := cz BK372 0; have hcz5_1 := cz BK372 1; have hfz5_0 := fz BK372 0; have hfz5_1 := fz BK372 1) | ((with_reducible refine gate_dst (N := 8) rfl ?_); refine Kd.R_make (Kd.int .u16) _ 97 rfl (N := 8) rfl 81 _ _ rfl a0_0 rfl rfl Tryd.underlying81 (.int .u16 0) 2 info97 rfl (by decide) (by omega) 0 (ok := fun _ => True) (okp := fun _ => True) rfl (fun _ hk => hk) trivial (of_decide_eq_true (by first | (with_reducible assumption) | assumption)) (Nat.le_trans (Nat.mul_le_mul_right _ (of_decide_eq_true (by first | (with_reducible assumption) | assumption) : a0_0.toNat ≤ 140737488355328)) (by omega)) (Below.refl _ _) (Nat.le_refl _) ?_; intro v374 w6 ho7 hb hg_ hnew_; clear hg_ hnew_; (first | rw [← Ny373.out] at ho7 | (simp only [Int.reduceToNat] at ho7; rw [← Ny373.out] at ho7)); have HO375 := Aside0.mk (Kd.R_lower ho7 (below_size hB)); replace BK372 := bS BK372 hb; replace HB := hS HB hb; clear hb ho7; have hcz8_0 := cz BK372 0; have hcz8_1 := cz BK372 1; have hfz8_0 := fz BK372 0; have hfz8_1 := fz BK372 1))
   go_loopg [12] k (fun kq v12 w' => ∃ (x3_1 : List Int) (x12_1 : Int), v12 = .int .i64 x12_1 ∧ Aside0 (impl_Party_table.l0 kq x3_1 l0_1 (l0_1.length : Int) x12_1 = some r) ∧ Aside0 (kq ≤ k) ∧ Aside0 (Kd.R (Kd.int .u16) 97 w' w.heap.size (fun _ => True) v374 x3_1) ∧ Aside0 (w'.heap[gb372]? = some (.cells #[.int .i64 a0_0, (.slice A0_1 l0_1.length c0_1)] 33 (0, 0))) ∧ Aside0 (Below w.heap.size w w'))
   case atStart => exact ⟨(y373), (0), (by first | rfl | (simp; done) | (simp [*]; done)), H', ⟨Nat.le_refl _⟩, ⟨rU HO375⟩, ⟨bK⟩, ⟨hB⟩⟩
   case round =>
    clear H'
    try clear c2
    try clear c2b0
    try clear c2b1
    try clear p2
    try clear c3
    try clear c3b0
    try clear c3b1
    try clear c6
    try clear hcz5_0
    try clear hcz5_1
    try clear hcz8_0
    try clear hcz8_1
    try clear hfz5_0
    try clear hfz5_1
    try clear hfz8_0
    try clear hfz8_1
    obtain ⟨x3_1, x12_1, rfl, HA, HK1, HO_3, BK372, HB⟩ := hrel
    cases gk with
    | zero => exact absurd HA.out (by simp [impl_Party_table.l0])
    | succ k1 =>
     have H := HA.out
     clear HA
     simp only [impl_Party_table.l0] at H
     by_cases c9 : x12_1 < (l0_1.length : Int)
     ·rw [if_pos c9] at H
      have c9b0 : decide (x12_1 < (l0_1.length : Int)) = true := decide_eq_true c9
      clear c9
      by_cases c10 : 0 ≤ x12_1
      ·rw [if_pos c10] at H
       have c10b0 : decide (0 ≤ x12_1) = true := decide_eq_true c10
       clear c10
       by_cases c11 : x12_1 < (l0_1.length : Int)
       ·rw [if_pos c11] at H
        have c11b0 : decide (x12_1 < (l0_1.length : Int)) = true := decide_eq_true c11
        clear c11
        by_cases c12 : 0 ≤ ((rd_T105 l0_1 x12_1).f0)
        ·rw [if_pos c12] at H
         have c12b0 : decide (0 ≤ ((rd_T105 l0_1 x12_1).f0)) = true := decide_eq_true c12
         clear c12
         by_cases c13 : ((rd_T105 l0_1 x12_1).f0) < (x3_1.length : Int)
         ·rw [if_pos c13] at H
          have c13b0 : decide (((rd_T105 l0_1 x12_1).f0) < (x3_1.length : Int)) = true := decide_eq_true c13
          clear c13
          by_cases c14 : 0 ≤ ((rd_T105 l0_1 x12_1).f1)
          ·rw [if_pos c14] at H
           have c14b0 := eq_true c14
           have c14b1 : decide (0 ≤ ((rd_T105 l0_1 x12_1).f1)) = true := decide_eq_true c14
           clear c14
           obtain ⟨ji15, hji15⟩ : ∃ j_ : Int, (shl .u16 1 ((rd_T105 l0_1 x12_1).f1)) = j_ := ⟨_, rfl⟩
           replace H : ((some (x3_1.set (((rd_T105 l0_1 x12_1).f0) : Int).toNat (Go.bits .or .u16 (rd x3_1 ((rd_T105 l0_1 x12_1).f0)) (ji15)) : List Int)).bind fun y379 => (if ((rd_T105 l0_1 x12_1).f1) < (x3_1.length : Int) then (impl_Party_table.l0 k1 (y379.set (((rd_T105 l0_1 x12_1).f1) : Int).toNat (Go.bits .or .u16 (rd y379 ((rd_T105 l0_1 x12_1).f1)) (shl .u16 1 ((rd_T105 l0_1 x12_1).f0)))) l0_1 (l0_1.length : Int) (wrap64 (x12_1 + 1))) else (none))) = some r := by first | (rw [hji15] at H; exact H) | (simp only [hji15] at H ⊢; exact H)
           have hji15_ : (IntKind.u16.wrap (1 * 2 ^ min ((rd_T105 l0_1 x12_1).f1).toNat 16)) = ji15 := hji15
           have hji15z : ((rd_T105 l0_1 x12_1).f1) ≤ 16 → (IntKind.u16.wrap (1 * 2 ^ ((rd_T105 l0_1 x12_1).f1).toNat)) = ji15 := shl_small hji15
           have hji15u : (IntKind.u16.wrap (2 ^ min ((rd_T105 l0_1 x12_1).f1).toNat 16)) = ji15 := by have h_ := hji15_; rw [Int.one_mul] at h_; exact h_
           have hji15v : ((rd_T105 l0_1 x12_1).f1) ≤ 16 → (IntKind.u16.wrap (2 ^ ((rd_T105 l0_1 x12_1).f1).toNat)) = ji15 := fun hle_ => by have h_ := hji15z hle_; rw [Int.one_mul] at h_; exact h_
           obtain ⟨y379, hy379⟩ : ∃ y_ : List Int, y_ = (x3_1.set (((rd_T105 l0_1 x12_1).f0) : Int).toNat (Go.bits .or .u16 (rd x3_1 ((rd_T105 l0_1 x12_1).f0)) (ji15))) := ⟨_, rfl⟩
           replace H : (if ((rd_T105 l0_1 x12_1).f1) < (x3_1.length : Int) then (impl_Party_table.l0 k1 (y379.set (((rd_T105 l0_1 x12_1).f1) : Int).toNat (Go.bits .or .u16 (rd y379 ((rd_T105 l0_1 x12_1).f1)) (shl .u16 1 ((rd_T105 l0_1 x12_1).f0)))) l0_1 (l0_1.length : Int) (wrap64 (x12_1 + 1))) else (none)) = some r := by first | (rw [hy379]; with_reducible exact H) | (have H2_ := (Option.bind_some _ _).symm.trans H; rw [hy379]; with_reducible exact H2_) | (have H2_ := (Option.bind_some _ _).symm.trans H; with_reducible exact H2_) | with_reducible exact H | (rw [hy379]; exact H) | exact H
           have Ny379 := Aside0.mk hy379
           clear hy379
           by_cases c17 : ((rd_T105 l0_1 x12_1).f1) < (x3_1.length : Int)
           ·rw [if_pos c17] at H
            have c17b0 : decide (((rd_T105 l0_1 x12_1).f1) < (x3_1.length : Int)) = true := decide_eq_true c17
            clear c17
            have c18b0 := eq_true (of_decide_eq_true (by first | (with_reducible assumption) | assumption) : 0 ≤ ((rd_T105 l0_1 x12_1).f0))
            obtain ⟨ji19, hji19⟩ : ∃ j_ : Int, (shl .u16 1 ((rd_T105 l0_1 x12_1).f0)) = j_ := ⟨_, rfl⟩
            replace H : (impl_Party_table.l0 k1 (y379.set (((rd_T105 l0_1 x12_1).f1) : Int).toNat (Go.bits .or .u16 (rd y379 ((rd_T105 l0_1 x12_1).f1)) (ji19))) l0_1 (l0_1.length : Int) (wrap64 (x12_1 + 1))) = some r := by first | (rw [hji19] at H; exact H) | (simp only [hji19] at H ⊢; exact H)
            have hji19_ : (IntKind.u16.wrap (1 * 2 ^ min ((rd_T105 l0_1 x12_1).f0).toNat 16)) = ji19 := hji19
            have hji19z : ((rd_T105 l0_1 x12_1).f0) ≤ 16 → (IntKind.u16.wrap (1 * 2 ^ ((rd_T105 l0_1 x12_1).f0).toNat)) = ji19 := shl_small hji19
            have hji19u : (IntKind.u16.wrap (2 ^ min ((rd_T105 l0_1 x12_1).f0).toNat 16)) = ji19 := by have h_ := hji19_; rw [Int.one_mul] at h_; exact h_
            have hji19v : ((rd_T105 l0_1 x12_1).f0) ≤ 16 → (IntKind.u16.wrap (2 ^ ((rd_T105 l0_1 x12_1).f0).toNat)) = ji19 := fun hle_ => by have h_ := hji19z hle_; rw [Int.one_mul] at h_; exact h_
            obtain ⟨y381, hy381⟩ : ∃ y_ : List Int, y_ = (y379.set (((rd_T105 l0_1 x12_1).f1) : Int).toNat (Go.bits .or .u16 (rd y379 ((rd_T105 l0_1 x12_1).f1)) (ji19))) := ⟨_, rfl⟩
            replace H : (impl_Party_table.l0 k1 y381 l0_1 (l0_1.length : Int) (wrap64 (x12_1 + 1))) = some r := by first | (rw [hy381]; with_reducible exact H) | (have H2_ := (Option.bind_some _ _).symm.trans H; rw [hy381]; with_reducible exact H2_) | (have H2_ := (Option.bind_some _ _).symm.trans H; with_reducible exact H2_) | with_reducible exact H | (rw [hy381]; exact H) | exact H
            have Ny381 := Aside0.mk hy381
            clear hy381
            have H' := Aside0.mk H
            clear H
            have p376 : 0 ≤ (x12_1 : Int) := of_decide_eq_true (by first | (with_reducible assumption) | assumption)
            have q376 : x12_1 < (l0_1.length : Int) := of_decide_eq_true (by first | (with_reducible assumption) | assumption)
            obtain ⟨ad376, e376, hx376_0, hx376_1⟩ := at_T105 HR0_1.out x12_1 p376 q376
            cases e376
            replace hx376_0 := (HB.out.cell (World.block_lt_of_cell? w _ hx376_0)).trans hx376_0
            replace hx376_1 := (HB.out.cell (World.block_lt_of_cell? w _ hx376_1)).trans hx376_1
            replace p376 := eq_true p376
            replace q376 := eq_true q376
            try go_wp2_with (first | ((with_reducible refine gate_dst (N := 5) rfl ?_); refine bxE 5 #[.int .i64 0, .int .i64 0] 105 rfl ?_; intro gb377 hg w21 hbox hb; have BK377 := Aside0.mk (hbox); have GW377 := gS HB hg; have GE377 := gS HB hg; have NB372_377 := nL BK372 hg; have NB377_372 := nG BK372 hg; replace HO_3 := Aside0.mk (Kd.R_below (rU HO_3) hb); replace BK372 := bS BK372 hb; replace HB := hS HB hb; clear hb hbox hg; have hnb22 := NB377_372.out; have hnc22 := NB372_377.out; have hcz23_0 := cz BK377 0; have hcz23_1 := cz BK377 1; have hfz23_0 := fz BK377 0; have hfz23_1 := fz BK377 1))
            have n0_ : Aside0 (Kd.R (Kd.int .u16) 97 ((w21.setCell ⟨gb377, 0, none⟩ (.int .i64 ((rd_T105 l0_1 x12_1).f0))).setCell ⟨gb377, 1, none⟩ (.int .i64 ((rd_T105 l0_1 x12_1).f1))) w.heap.size (fun _ => True) v374 x3_1) := ⟨by (with_reducible repeat (first | apply Kd.R_alloc | apply Kd.R_drewN | apply Kd.R_drew)); exact Kd.R_mono (Kd.R_far (p := ⟨gb377, 1, none⟩) (Kd.R_far (p := ⟨gb377, 0, none⟩) (Kd.R_types HO_3.out BK377.out (by decide)) (fun _ hk => hk.2) (.int .i64 ((rd_T105 l0_1 x12_1).f0))) (fun _ hk => hk.2) (.int .i64 ((rd_T105 l0_1 x12_1).f1))) (fun _ hk => trivial)⟩
            have n1_ : Aside0 (((w21.setCell ⟨gb377, 0, none⟩ (.int .i64 ((rd_T105 l0_1 x12_1).f0))).setCell ⟨gb377, 1, none⟩ (.int .i64 ((rd_T105 l0_1 x12_1).f1))).heap[gb372]? = some (.cells #[.int .i64 a0_0, .slice (some ad376) l0_1.length c0_1] 33 (0, 0))) := ⟨by (with_reducible repeat (first | refine blk_drewN ?_ _ | refine blk_drew ?_ | refine blk_alloc ?_ _)); refine blk_far ?_ NB372_377.out _; (with_reducible repeat (first | refine blk_drewN ?_ _ | refine blk_drew ?_ | refine blk_alloc ?_ _)); refine blk_far ?_ NB372_377.out _; (with_reducible repeat (first | refine blk_drewN ?_ _ | refine blk_drew ?_ | refine blk_alloc ?_ _)); exact BK372.out⟩
            have n2_ : Aside0 (((w21.setCell ⟨gb377, 0, none⟩ (.int .i64 ((rd_T105 l0_1 x12_1).f0))).setCell ⟨gb377, 1, none⟩ (.int .i64 ((rd_T105 l0_1 x12_1).f1))).heap[gb377]? = some (.cells #[.int .i64 ((rd_T105 l0_1 x12_1).f0), .int .i64 ((rd_T105 l0_1 x12_1).f1)] 105 (0, 0))) := ⟨by (with_reducible repeat (first | refine blk_drewN ?_ _ | refine blk_drew ?_ | refine blk_alloc ?_ _)); refine blk_put (cs := #[.int .i64 ((rd_T105 l0_1 x12_1).f0), .int .i64 0]) ?_ 1 _ rfl; (with_reducible repeat (first | refine blk_drewN ?_ _ | refine blk_drew ?_ | refine blk_alloc ?_ _)); refine blk_put (cs := #[.int .i64 0, .int .i64 0]) ?_ 0 _ rfl; (with_reducible repeat (first | refine blk_drewN ?_ _ | refine blk_drew ?_ | refine blk_alloc ?_ _)); exact BK377.out⟩
            have n3_ : Aside0 (Below w.heap.size w ((w21.setCell ⟨gb377, 0, none⟩ (.int .i64 ((rd_T105 l0_1 x12_1).f0))).setCell ⟨gb377, 1, none⟩ (.int .i64 ((rd_T105 l0_1 x12_1).f1)))) := ⟨hB⟩
            (try clear HO_3)
            (try clear BK372)
            (try clear BK377)
            (try clear HB)
            generalize ((w21.setCell ⟨gb377, 0, none⟩ (.int .i64 ((rd_T105 l0_1 x12_1).f0))).setCell ⟨gb377, 1, none⟩ (.int .i64 ((rd_T105 l0_1 x12_1).f1))) = w24 at n0_ n1_ n2_ n3_ ⊢
            have HO_3 := n0_
            have BK372 := n1_
            have BK377 := n2_
            have HB := n3_
            clear n0_ n1_ n2_ n3_
            replace HO_3 := Aside0.mk (Kd.R_drew HO_3.out)
            replace BK372 := Aside0.mk (blk_drew BK372.out)
            replace BK377 := Aside0.mk (blk_drew BK377.out)
            replace HB := Aside0.mk (below_drew1 HB.out)
            obtain ⟨Ao26, co26, eo26⟩ := Kd.R_slice HO_3.out
            (first | subst eo26 | (injection eo26 with f1_ f2_ f3_; have f4_ := f1_.symm; have f5_ := f3_.symm; clear f1_ f2_ f3_; subst f4_; subst f5_))
            have p378 : 0 ≤ (((rd_T105 l0_1 x12_1).f0) : Int) := of_decide_eq_true (by first | (with_reducible assumption) | assumption)
            have q378 : ((rd_T105 l0_1 x12_1).f0) < (x3_1.length : Int) := of_decide_eq_true (by first | (with_reducible assumption) | assumption)
            obtain ⟨ad378, e378, hx378_0⟩ := Kd.at_int (Kd.R_reads' HO_3.out).2.2 ((rd_T105 l0_1 x12_1).f0) p378 q378
            cases e378
            replace p378 := eq_true p378
            replace q378 := eq_true q378
            have p16 : 0 ≤ (((rd_T105 l0_1 x12_1).f0) : Int) := of_decide_eq_true (by first | (with_reducible assumption) | assumption)
            have q16 : (((rd_T105 l0_1 x12_1).f0) : Int) < ((x3_1.length : Int) : Int) := of_decide_eq_true (by first | (with_reducible assumption) | assumption)
            obtain ⟨go16, co16, eo16, gb16, gl16, cl16, HG16⟩ := Kd.R_form HO_3.out (by omega)
            (first | cases eo16 | (injection eo16 with ea_ en_ ec_; (first | subst ea_ | (injection ea_ with ea_; subst ea_)); subst ec_; clear en_))
            have GB16 := Aside0.mk gb16
            have GG16 := Aside0.mk HG16
            clear gb16 gl16 HG16
            (first | simp only [add_plain] at hx378_0 | skip)
            obtain ⟨hx16_0, hf16_0⟩ := Kd.R_celln 0 HO_3.out (((rd_T105 l0_1 x12_1).f0) : Int) p16 q16
            replace p16 := eq_true p16
            replace q16 := eq_true q16
            have HP27 := Kd.R_putn HO_3.out (((rd_T105 l0_1 x12_1).f0) : Int) (Go.bits .or .u16 (rd x3_1 ((rd_T105 l0_1 x12_1).f0)) (ji15))
            rw [← Ny379.out] at HP27
            have HQ27 := Aside0.mk HP27
            clear HP27
            refine start_ (n := 11) (S := fun w' => w'.cell? ⟨gb377, 0, none⟩ = some (.int .i64 ((rd_T105 l0_1 x12_1).f0)) ∧ w'.cell? ⟨gb377, 1, none⟩ = some (.int .i64 ((rd_T105 l0_1 x12_1).f1)) ∧ w'.cell? ⟨go16, (((rd_T105 l0_1 x12_1).f0)).toNat, none⟩ = some (.int .u16 (rd x3_1 ((rd_T105 l0_1 x12_1).f0)))) (ds := [10]) (bz 11 0) (by kernel_rfl) rfl rfl ⟨(blk_cell BK377.out 0).trans rfl, (blk_cell BK377.out 1).trans rfl, hx378_0⟩ (fun hHeld => ?_); refine with_tabW impl_Party_table.tab5 impl_Party_table.bits5 (fun HT_ HW_ => ?_)
            generalize w24.drew = w25 at HO_3 BK372 BK377 HB GG16 HQ27 hf16_0 hx16_0 hx378_0 hHeld ⊢
            refine run_ [(0, 0, 1, some 16), (0, 1, 3, some 17), (0, 5, 35, some 21), (1, 2, 39, some 18), (0, 3, 47, some 19), (1, 4, 63, some 20), (1, 6, 127, some 22), (0, 7, 255, some 23), (0, 8, 511, some 24), (0, 9, 1023, some 25)] ?_
            repeat (first | (apply tag0; refine run_p (v := ?_) (a' := ?_) rfl rfl (any_of HT_.out (by kernel_rfl)) (fun _ _ _ h => h) (by rfl) ?_ ?_ ?_; rotate_left 2; (intro w'; go_simp; with_reducible rfl); (first | (simp only [Act.put, List.setIfInBounds_toArray, List.set_cons_zero, List.set_cons_succ, i64_w, i32_w]; rfl) | rfl)) | (apply tag1; refine run_t (v := ?_) (a' := ?_) rfl rfl (take_ofW HT_.out HW_.out (by kernel_rfl)) (fun _ _ _ h => h) (by rfl) ?_ hHeld ?_ ?_; rotate_left 2; (rintro w' ⟨s0, s1, s2⟩; go_simp; with_reducible rfl); (first | (simp only [Act.put, List.setIfInBounds_toArray, List.set_cons_zero, List.set_cons_succ, i64_w, i32_w]; rfl) | rfl)))
            refine run_nil ?_
            refine last_ (i := 10) (N := none) (bz 11 2047) rfl rfl (one_of HT_.out (by kernel_rfl)) (by decide) (fun K hK => ?_)
            refine skip_ (w1 := ?_) (by rfl) rfl ?_ ?_
            rotate_left
            ·go_simp
             rfl
            refine hK.out _ _ ?_
            clear hK K
            refine done_ (done_of HT_.out (by kernel_rfl)) ?_
            try go_wp2
            have n0_ : Aside0 (Kd.R (Kd.int .u16) 97 (w25.setCell ⟨go16, (((rd_T105 l0_1 x12_1).f0) : Int).toNat, none⟩ (.int .u16 (Go.bits .or .u16 (rd x3_1 ((rd_T105 l0_1 x12_1).f0)) (ji15)))) w.heap.size (fun _ => True) (.slice (some ⟨go16, 0, none⟩) x3_1.length co26) y379) := ⟨by (with_reducible repeat (first | apply Kd.R_alloc | apply Kd.R_drewN | apply Kd.R_drew)); exact HQ27.out⟩
            have n1_ : Aside0 ((w25.setCell ⟨go16, (((rd_T105 l0_1 x12_1).f0) : Int).toNat, none⟩ (.int .u16 (Go.bits .or .u16 (rd x3_1 ((rd_T105 l0_1 x12_1).f0)) (ji15)))).heap[gb372]? = some (.cells #[.int .i64 a0_0, .slice (some ad376) l0_1.length c0_1] 33 (0, 0))) := ⟨by (with_reducible repeat (first | refine blk_drewN ?_ _ | refine blk_drew ?_ | refine blk_alloc ?_ _)); refine blk_far ?_ (by have h_ := Kd.R_ne HO_3.out BK372.out (by decide); intro e_; exact h_ (by rw [e_]; rfl)) _; (with_reducible repeat (first | refine blk_drewN ?_ _ | refine blk_drew ?_ | refine blk_alloc ?_ _)); exact BK372.out⟩
            have n2_ : Aside0 ((w25.setCell ⟨go16, (((rd_T105 l0_1 x12_1).f0) : Int).toNat, none⟩ (.int .u16 (Go.bits .or .u16 (rd x3_1 ((rd_T105 l0_1 x12_1).f0)) (ji15)))).heap[gb377]? = some (.cells #[.int .i64 ((rd_T105 l0_1 x12_1).f0), .int .i64 ((rd_T105 l0_1 x12_1).f1)] 105 (0, 0))) := ⟨by (with_reducible repeat (first | refine blk_drewN ?_ _ | refine blk_drew ?_ | refine blk_alloc ?_ _)); refine blk_far ?_ (by have h_ := Kd.R_ne HO_3.out BK377.out (by decide); intro e_; exact h_ (by rw [e_]; rfl)) _; (with_reducible repeat (first | refine blk_drewN ?_ _ | refine blk_drew ?_ | refine blk_alloc ?_ _)); exact BK377.out⟩
            have n3_ : Aside0 (Below w.heap.size w (w25.setCell ⟨go16, (((rd_T105 l0_1 x12_1).f0) : Int).toNat, none⟩ (.int .u16 (Go.bits .or .u16 (rd x3_1 ((rd_T105 l0_1 x12_1).f0)) (ji15))))) := ⟨by repeat (first | (with_reducible first | exact HB.out | apply below_alloc | apply pw_below_drewN | apply below_drew1 | refine below_set ?_ GB16.out | refine below_set ?_ GE372.out | refine below_set ?_ GE377.out) | exact HB.out)⟩
            (try clear HO_3)
            (try clear BK372)
            (try clear BK377)
            (try clear HB)
            generalize (w25.setCell ⟨go16, (((rd_T105 l0_1 x12_1).f0) : Int).toNat, none⟩ (.int .u16 (Go.bits .or .u16 (rd x3_1 ((rd_T105 l0_1 x12_1).f0)) (ji15)))) = w28 at n0_ n1_ n2_ n3_ ⊢
            have HO_3 := n0_
            have BK372 := n1_
            have BK377 := n2_
            have HB := n3_
            clear n0_ n1_ n2_ n3_
            replace HO_3 := Aside0.mk (Kd.R_drew HO_3.out)
            replace BK372 := Aside0.mk (blk_drew BK372.out)
            replace BK377 := Aside0.mk (blk_drew BK377.out)
            replace HB := Aside0.mk (below_drew1 HB.out)
            have p380 : 0 ≤ (((rd_T105 l0_1 x12_1).f1) : Int) := of_decide_eq_true (by first | (with_reducible assumption) | assumption)
            have q380 : ((rd_T105 l0_1 x12_1).f1) < (y379.length : Int) := (by have h_ : (((rd_T105 l0_1 x12_1).f1) : Int) < ((x3_1.length : Int) : Int) := of_decide_eq_true (by first | (with_reducible assumption) | assumption); first | (have e_ := (Kd.R_reads' HO_3.out).1; omega) | simpa only [Ny379.out, List.length_set] using h_)
            have ql380 : ((((rd_T105 l0_1 x12_1).f1) : Int) < ((x3_1.length : Int) : Int)) = True := eq_true (of_decide_eq_true (by first | (with_reducible assumption) | assumption))
            obtain ⟨ad380, e380, hx380_0⟩ := Kd.at_int (Kd.R_reads' HO_3.out).2.2 ((rd_T105 l0_1 x12_1).f1) p380 q380
            obtain rfl : (⟨go16, 0, none⟩ : Addr) = ad380 := (by injection e380)
            (first | simp only [add_plain] at hx380_0 | simp only [add_at] at hx380_0 | simp only [Addr.add, Nat.zero_add] at hx380_0 | skip)
            replace p380 := eq_true p380
            replace q380 := eq_true q380
            have p20 : 0 ≤ (((rd_T105 l0_1 x12_1).f1) : Int) := of_decide_eq_true (by first | (with_reducible assumption) | assumption)
            have q20 : (((rd_T105 l0_1 x12_1).f1) : Int) < ((x3_1.length : Int) : Int) := of_decide_eq_true (by first | (with_reducible assumption) | assumption)
            obtain ⟨hx20_0, hf20_0⟩ := Kd.R_celln 0 HO_3.out (((rd_T105 l0_1 x12_1).f1) : Int) p20 q20
            replace p20 := eq_true p20
            replace q20 := eq_true q20
            have HP30 := Kd.R_putn HO_3.out (((rd_T105 l0_1 x12_1).f1) : Int) (Go.bits .or .u16 (rd y379 ((rd_T105 l0_1 x12_1).f1)) (ji19))
            rw [← Ny381.out] at HP30
            have HQ30 := Aside0.mk HP30
            clear HP30
            refine start_ (n := 11) (S := fun w' => w'.cell? ⟨gb377, 0, none⟩ = some (.int .i64 ((rd_T105 l0_1 x12_1).f0)) ∧ w'.cell? ⟨gb377, 1, none⟩ = some (.int .i64 ((rd_T105 l0_1 x12_1).f1)) ∧ w'.cell? ⟨go16, (((rd_T105 l0_1 x12_1).f1)).toNat, none⟩ = some (.int .u16 (rd y379 ((rd_T105 l0_1 x12_1).f1)))) (ds := [10]) (bz 11 0) (by kernel_rfl) rfl rfl ⟨(blk_cell BK377.out 0).trans rfl, (blk_cell BK377.out 1).trans rfl, hx380_0⟩ (fun hHeld => ?_); refine with_tabW impl_Party_table.tab6 impl_Party_table.bits6 (fun HT_ HW_ => ?_)
            generalize w28.drew = w29 at HO_3 BK372 BK377 HB HQ27 HQ30 hf20_0 hx20_0 hx380_0 hHeld ⊢
            refine run_ [(0, 0, 1, some 26), (0, 1, 3, some 27), (0, 5, 35, some 31), (1, 2, 39, some 28), (0, 3, 47, some 29), (1, 4, 63, some 30), (1, 6, 127, some 32), (0, 7, 255, some 33), (0, 8, 511, some 34), (0, 9, 1023, some 35)] ?_
            repeat (first | (apply tag0; refine run_p (v := ?_) (a' := ?_) rfl rfl (any_of HT_.out (by kernel_rfl)) (fun _ _ _ h => h) (by rfl) ?_ ?_ ?_; rotate_left 2; (intro w'; go_simp; with_reducible rfl); (first | (simp only [Act.put, List.setIfInBounds_toArray, List.set_cons_zero, List.set_cons_succ, i64_w, i32_w]; rfl) | rfl)) | (apply tag1; refine run_t (v := ?_) (a' := ?_) rfl rfl (take_ofW HT_.out HW_.out (by kernel_rfl)) (fun _ _ _ h => h) (by rfl) ?_ hHeld ?_ ?_; rotate_left 2; (rintro w' ⟨s0, s1, s2⟩; go_simp; with_reducible rfl); (first | (simp only [Act.put, List.setIfInBounds_toArray, List.set_cons_zero, List.set_cons_succ, i64_w, i32_w]; rfl) | rfl)))
            refine run_nil ?_
            refine last_ (i := 10) (N := none) (bz 11 2047) rfl rfl (one_of HT_.out (by kernel_rfl)) (by decide) (fun K hK => ?_)
            refine skip_ (w1 := ?_) (by rfl) rfl ?_ ?_
            rotate_left
            ·go_simp
             rfl
            refine hK.out _ _ ?_
            clear hK K
            refine done_ (done_of HT_.out (by kernel_rfl)) ?_
            try go_wp2
            go_roundg k1
            case measure => have := HK1.out; omega
            case rel => exact ⟨(y381), (wrap64 (x12_1 + 1)), (by first | rfl | (simp; done) | (simp [*]; done)), H', ⟨by have := HK1.out; omega⟩, ⟨by (with_reducible repeat (first | apply Kd.R_alloc | apply Kd.R_drewN | apply Kd.R_drew)); exact HQ30.out⟩, ⟨by (with_reducible repeat (first | refine blk_drewN ?_ _ | refine blk_drew ?_ | refine blk_alloc ?_ _)); refine blk_far ?_ (by have h_ := Kd.R_ne HO_3.out BK372.out (by decide); intro e_; exact h_ (by rw [e_]; rfl)) _; (with_reducible repeat (first | refine blk_drewN ?_ _ | refine blk_drew ?_ | refine blk_alloc ?_ _)); exact BK372.out⟩, ⟨by repeat (first | (with_reducible first | exact HB.out | apply below_alloc | apply pw_below_drewN | apply below_drew1 | refine below_set ?_ GB16.out | refine below_set ?_ GE372.out | refine below_set ?_ GE377.out) | exact HB.out)⟩⟩
           ·rw [if_neg c17] at H
            exact absurd H (by simp)
          ·rw [if_neg c14] at H
           exact absurd H (by simp)
         ·rw [if_neg c13] at H
          exact absurd H (by simp)
        ·rw [if_neg c12] at H
         exact absurd H (by simp)
       ·rw [if_neg c11] at H
        exact absurd H (by simp)
      ·rw [if_neg c10] at H
       exact absurd H (by simp)
     ·rw [if_neg c9] at H
      have c9b0 : decide (x12_1 < (l0_1.length : Int)) = false := decide_eq_false c9
      clear c9
      obtain rfl := Option.some.inj H
      go_wp2
      go_ret
      exact ⟨_, by first | rfl | (simp [errW_none, errW_some] <;> rfl) | (simp [*, errW_none, errW_some] <;> rfl), rU HO_3, hB⟩
  ·rw [if_neg c3] at H
   exact absurd H (by simp)
 ·rw [if_neg c2] at H
  exact absurd H (by simp)

/-! ### impl_sum: function 83 -/
def impl_sum.l0 : Nat → Int → List Int → Int → Int → Option (Int)
 | 0, _, _, _, _ => none
 | k + 1, x3, x6, x7, x8 => if x8 < x7 then (if 0 ≤ x8 then (if x8 < (x6.length : Int) then (impl_sum.l0 k (wrap64 (x3 + (rd x6 x8))) x6 x7 (wrap64 (x8 + 1))) else (none)) else (none)) else (some x3)
def impl_sum.f (k : Nat) (l0 : List Int) : Option (Int) := impl_sum.l0 k 0 l0 (l0.length : Int) 0
theorem impl_sum.mono_l : ∀ k, (∀ y0 y1 y2 y3, LeO (impl_sum.l0 k y0 y1 y2 y3) (impl_sum.l0 (k + 1) y0 y1 y2 y3))
 | 0 => fun _ _ _ _ r h => by simp [impl_sum.l0] at h
 | k + 1 => by
  have ih0 := impl_sum.mono_l k
  ·intro y0 y1 y2 y3
   unfold impl_sum.l0
   repeat' first
   | (with_reducible exact ih0 _ _ _ _)
   | (with_reducible exact LeO.refl _)
   | (with_reducible exact LeO.none _)
   | (with_reducible refine LeO.ite ?_ ?_)
   | (with_reducible refine LeO.bind ?_ (fun _ => ?_))
   | exact ih0 _ _ _ _
   | exact LeO.none _
   | refine LeO.ite ?_ ?_
   | refine LeO.bind ?_ (fun _ => ?_)
theorem impl_sum.mono : ∀ a0 k, LeO (impl_sum.f k a0) (impl_sum.f (k + 1) a0) := by
 intro a0 k
 have ih0 := impl_sum.mono_l k
 unfold impl_sum.f
 repeat' first
   | (with_reducible exact ih0 _ _ _ _)
   | (with_reducible exact LeO.refl _)
   | (with_reducible exact LeO.none _)
   | (with_reducible refine LeO.ite ?_ ?_)
   | (with_reducible refine LeO.bind ?_ (fun _ => ?_))
   | exact ih0 _ _ _ _
   | exact LeO.none _
   | refine LeO.ite ?_ ?_
   | refine LeO.bind ?_ (fun _ => ?_)
set_option maxHeartbeats 8000000 in
set_option maxRecDepth 100000 in
theorem impl_sum.calls (k : Nat) (A0 : Option Addr) (c0 : Nat) (l0 : List Int) (r : Int) (w : World) (hr0 : Kd.C (Kd.int .i64) w A0 l0.length l0) (hc0 : l0.length ≤ c0) (h : impl_sum.f k l0 = some r) :
  Calls Tryd.prog 83 #[.slice A0 l0.length c0] w fun e w' => e = .returned (.int .i64 r) ∧ Drawn0 w w' := by
 have HR0 := Aside0.mk hr0
 have HC0 := Aside0.mk hc0
 clear hr0 hc0
 have H : (impl_sum.l0 k 0 l0 (l0.length : Int) 0) = some r := h
 clear h
 have H' := Aside0.mk H
 clear H
 go_enter Tryd.func83, Tryd.ntmps83
 go_wp2
 go_loopg [3, 8] k (fun kq v3 v8 w' => ∃ (x3_1 : Int) (x8_1 : Int), v3 = .int .i64 x3_1 ∧ v8 = .int .i64 x8_1 ∧ Aside0 (impl_sum.l0 kq x3_1 l0 (l0.length : Int) x8_1 = some r) ∧ Aside0 (kq ≤ k) ∧ Drawn0 w w')
 case atStart => exact ⟨(0), (0), (by first | rfl | (simp; done) | (simp [*]; done)), (by first | rfl | (simp; done) | (simp [*]; done)), H', ⟨Nat.le_refl _⟩, by repeat (first | exact Drawn0.refl _ | apply Drawn0.step)⟩
 case round =>
  clear H'
  obtain ⟨x3_1, x8_1, rfl, rfl, HA, HK1, ⟨m1, rfl⟩⟩ := hrel
  cases gk with
  | zero => exact absurd HA.out (by simp [impl_sum.l0])
  | succ k1 =>
   have H := HA.out
   clear HA
   simp only [impl_sum.l0] at H
   by_cases c2 : x8_1 < (l0.length : Int)
   ·rw [if_pos c2] at H
    have c2b0 : decide (x8_1 < (l0.length : Int)) = true := decide_eq_true c2
    clear c2
    by_cases c3 : 0 ≤ x8_1
    ·rw [if_pos c3] at H
     have c3b0 : decide (0 ≤ x8_1) = true := decide_eq_true c3
     clear c3
     by_cases c4 : x8_1 < (l0.length : Int)
     ·rw [if_pos c4] at H
      have c4b0 : decide (x8_1 < (l0.length : Int)) = true := decide_eq_true c4
      clear c4
      have H' := Aside0.mk H
      clear H
      have p382 : 0 ≤ (x8_1 : Int) := of_decide_eq_true (by first | (with_reducible assumption) | assumption)
      have q382 : x8_1 < (l0.length : Int) := of_decide_eq_true (by first | (with_reducible assumption) | assumption)
      obtain ⟨ad382, e382, hx382_0⟩ := Kd.at_int HR0.out x8_1 p382 q382
      cases e382
      replace p382 := eq_true p382
      replace q382 := eq_true q382
      go_wp2
      go_roundg k1
      case measure => have := HK1.out; omega
      case rel => exact ⟨(wrap64 (x3_1 + (rd l0 x8_1))), (wrap64 (x8_1 + 1)), (by first | rfl | (simp; done) | (simp [*]; done)), (by first | rfl | (simp; done) | (simp [*]; done)), H', ⟨by have := HK1.out; omega⟩, by repeat (first | exact Drawn0.refl _ | apply Drawn0.step)⟩
     ·rw [if_neg c4] at H
      exact absurd H (by simp)
    ·rw [if_neg c3] at H
     exact absurd H (by simp)
   ·rw [if_neg c2] at H
    have c2b0 : decide (x8_1 < (l0.length : Int)) = false := decide_eq_false c2
    clear c2
    obtain rfl := Option.some.inj H
    go_wp2
    go_ret
    exact ⟨by first | rfl | (simp; done) | (simp [*]; done), by repeat (first | exact Drawn0.refl _ | apply Drawn0.step)⟩

/-! ### bits_OnesCount16: function 132 (a text of this session's own) -/
def bits_OnesCount16.f (a0 : Int) : Option Int := if 0 ≤ a0 ∧ a0 < 65536 then some ((popN 16 a0.toNat : Nat) : Int) else none
set_option maxRecDepth 100000 in
set_option maxHeartbeats 1000000 in
theorem bits_OnesCount16.calls (a0 : Int) (r : Int) (w : World) (h : bits_OnesCount16.f a0 = some r) :
    Calls Tryd.prog 132 #[.int .u16 a0] w fun e w' => e = .returned (.int .i64 r) ∧ Drawn0 w w' := by
  unfold bits_OnesCount16.f at h
  by_cases hx : 0 ≤ a0 ∧ a0 < 65536
  · rw [if_pos hx] at h
    obtain rfl := Option.some.inj h
    clear h
    obtain ⟨x, rfl⟩ := Int.eq_ofNat_of_zero_le hx.1
    have hd : (x : Int) / 256 = ((x / 256 : Nat) : Int) := by omega
    have ha : Go.bits .and .u16 (x : Int) 255 = ((x % 256 : Nat) : Int) := by
      have := u16_and_nat x 255 (by omega) (by omega)
      rw [show ((255 : Nat) : Int) = 255 from rfl] at this
      rw [this, show (255 : Nat) = 2 ^ 8 - 1 from rfl, Nat.and_two_pow_sub_one_eq_mod]
    have h1 : (0 : Int) ≤ ((x / 256 : Nat) : Int) := by omega
    have h2 : ((x / 256 : Nat) : Int) < 256 := by omega
    have h3 : (0 : Int) ≤ ((x % 256 : Nat) : Int) := by omega
    have h4 : ((x % 256 : Nat) : Int) < 256 := by omega
    have HE : Aside0 ((Go.Lib.pop8 ((x / 256 : Nat) : Int) + Go.Lib.pop8 ((x % 256 : Nat) : Int)) % 256 = ((popN 16 (x : Int).toNat : Nat) : Int)) := ⟨by
      rw [Int.toNat_natCast]
      rw [popN_byte _ (by omega), popN_byte _ (by omega), popN_split]
      have := popN_le 8 (x / 256)
      have := popN_le 8 (x % 256)
      omega⟩
    clear hx
    generalize ((x / 256 : Nat) : Int) = hi at *
    generalize ((x % 256 : Nat) : Int) = lo at *
    have hs := Go.Lib.pop8tab_size
    have hp : ∀ (i : Int) (h : i.toNat < Go.Lib.pop8tab.size), ((Go.Lib.pop8tab[i.toNat]'h).toNat : Int) = Go.Lib.pop8 i := fun i h => by simp [Go.Lib.pop8, h]
    have hp1 := hp hi
    have hp2 := hp lo
    clear hp
    have b1 : hi < (Go.Lib.pop8tab.size : Int) := by rw [hs]; exact h2
    have b2 : lo < (Go.Lib.pop8tab.size : Int) := by rw [hs]; exact h4
    clear hs
    go_enter Tryd.func132, Tryd.ntmps132
    go_wp2
    go_quiet (fail)
    go_wp2
    go_ret
    exact ⟨by rw [← HE.out]; rfl, by repeat (first | exact Drawn0.refl _ | apply Drawn0.step)⟩
  · rw [if_neg hx] at h; cases h

/-! ### impl_table_number: function 104 -/
def impl_table_number.f (l0 : List Int) (a1 : Int) : Option (Int) := if 0 ≤ a1 then (if a1 < (l0.length : Int) then ((bits_OnesCount16.f (rd l0 a1)).bind fun t384 => (some t384)) else (none)) else (none)
set_option maxHeartbeats 8000000 in
set_option maxRecDepth 100000 in
theorem impl_table_number.calls (A0 : Option Addr) (c0 : Nat) (l0 : List Int) (a1 : Int) (r : Int) (w : World) (hr0 : Kd.C (Kd.int .u16) w A0 l0.length l0) (hc0 : l0.length ≤ c0) (h : impl_table_number.f l0 a1 = some r) :
  Calls Tryd.prog 104 #[.slice A0 l0.length c0, .int .i64 a1] w fun e w' => e = .returned (.int .i64 r) ∧ Drawn0 w w' := by
 have HR0 := Aside0.mk hr0
 have HC0 := Aside0.mk hc0
 clear hr0 hc0
 have H : (if 0 ≤ a1 then (if a1 < (l0.length : Int) then ((bits_OnesCount16.f (rd l0 a1)).bind fun t384 => (some t384)) else (none)) else (none)) = some r := h
 clear h
 by_cases c3 : 0 ≤ a1
 ·rw [if_pos c3] at H
  have c3b0 : decide (0 ≤ a1) = true := decide_eq_true c3
  clear c3
  by_cases c4 : a1 < (l0.length : Int)
  ·rw [if_pos c4] at H
   have c4b0 : decide (a1 < (l0.length : Int)) = true := decide_eq_true c4
   clear c4
   replace H := Option.bind_eq_some_iff.mp H
   obtain ⟨t384, A50, H⟩ := H
   replace H : (some t384) = some r := H
   have A5 := Aside0.mk A50
   clear A50
   obtain rfl := Option.some.inj H
   have p383 : 0 ≤ (a1 : Int) := of_decide_eq_true (by first | (with_reducible assumption) | assumption)
   have q383 : a1 < (l0.length : Int) := of_decide_eq_true (by first | (with_reducible assumption) | assumption)
   obtain ⟨ad383, e383, hx383_0⟩ := Kd.at_int HR0.out a1 p383 q383
   cases e383
   replace p383 := eq_true p383
   replace q383 := eq_true q383
   go_enter Tryd.func104, Tryd.ntmps104
   go_wp2_with (first | ((with_reducible refine gate_callee (f := 132) rfl ?_); refine goC (N := some 9) Tryd.func132 #[.int .u16 (rd l0 a1)] rfl ?_; (with_reducible refine (bits_OnesCount16.calls (rd l0 a1) t384 _ A5.out).mono ?_); rintro e w' ⟨rfl, ⟨nd, rfl⟩⟩; refine ⟨_, rfl, ?_⟩))
   go_ret
   exact ⟨by first | rfl | (simp; done) | (simp [*]; done), by repeat (first | exact Drawn0.refl _ | apply Drawn0.step)⟩
  ·rw [if_neg c4] at H
   exact absurd H (by simp)
 ·rw [if_neg c3] at H
  exact absurd H (by simp)

/-! ### impl_table_numbers: function 105 -/
def impl_table_numbers.l0 : Nat → List Int → List Int → Int → Int → Option (List Int)
 | 0, _, _, _, _ => none
 | k + 1, x0, x3, x7, x8 => if x8 < x7 then ((impl_table_number.f x0 x8).bind fun t388 => (if x3.length < 17592186044416 then (impl_table_numbers.l0 k x0 (x3 ++ [t388]) x7 (wrap64 (x8 + 1))) else (none))) else (some x3)
def impl_table_numbers.f (k : Nat) (l0 : List Int) : Option (List Int) := impl_table_numbers.l0 k l0 (([] : List Int)) (l0.length : Int) 0
theorem impl_table_numbers.mono_l : ∀ k, (∀ y0 y1 y2 y3, LeO (impl_table_numbers.l0 k y0 y1 y2 y3) (impl_table_numbers.l0 (k + 1) y0 y1 y2 y3))
 | 0 => fun _ _ _ _ r h => by simp [impl_table_numbers.l0] at h
 | k + 1 => by
  have ih0 := impl_table_numbers.mono_l k
  ·intro y0 y1 y2 y3
   unfold impl_table_numbers.l0
   repeat' first
   | (with_reducible exact ih0 _ _ _ _)
   | (with_reducible exact LeO.refl _)
   | (with_reducible exact LeO.none _)
   | (with_reducible refine LeO.ite ?_ ?_)
   | (with_reducible refine LeO.bind ?_ (fun _ => ?_))
   | exact ih0 _ _ _ _
   | exact LeO.none _
   | refine LeO.ite ?_ ?_
   | refine LeO.bind ?_ (fun _ => ?_)
theorem impl_table_numbers.mono : ∀ a0 k, LeO (impl_table_numbers.f k a0) (impl_table_numbers.f (k + 1) a0) := by
 intro a0 k
 have ih0 := impl_table_numbers.mono_l k
 unfold impl_table_numbers.f
 repeat' first
   | (with_reducible exact ih0 _ _ _ _)
   | (with_reducible exact LeO.refl _)
   | (with_reducible exact LeO.none _)
   | (with_reducible refine LeO.ite ?_ ?_)
   | (with_reducible refine LeO.bind ?_ (fun _ => ?_))
   | exact ih0 _ _ _ _
   | exact LeO.none _
   | refine LeO.ite ?_ ?_
   | refine LeO.bind ?_ (fun _ => ?_)
set_option maxHeartbeats 8000000 in
set_option maxRecDepth 100000 in
theorem impl_table_numbers.calls (k : Nat) (A0 : Option Addr) (c0 : Nat) (l0 : List Int) (r : List Int) (w : World) (hr0 : Kd.C (Kd.int .u16) w A0 l0.length l0) (hc0 : l0.length ≤ c0) (h : impl_table_numbers.f k l0 = some r) :
  Calls Tryd.prog 105 #[.slice A0 l0.length c0] w fun e w' => ∃ v0_ : Value, e = .returned (v0_) ∧ Kd.R (Kd.int .i64) 3 w' w.heap.size (fun _ => True) v0_ r ∧ Below w.heap.size w w' := by
 have HR0 := Aside0.mk hr0
 have HC0 := Aside0.mk hc0
 clear hr0 hc0
 have HB := Aside0.mk (Below.refl w.heap.size w)
 have H : (impl_table_numbers.l0 k l0 (([] : List Int)) (l0.length : Int) 0) = some r := h
 clear h
 obtain ⟨y385, hy385⟩ : ∃ y_ : List Int, y_ = (([] : List Int)) := ⟨_, rfl⟩
 replace H : (impl_table_numbers.l0 k l0 y385 (l0.length : Int) 0) = some r := by first | (rw [hy385]; with_reducible exact H) | (have H2_ := (Option.bind_some _ _).symm.trans H; rw [hy385]; with_reducible exact H2_) | (have H2_ := (Option.bind_some _ _).symm.trans H; with_reducible exact H2_) | with_reducible exact H | (rw [hy385]; exact H) | exact H
 have Ny385 := Aside0.mk hy385
 clear hy385
 have H' := Aside0.mk H
 clear H
 go_enter Tryd.func105, Tryd.ntmps105
 go_wp2_with (first | ((with_reducible refine gate_dst (N := 5) rfl ?_); refine Kd.R_lit (Kd.int .i64) _ 3 ?hg (N := 5) ?hd (xs := ([] : List Int)) (inner := []) (ok := fun _ => True) (okp := fun _ => True) ?hr ?hp (fun _ hk => hk) trivial (Below.refl _ _) (Nat.le_refl _) (by simp) ?_; (case hd => rfl); (case hg => rfl); (case hr => first | (go_simp; done) | (go_simp; rfl)); (case hp => exact (Reps.none _ _)); intro v386 w2 ho3 hb hg_ hnew_; clear hg_ hnew_; (first | rw [← Ny385.out] at ho3 | (simp only [Int.reduceToNat] at ho3; rw [← Ny385.out] at ho3)); have HO387 := Aside0.mk (Kd.R_lower ho3 (below_size hB)); replace HB := hS HB hb; clear hb ho3))
 go_loopg [3, 8] k (fun kq v3 v8 w' => ∃ (x3_1 : List Int) (x8_1 : Int), v8 = .int .i64 x8_1 ∧ Aside0 (impl_table_numbers.l0 kq l0 x3_1 (l0.length : Int) x8_1 = some r) ∧ Aside0 (kq ≤ k) ∧ Aside0 (Kd.R (Kd.int .i64) 3 w' w.heap.size (fun _ => True) v3 x3_1) ∧ Aside0 (Below w.heap.size w w'))
 case atStart => exact ⟨(y385), (0), (by first | rfl | (simp; done) | (simp [*]; done)), H', ⟨Nat.le_refl _⟩, ⟨rU HO387⟩, ⟨hB⟩⟩
 case round =>
  clear H'
  try clear c1
  try clear p2
  obtain ⟨x3_1, x8_1, rfl, HA, HK1, HO_3, HB⟩ := hrel
  cases gk with
  | zero => exact absurd HA.out (by simp [impl_table_numbers.l0])
  | succ k1 =>
   have H := HA.out
   clear HA
   simp only [impl_table_numbers.l0] at H
   by_cases c4 : x8_1 < (l0.length : Int)
   ·rw [if_pos c4] at H
    have c4b0 : decide (x8_1 < (l0.length : Int)) = true := decide_eq_true c4
    clear c4
    replace H := Option.bind_eq_some_iff.mp H
    obtain ⟨t388, A50, H⟩ := H
    try dsimp only at H
    have A5 := Aside0.mk A50
    clear A50
    by_cases c6 : x3_1.length < 17592186044416
    ·rw [if_pos c6] at H
     have LMc6 := Aside0.mk c6
     clear c6
     obtain ⟨y389, hy389⟩ : ∃ y_ : List Int, y_ = (x3_1 ++ [t388]) := ⟨_, rfl⟩
     replace H : (impl_table_numbers.l0 k1 l0 y389 (l0.length : Int) (wrap64 (x8_1 + 1))) = some r := by first | (rw [hy389]; with_reducible exact H) | (have H2_ := (Option.bind_some _ _).symm.trans H; rw [hy389]; with_reducible exact H2_) | (have H2_ := (Option.bind_some _ _).symm.trans H; with_reducible exact H2_) | with_reducible exact H | (rw [hy389]; exact H) | exact H
     have Ny389 := Aside0.mk hy389
     clear hy389
     have H' := Aside0.mk H
     clear H
     go_wp2_with (first | ((with_reducible refine gate_callee (f := 104) rfl ?_); refine goC (N := some 14) Tryd.func104 #[.slice A0 l0.length c0, .int .i64 x8_1] rfl ?_; (with_reducible refine (impl_table_number.calls _ _ l0 x8_1 t388 _ ?side1 ?side2 A5.out).mono ?_); (case side1 => exact cS (Kd.C_below HR0.out HB.out)); (case side2 => exact HC0.out); rintro e w' ⟨rfl, ⟨nd, rfl⟩⟩; refine ⟨_, rfl, ?_⟩) | ((with_reducible refine gate_builtin (b := .append) (xs := #[.tmp 11, .tmp 15]) rfl ?_); at_builtin; refine Kd.R_append (Kd.int .i64) (w0 := w) w.heap.size rfl (.tmp 11) (.tmp 15) 75 3 (.int .i64 0) 8 rfl Tryd.underlying75 info3 rfl (by decide) (by omega) u3 x3_1 t388 [.int .i64 t388] (fun _ => True) (fun _ => False) rfl rfl ?aP (fun _ hk => hk.elim) ?aF ?aO ?aB ?aS ?aL ?_; (case aP => exact rfl); (case aB => exact hB); (case aF => exact (fun _ _ => trivial)); (case aO => exact (rU HO_3)); (case aS => exact (below_size hB)); (case aL => have := LMc6.out; omega); intro v390 w7 ho hb hg hat; rw [← Ny389.out] at ho; have HO391 := Aside0.mk (ho); replace HB := Aside0.mk (hb); clear HO_3; clear ho hb hg hat))
     go_roundg k1
     case measure => have := HK1.out; omega
     case rel => exact ⟨(y389), (wrap64 (x8_1 + 1)), (by first | rfl | (simp; done) | (simp [*]; done)), H', ⟨by have := HK1.out; omega⟩, ⟨rU HO391⟩, ⟨hB⟩⟩
    ·rw [if_neg c6] at H
     exact absurd H (by simp)
   ·rw [if_neg c4] at H
    have c4b0 : decide (x8_1 < (l0.length : Int)) = false := decide_eq_false c4
    clear c4
    obtain rfl := Option.some.inj H
    go_wp2
    go_ret
    exact ⟨_, by first | rfl | (simp [errW_none, errW_some] <;> rfl) | (simp [*, errW_none, errW_some] <;> rfl), rU HO_3, hB⟩

end Go.Proofs.YtjpfbkkikcpmhaaDoor.PFnExactSolutions
