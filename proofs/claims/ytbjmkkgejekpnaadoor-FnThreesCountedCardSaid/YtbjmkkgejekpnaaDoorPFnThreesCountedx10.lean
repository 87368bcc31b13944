-- Of this session's own program wip/gen/gen.py (it drives the kit's print): contracts of the functions that the law reaches.
import Derived.Test.YtbjmkkgejekpnaaDoorPFnThreesCountedx0
import Derived.Test.YtbjmkkgejekpnaaDoorPFnThreesCountedx1
import Derived.Test.YtbjmkkgejekpnaaDoorPFnThreesCountedx3
import Derived.Test.YtbjmkkgejekpnaaDoorPFnThreesCountedx4
import Derived.Test.YtbjmkkgejekpnaaDoorPFnThreesCountedx5
import Derived.Test.YtbjmkkgejekpnaaDoorPFnThreesCountedx6
import Derived.Test.YtbjmkkgejekpnaaDoorPFnThreesCountedx7
import Derived.Test.YtbjmkkgejekpnaaDoorPFnThreesCountedx8
namespace Go.Proofs.YtbjmkkgejekpnaaDoor.PFnThreesCounted
open Go.RowKit Go.Proofs.YtbjmkkgejekpnaaDoorW.PrintWords Go.Proofs.YtbjmkkgejekpnaaDoorW.PrintLast Go.Proofs.YtbjmkkgejekpnaaDoorW.PrintMore Go.Proofs.YtbjmkkgejekpnaaDoor.Base
attribute [local go_sem] max2_int min2_int max_two min_two max_three min_three max_four min_four   -- for this text's walks alone
set_option linter.unusedVariables false
set_option linter.unusedSimpArgs false
set_option maxHeartbeats 8000000
set_option maxRecDepth 100000

/-! ### impl_table_party: function 118 -/
mutual
def impl_table_party.l0 : Nat → List Int → Int → Int → Int → List (S43) → Option (Int × (List (S43)))
 | 0, _, _, _, _, _ => none
 | k + 1, x0, x10, x11, x478000, x478001 => if x11 < x10 then (impl_table_party.l1 k x0 x11 (wrap64 (x11 + 1)) x10 x11 x478000 x478001) else (some (x478000, x478001))
def impl_table_party.l1 : Nat → List Int → Int → Int → Int → Int → Int → List (S43) → Option (Int × (List (S43)))
 | 0, _, _, _, _, _, _, _ => none
 | k + 1, x0, x4, x5, x10, x11, x478000, x478001 => if x5 < (x0.length : Int) then ((impl_table_has.f x0 x4 x5).bind fun t478 => (if t478 = true then (if x478001.length < 8796093022208 then (impl_table_party.l1 k x0 x4 (wrap64 (x5 + 1)) x10 x11 x478000 (x478001 ++ [(⟨x4, x5⟩ : S43)])) else (none)) else (impl_table_party.l1 k x0 x4 (wrap64 (x5 + 1)) x10 x11 x478000 x478001))) else (impl_table_party.l0 k x0 x10 (wrap64 (x11 + 1)) x478000 x478001)
end
def impl_table_party.f (k : Nat) (l0 : List Int) : Option (Int × (List (S43))) := impl_table_party.l0 k l0 (l0.length : Int) 0 (l0.length : Int) ([] : List (S43))
theorem impl_table_party.mono_l : ∀ k, (∀ y0 y1 y2 y3 y4, LeO (impl_table_party.l0 k y0 y1 y2 y3 y4) (impl_table_party.l0 (k + 1) y0 y1 y2 y3 y4)) ∧ (∀ y0 y1 y2 y3 y4 y5 y6, LeO (impl_table_party.l1 k y0 y1 y2 y3 y4 y5 y6) (impl_table_party.l1 (k + 1) y0 y1 y2 y3 y4 y5 y6))
 | 0 => ⟨fun _ _ _ _ _ r h => by simp [impl_table_party.l0] at h, fun _ _ _ _ _ _ _ r h => by simp [impl_table_party.l1] at h⟩
 | k + 1 => by
  obtain ⟨ih0, ih1⟩ := impl_table_party.mono_l k
  refine ⟨?_, ?_⟩ <;> intros <;> (first | unfold impl_table_party.l0 | unfold impl_table_party.l1)
  all_goals (repeat' first | (with_reducible first | exact ih0 .. | exact ih1 .. | exact LeO.refl _ | exact LeO.none _ | refine LeO.ite ?_ ?_ | refine LeO.bind ?_ (fun _ => ?_)) | exact ih0 .. | exact ih1 .. | exact LeO.none _ | refine LeO.ite ?_ ?_ | refine LeO.bind ?_ (fun _ => ?_))
theorem impl_table_party.mono : ∀ a0 k, LeO (impl_table_party.f k a0) (impl_table_party.f (k + 1) a0) := by
 intro a0 k
 obtain ⟨ih0, ih1⟩ := impl_table_party.mono_l k
 unfold impl_table_party.f
 repeat' first | (with_reducible first | exact ih0 .. | exact ih1 .. | exact LeO.refl _ | exact LeO.none _ | refine LeO.ite ?_ ?_ | refine LeO.bind ?_ (fun _ => ?_)) | exact ih0 .. | exact ih1 .. | exact LeO.none _ | refine LeO.ite ?_ ?_ | refine LeO.bind ?_ (fun _ => ?_)
theorem impl_table_party.calls (k : Nat) (A0 : Option Addr) (c0 : Nat) (l0 : List Int) (r1 : Int) (r2 : List (S43)) (w : World) (hr0 : Kd.C (Kd.int .u16) w A0 l0.length l0) (hc0 : l0.length ≤ c0) (h : impl_table_party.f k l0 = some (r1, r2)) :
  Calls Tryd.prog 118 #[.slice A0 l0.length c0] w fun e w' => ∃ v1_ : Value, e = .returned (.agg #[.int .i64 r1, v1_]) ∧ Kd.R k43 43 w' w.heap.size (fun _ => True) v1_ r2 ∧ Below w.heap.size w w' := by
 have hu52 := Tryd.underlying52
 have hu43 := Tryd.underlying43
 have HR0 := Aside0.mk hr0
 have HC0 := Aside0.mk hc0
 clear hr0 hc0
 have HB := Aside0.mk (Below.refl w.heap.size w)
 have H : (impl_table_party.l0 k l0 (l0.length : Int) 0 (l0.length : Int) ([] : List (S43))) = some (r1, r2) := h
 clear h
 have H' := Aside0.mk H
 clear H
 go_enter Tryd.func118, Tryd.ntmps118
 go_wp2_with (first | ((with_reducible refine gate_dst (N := 2) rfl ?_); refine bxE 2 #[.int .i64 0, .slice none 0 0] 52 rfl ?_; intro gb476 hg w2 hbox hb; have BK476 := Aside0.mk (hbox); have GW476 := gS HB hg; have GE476 := gS HB hg; replace HB := hS HB hb; clear hb hbox hg) | ((with_reducible refine gate_dst (N := 3) rfl ?_); refine bxE 3 #[.int .i64 0, .slice none 0 0] 52 rfl ?_; intro gb477 hg w3 hbox hb; have BK477 := Aside0.mk (hbox); have GW477 := gS HB hg; have GE477 := gS HB hg; have NB476_477 := nL BK476 hg; have NB477_476 := nG BK476 hg; replace BK476 := bS BK476 hb; replace HB := hS HB hb; clear hb hbox hg; have hnb4 := NB477_476.out; have hnc4 := NB476_477.out; obtain ⟨hcz5_0, hcz5_1, hfz5_0, hfz5_1⟩ := cf2 BK477))
 go_loopg [11] k (fun kq v11 w' => ∃ (x11_1 : Int) (x478001_1 : List (S43)) (u478001 : Value), v11 = .int .i64 x11_1 ∧ Aside0 (impl_table_party.l0 kq l0 (l0.length : Int) x11_1 (l0.length : Int) x478001_1 = some (r1, r2)) ∧ Aside0 (kq ≤ k) ∧ Aside0 (Kd.R k43 43 w' w.heap.size (fun _ => True) u478001 x478001_1) ∧ Aside0 (w'.heap[gb476]? = some (.cells #[.int .i64 0, (.slice none 0 0)] 52 (0, 0))) ∧ Aside0 (w'.heap[gb477]? = some (.cells #[.int .i64 (l0.length : Int), u478001] 52 (0, 0))) ∧ Aside0 (Below w.heap.size w w'))
 case atStart => exact ⟨(0), (([] : List (S43))), (.slice none 0 0), sR, H', ⟨Nat.le_refl _⟩, ⟨by first | exact Kd.R_nil _ _ _ _ _ | exact Kd.N_nil _ _ _ _ _ | exact Kd.V_nil _ _ _ _ _ | exact Kd.Q_nil _ _ _ _ _ | exact Kd.S_nil _ _ _ _ _⟩, ⟨by (with_reducible repeat (first | refine blk_drewN ?_ _ | refine blk_drew ?_ | refine blk_alloc ?_ _)); refine blk_far ?_ NB476_477.out _; (with_reducible repeat (first | refine blk_drewN ?_ _ | refine blk_drew ?_ | refine blk_alloc ?_ _)); refine blk_far ?_ NB476_477.out _; (with_reducible repeat (first | refine blk_drewN ?_ _ | refine blk_drew ?_ | refine blk_alloc ?_ _)); exact BK476.out⟩, ⟨by (with_reducible repeat (first | refine blk_drewN ?_ _ | refine blk_drew ?_ | refine blk_alloc ?_ _)); refine blk_put (cs := #[.int .i64 (l0.length : Int), .slice none 0 0]) ?_ 1 _ rfl; (with_reducible repeat (first | refine blk_drewN ?_ _ | refine blk_drew ?_ | refine blk_alloc ?_ _)); refine blk_put (cs := #[.int .i64 0, .slice none 0 0]) ?_ 0 _ rfl; (with_reducible repeat (first | refine blk_drewN ?_ _ | refine blk_drew ?_ | refine blk_alloc ?_ _)); exact BK477.out⟩, ⟨hB⟩⟩
 case round =>
  clear H'
  (try clear hcz5_0 hcz5_1 hfz5_0 hfz5_1)
  obtain ⟨x11_1, x478001_1, u478001, rfl, HA, HK1, HO_478001, BK476, BK477, HB⟩ := hrel
  cases gk with
  | zero => exact absurd HA.out (by simp [impl_table_party.l0])
  | succ k1 =>
   have H := HA.out
   clear HA
   simp only [impl_table_party.l0] at H
   by_cases c6 : x11_1 < (l0.length : Int)
   ·rw [if_pos c6] at H
    have c6b0 := decide_eq_true c6
    clear c6
    have H' := Aside0.mk H
    clear H
    go_wp2
    go_loopg [5] k1 (fun kq v5 w' => ∃ (x5_2 : Int) (x478001_2 : List (S43)) (u478001 : Value), v5 = .int .i64 x5_2 ∧ Aside0 (impl_table_party.l1 kq l0 x11_1 x5_2 (l0.length : Int) x11_1 (l0.length : Int) x478001_2 = some (r1, r2)) ∧ Aside0 (kq ≤ k1) ∧ Aside0 (Kd.R k43 43 w' w.heap.size (fun _ => True) u478001 x478001_2) ∧ Aside0 (w'.heap[gb476]? = some (.cells #[.int .i64 0, (.slice none 0 0)] 52 (0, 0))) ∧ Aside0 (w'.heap[gb477]? = some (.cells #[.int .i64 (l0.length : Int), u478001] 52 (0, 0))) ∧ Aside0 (Below w.heap.size w w'))
    case atStart => exact ⟨(wrap64 (x11_1 + 1)), (x478001_1), (u478001), sR, H', ⟨Nat.le_refl _⟩, ⟨rU HO_478001⟩, ⟨bK⟩, ⟨bK⟩, ⟨hB⟩⟩
    case round =>
     clear H'
     (try clear c6); (try clear c6b0); (try clear hcz5_0 hcz5_1 hfz5_0 hfz5_1)
     obtain ⟨x5_2, x478001_2, u478001, rfl, HA, HK2, HO_478001, BK476, BK477, HB⟩ := hrel
     cases gk with
     | zero => exact absurd HA.out (by simp [impl_table_party.l1])
     | succ k2 =>
      have H := HA.out
      clear HA
      simp only [impl_table_party.l1] at H
      by_cases c7 : x5_2 < (l0.length : Int)
      ·rw [if_pos c7] at H
       have c7b0 := decide_eq_true c7
       clear c7
       replace H := oB H; obtain ⟨t478, A8, H⟩ := H
       by_cases c9 : t478 = true
       ·subst c9
        rw [if_pos rfl] at H
        replace H := ifP H; obtain ⟨c10, H⟩ := H
        have LMc10 := Aside0.mk c10
        clear c10
        obtain ⟨y479, hy479⟩ : ∃ y_ : List (S43), y_ = (x478001_2 ++ [(⟨x11_1, x5_2⟩ : S43)]) := ⟨_, rfl⟩
        replace H : (impl_table_party.l1 k2 l0 x11_1 (wrap64 (x5_2 + 1)) (l0.length : Int) x11_1 (l0.length : Int) y479) = some (r1, r2) := by first | (rw [hy479]; with_reducible exact H) | (have H2_ := (Option.bind_some _ _).symm.trans H; rw [hy479]; with_reducible exact H2_) | (have H2_ := (Option.bind_some _ _).symm.trans H; with_reducible exact H2_) | with_reducible exact H | (rw [hy479]; exact H) | exact H
        have Ny479 := Aside0.mk hy479
        clear hy479
        have H' := Aside0.mk H
        clear H
        go_wp2_with (first | ((with_reducible refine gate_callee (f := 99) rfl ?_); refine goC (N := some 25) Tryd.func99 #[.slice A0 l0.length c0, .int .i64 x11_1, .int .i64 x5_2] rfl ?_; (with_reducible refine (impl_table_has.calls _ _ l0 x11_1 x5_2 true _ ?side1 ?side2 A8.out).mono ?_); (case side1 => exact cS (Kd.C_below HR0.out HB.out)); (case side2 => exact HC0.out); rintro e w' ⟨rfl, ⟨nd, rfl⟩⟩; refine ⟨_, rfl, ?_⟩; (try (rw [drewN_self wr]; generalize hq_ : World.drewN wr _ = wr; have n0_ : Aside0 (Kd.R k43 43 wr w.heap.size (fun _ => True) u478001 x478001_2) := ⟨by rw [← hq_]; exact (rU HO_478001)⟩; have n1_ : Aside0 (wr.heap[gb476]? = some (.cells #[.int .i64 0, .slice none 0 0] 52 (0, 0))) := ⟨by rw [← hq_]; exact bK⟩; have n2_ : Aside0 (wr.heap[gb477]? = some (.cells #[.int .i64 (l0.length : Int), u478001] 52 (0, 0))) := ⟨by rw [← hq_]; exact bK⟩; have n3_ : Aside0 (Below w.heap.size w wr) := ⟨by rw [← hq_]; exact hB⟩; clear HO_478001 BK476 BK477 HB hq_; have HO_478001 := n0_; have BK476 := n1_; have BK477 := n2_; have HB := n3_; clear n0_ n1_ n2_ n3_)); have hnb11 := NB477_476.out; have hnc11 := NB476_477.out; obtain ⟨hcz12_0, hcz12_1, hfz12_0, hfz12_1⟩ := cf2 BK477) | ((with_reducible refine gate_builtin (b := .append) (xs := #[.tmp 27, .tmp 31]) rfl ?_); at_builtin; refine Kd.R_append k43 (w0 := w) w.heap.size rfl (.tmp 27) (.tmp 31) 24 43 (.agg #[(.int .i64 0), (.int .i64 0)]) 16 rfl Tryd.underlying24 info43 rfl (by decide) (by omega) u478001 x478001_2 (⟨x11_1, x5_2⟩ : S43) [.int .i64 x11_1, .int .i64 x5_2] (fun _ => True) (fun _ => False) rfl rfl ?aP (fun _ hk => hk.elim) ?aF ?aO ?aB ?aS ?aL ?_; (case aP => exact k43_mkM _ _ _ (⟨x11_1, x5_2⟩ : S43)); (case aB => exact hB); (case aF => exact (fun _ _ => trivial)); (case aO => exact (rU HO_478001)); (case aS => exact (below_size hB)); (case aL => have := LMc10.out; omega); intro v480 w13 ho hb hg hat; rw [← Ny479.out] at ho; have n0_ := Aside0.mk (blk_grown (g := gb476) (o := .cells #[.int .i64 0, .slice none 0 0] 52 (0, 0)) bK hg (Kd.R_ne HO_478001.out BK476.out (by decide))); have n1_ := Aside0.mk (blk_grown (g := gb477) (o := .cells #[.int .i64 (l0.length : Int), u478001] 52 (0, 0)) bK hg (Kd.R_ne HO_478001.out BK477.out (by decide))); have n2_ := Aside0.mk (hb); have n3_ := Aside0.mk (ho); clear BK476; clear BK477; clear HB; clear HO_478001; have BK476 := n0_; have BK477 := n1_; have HB := n2_; have HO481 := n3_; clear n0_ n1_ n2_ n3_; clear ho hb hg hat; obtain ⟨Ao14, co14, eo14⟩ := Kd.R_slice HO481.out; subst eo14; obtain ⟨hcz15_0, hcz15_1, hfz15_0, hfz15_1⟩ := cf2 BK477))
        go_roundg k2
        case measure => have := HK1.out; have := HK2.out; omega
        case rel => exact ⟨(wrap64 (x5_2 + 1)), (y479), (.slice Ao14 y479.length co14), sR, H', ⟨by have := HK1.out; have := HK2.out; omega⟩, ⟨by (with_reducible repeat (first | apply Kd.R_alloc | apply Kd.R_drewN | apply Kd.R_drew)); exact Kd.R_mono (Kd.R_far (p := ⟨gb477, 1, none⟩) (Kd.R_types HO481.out BK477.out (by decide)) (fun _ hk => hk.2) (.slice Ao14 y479.length co14)) (fun _ hk => trivial)⟩, ⟨by (with_reducible repeat (first | refine blk_drewN ?_ _ | refine blk_drew ?_ | refine blk_alloc ?_ _)); refine blk_far ?_ NB476_477.out _; (with_reducible repeat (first | refine blk_drewN ?_ _ | refine blk_drew ?_ | refine blk_alloc ?_ _)); exact BK476.out⟩, ⟨by (with_reducible repeat (first | refine blk_drewN ?_ _ | refine blk_drew ?_ | refine blk_alloc ?_ _)); refine blk_put (cs := #[.int .i64 (l0.length : Int), u478001]) ?_ 1 _ rfl; (with_reducible repeat (first | refine blk_drewN ?_ _ | refine blk_drew ?_ | refine blk_alloc ?_ _)); exact BK477.out⟩, ⟨hB⟩⟩
       ·replace c9 := Bool.eq_false_iff.mpr c9
        subst c9
        rw [if_neg (show ¬ (false = true) by decide)] at H
        have H' := Aside0.mk H
        clear H
        go_wp2_with (first | ((with_reducible refine gate_callee (f := 99) rfl ?_); refine goC (N := some 25) Tryd.func99 #[.slice A0 l0.length c0, .int .i64 x11_1, .int .i64 x5_2] rfl ?_; (with_reducible refine (impl_table_has.calls _ _ l0 x11_1 x5_2 false _ ?side1 ?side2 A8.out).mono ?_); (case side1 => exact cS (Kd.C_below HR0.out HB.out)); (case side2 => exact HC0.out); rintro e w' ⟨rfl, ⟨nd, rfl⟩⟩; refine ⟨_, rfl, ?_⟩))
        go_roundg k2
        case measure => have := HK1.out; have := HK2.out; omega
        case rel => exact ⟨(wrap64 (x5_2 + 1)), (x478001_2), (u478001), sR, H', ⟨by have := HK1.out; have := HK2.out; omega⟩, ⟨rU HO_478001⟩, ⟨bK⟩, ⟨bK⟩, ⟨hB⟩⟩
      ·rw [if_neg c7] at H
       have c7b0 := decide_eq_false c7
       clear c7
       have H' := Aside0.mk H
       clear H
       go_wp2
       go_roundg k2
       case measure => have := HK1.out; have := HK2.out; omega
       case rel => exact ⟨(wrap64 (x11_1 + 1)), (x478001_2), (u478001), sR, H', ⟨by have := HK1.out; have := HK2.out; omega⟩, ⟨rU HO_478001⟩, ⟨bK⟩, ⟨bK⟩, ⟨hB⟩⟩
   ·rw [if_neg c6] at H
    have c6b0 := decide_eq_false c6
    clear c6
    simp only [Option.some.injEq, Prod.mk.injEq] at H
    obtain ⟨rfl, rfl⟩ := H
    have hnb16 := NB477_476.out
    have hnc16 := NB476_477.out
    obtain ⟨hcz17_0, hcz17_1, hfz17_0, hfz17_1⟩ := cf2 BK477
    obtain ⟨hcz18_0, hcz18_1, hfz18_0, hfz18_1⟩ := cf2 BK476
    obtain ⟨Ao19, co19, eo19⟩ := Kd.R_slice HO_478001.out
    subst eo19
    go_wp2
    refine bodyPost_ret (results_cell_row rfl _ _ gb476 52 #[.int .i64 (l0.length : Int), .slice Ao19 x478001_1.length co19] (0, 0) _ rfl (by (with_reducible repeat (first | refine blk_drewN ?_ _ | refine blk_drew ?_ | refine blk_alloc ?_ _)); refine blk_put (cs := #[.int .i64 (l0.length : Int), .slice none 0 0]) ?_ 1 _ rfl; (with_reducible repeat (first | refine blk_drewN ?_ _ | refine blk_drew ?_ | refine blk_alloc ?_ _)); refine blk_put (cs := #[.int .i64 0, .slice none 0 0]) ?_ 0 _ rfl; (with_reducible repeat (first | refine blk_drewN ?_ _ | refine blk_drew ?_ | refine blk_alloc ?_ _)); exact BK476.out) Tryd.underlying52 rfl (by kernel_rfl)) rfl ?_
    exact ⟨_, eW, by (with_reducible repeat (first | apply Kd.R_alloc | apply Kd.R_drewN | apply Kd.R_drew)); exact Kd.R_mono (Kd.R_far (p := ⟨gb476, 1, none⟩) (Kd.R_far (p := ⟨gb476, 0, none⟩) (Kd.R_types HO_478001.out BK476.out (by decide)) (fun _ hk => hk.2) (.int .i64 (l0.length : Int))) (fun _ hk => hk.2) (.slice Ao19 x478001_1.length co19)) (fun _ hk => trivial), hB⟩

/-! ### impl_OtherParty: function 49 -/
def impl_OtherParty.f (k : Nat) (a0_0 : Int) (l0_1 : List (S43)) : Option (Int × (List (S43)) × Bool) := (impl_IsParty.f k a0_0 l0_1).bind fun t484 => (if t484 = true then ((impl_Party_table.f k a0_0 l0_1).bind fun t485 => ((impl_table_others.f k t485).bind fun t488 => ((impl_table_party.f k t488).bind fun bt491 => (some (bt491.1, bt491.2, true))))) else (some (0, ([] : List (S43)), false)))
theorem impl_OtherParty.mono : ∀ a0 a1 k, LeO (impl_OtherParty.f k a0 a1) (impl_OtherParty.f (k + 1) a0 a1) := by
 intro a0 a1 k
 unfold impl_OtherParty.f
 repeat' first | (with_reducible first | exact impl_IsParty.mono .. | exact impl_Party_table.mono .. | exact impl_table_others.mono .. | exact impl_table_party.mono .. | exact LeO.refl _ | exact LeO.none _ | refine LeO.ite ?_ ?_ | refine LeO.bind ?_ (fun _ => ?_)) | exact impl_IsParty.mono .. | exact impl_Party_table.mono .. | exact impl_table_others.mono .. | exact impl_table_party.mono .. | exact LeO.none _ | refine LeO.ite ?_ ?_ | refine LeO.bind ?_ (fun _ => ?_)
theorem impl_OtherParty.calls (k : Nat) (a0_0 : Int) (A0_1 : Option Addr) (c0_1 : Nat) (l0_1 : List (S43)) (r1 : Int) (r2 : List (S43)) (r3 : Bool) (w : World) (hr0_1 : Kd.C k43 w A0_1 l0_1.length l0_1) (hc0_1 : l0_1.length ≤ c0_1) (h : impl_OtherParty.f k a0_0 l0_1 = some (r1, r2, r3)) :
  Calls Tryd.prog 49 #[.agg #[.int .i64 a0_0, .slice A0_1 l0_1.length c0_1]] w fun e w' => ∃ v1_ : Value, e = .returned (.tuple #[.agg #[.int .i64 r1, v1_], .bool r3]) ∧ Kd.R k43 43 w' w.heap.size (fun _ => True) v1_ r2 ∧ Below w.heap.size w w' := by
 have hu52 := Tryd.underlying52
 have HR0_1 := Aside0.mk hr0_1
 have HC0_1 := Aside0.mk hc0_1
 clear hr0_1 hc0_1
 have HB := Aside0.mk (Below.refl w.heap.size w)
 have H : ((impl_IsParty.f k a0_0 l0_1).bind fun t484 => (if t484 = true then ((impl_Party_table.f k a0_0 l0_1).bind fun t485 => ((impl_table_others.f k t485).bind fun t488 => ((impl_table_party.f k t488).bind fun bt491 => (some (bt491.1, bt491.2, true))))) else (some (0, ([] : List (S43)), false)))) = some (r1, r2, r3) := h
 clear h
 replace H := oB H; obtain ⟨t484, A2, H⟩ := H
 by_cases c3 : t484 = true
 ·subst c3
  rw [if_pos rfl] at H
  replace H := oB H; obtain ⟨t485, A4, H⟩ := H
  replace H := oB H; obtain ⟨t488, A5, H⟩ := H
  replace H := oB H; obtain ⟨⟨t491, t492⟩, A6, H⟩ := H
  try dsimp only at H
  simp only [Option.some.injEq, Prod.mk.injEq] at H
  obtain ⟨rfl, rfl, rfl⟩ := H
  go_enter Tryd.func49, Tryd.ntmps49
  go_wp2_with (first | ((with_reducible refine gate_dst (N := 1) rfl ?_); refine bxE 1 #[.int .i64 a0_0, .slice A0_1 l0_1.length c0_1] 52 rfl ?_; intro gb482 hg w7 hbox hb; have BK482 := Aside0.mk (hbox); have GW482 := gS HB hg; have GE482 := gS HB hg; replace HB := hS HB hb; clear hb hbox hg) | ((with_reducible refine gate_dst (N := 2) rfl ?_); refine bxE 2 #[.int .i64 0, .slice none 0 0] 52 rfl ?_; intro gb483 hg w8 hbox hb; have BK483 := Aside0.mk (hbox); have GW483 := gS HB hg; have GE483 := gS HB hg; have NB482_483 := nL BK482 hg; have NB483_482 := nG BK482 hg; replace BK482 := bS BK482 hb; replace HB := hS HB hb; clear hb hbox hg; have hnb9 := NB482_483.out; have hnc9 := NB483_482.out; obtain ⟨hcz10_0, hcz10_1, hfz10_0, hfz10_1⟩ := cf2 BK482) | ((with_reducible refine gate_callee (f := 43) rfl ?_); refine goC (N := some 5) Tryd.func43 #[.agg #[.int .i64 a0_0, .slice A0_1 l0_1.length c0_1]] rfl ?_; (with_reducible refine (impl_IsParty.calls k a0_0 _ _ l0_1 true _ ?side1 ?side2 A2.out).mono ?_); (case side1 => exact cS (Kd.C_below HR0_1.out HB.out)); (case side2 => exact HC0_1.out); rintro e w11 ⟨rfl, hb⟩; refine ⟨_, rfl, ?_⟩; replace BK482 := bS BK482 hb; replace BK483 := bS BK483 hb; replace HB := hS HB hb; (try clear hb); obtain ⟨hcz12_0, hcz12_1, hfz12_0, hfz12_1⟩ := cf2 BK482) | ((with_reducible refine gate_callee (f := 97) rfl ?_); refine goC (N := some 9) Tryd.func97 #[.agg #[.int .i64 a0_0, .slice A0_1 l0_1.length c0_1]] rfl ?_; (with_reducible refine (impl_Party_table.calls k a0_0 _ _ l0_1 t485 _ ?side1 ?side2 A4.out).mono ?_); (case side1 => exact cS (Kd.C_below HR0_1.out HB.out)); (case side2 => exact HC0_1.out); rintro e w13 ⟨v486, rfl, ho0, hb⟩; refine ⟨_, rfl, ?_⟩; have HO487 := Aside0.mk (Kd.R_lower ho0 (below_size hB)); replace BK482 := bS BK482 hb; replace BK483 := bS BK483 hb; replace HB := hS HB hb; (try clear hb ho0); obtain ⟨Ao14, co14, eo14⟩ := Kd.R_slice HO487.out; subst eo14) | ((with_reducible refine gate_callee (f := 100) rfl ?_); refine goC (N := some 10) Tryd.func100 #[.slice Ao14 t485.length co14] rfl ?_; (with_reducible refine (impl_table_others.calls k _ _ t485 t488 _ ?side1 ?side2 A5.out).mono ?_); (case side1 => exact cS (Kd.R_reads' HO487.out).2.2); (case side2 => exact (Kd.R_reads' HO487.out).2.1); rintro e w15 ⟨v489, rfl, ho0, hb⟩; refine ⟨_, rfl, ?_⟩; have HO490 := Aside0.mk (Kd.R_lower (Kd.R_new' ho0 (Kd.R_lt (rU HO487))) (below_size hB)); replace HO487 := Aside0.mk (Kd.R_elder' (rU HO487) (Kd.R_base ho0) hb); replace BK482 := bS BK482 hb; replace BK483 := bS BK483 hb; replace HB := hS HB hb; (try clear hb ho0); obtain ⟨Ao16, co16, eo16⟩ := Kd.R_slice HO490.out; subst eo16) | ((with_reducible refine gate_callee (f := 118) rfl ?_); refine goC (N := some 11) Tryd.func118 #[.slice Ao16 t488.length co16] rfl ?_; (with_reducible refine (impl_table_party.calls k _ _ t488 t491 t492 _ ?side1 ?side2 A6.out).mono ?_); (case side1 => exact cS (Kd.R_reads' HO490.out).2.2); (case side2 => exact (Kd.R_reads' HO490.out).2.1); rintro e w17 ⟨v493, rfl, ho0, hb⟩; refine ⟨_, rfl, ?_⟩; have HO494 := Aside0.mk (Kd.R_lower ho0 (below_size hB)); replace HO487 := rB HO487 hb; replace HO490 := rB HO490 hb; replace BK482 := bS BK482 hb; replace BK483 := bS BK483 hb; replace HB := hS HB hb; (try clear hb ho0); obtain ⟨hcz18_0, hcz18_1, hfz18_0, hfz18_1⟩ := cf2 BK483; obtain ⟨Ao19, co19, eo19⟩ := Kd.R_slice HO494.out; subst eo19))
  refine bodyPost_ret (results_ct rfl _ _ gb483 52 #[.int .i64 t491, .slice Ao19 t492.length co19] (0, 0) _ rfl (by (with_reducible repeat (first | refine blk_drewN ?_ _ | refine blk_drew ?_ | refine blk_alloc ?_ _)); refine blk_put (cs := #[.int .i64 t491, .slice none 0 0]) ?_ 1 _ rfl; (with_reducible repeat (first | refine blk_drewN ?_ _ | refine blk_drew ?_ | refine blk_alloc ?_ _)); refine blk_put (cs := #[.int .i64 0, .slice none 0 0]) ?_ 0 _ rfl; (with_reducible repeat (first | refine blk_drewN ?_ _ | refine blk_drew ?_ | refine blk_alloc ?_ _)); exact BK483.out) Tryd.underlying52 rfl (by kernel_rfl)) rfl ?_
  exact ⟨_, eW, by (with_reducible repeat (first | apply Kd.R_alloc | apply Kd.R_drewN | apply Kd.R_drew)); exact Kd.R_mono (Kd.R_far (p := ⟨gb483, 1, none⟩) (Kd.R_far (p := ⟨gb483, 0, none⟩) (Kd.R_types HO494.out BK483.out (by decide)) (fun _ hk => hk.2) (.int .i64 t491)) (fun _ hk => hk.2) (.slice Ao19 t492.length co19)) (fun _ hk => trivial), hB⟩
 ·replace c3 := Bool.eq_false_iff.mpr c3
  subst c3
  rw [if_neg (show ¬ (false = true) by decide)] at H
  simp only [Option.some.injEq, Prod.mk.injEq] at H
  obtain ⟨rfl, rfl, rfl⟩ := H
  go_enter Tryd.func49, Tryd.ntmps49
  go_wp2_with (first | ((with_reducible refine gate_dst (N := 1) rfl ?_); refine bxE 1 #[.int .i64 a0_0, .slice A0_1 l0_1.length c0_1] 52 rfl ?_; intro gb482 hg w20 hbox hb; have BK482 := Aside0.mk (hbox); have GW482 := gS HB hg; have GE482 := gS HB hg; replace HB := hS HB hb; clear hb hbox hg) | ((with_reducible refine gate_dst (N := 2) rfl ?_); refine bxE 2 #[.int .i64 0, .slice none 0 0] 52 rfl ?_; intro gb483 hg w21 hbox hb; have BK483 := Aside0.mk (hbox); have GW483 := gS HB hg; have GE483 := gS HB hg; have NB482_483 := nL BK482 hg; have NB483_482 := nG BK482 hg; replace BK482 := bS BK482 hb; replace HB := hS HB hb; clear hb hbox hg; have hnb22 := NB482_483.out; have hnc22 := NB483_482.out; obtain ⟨hcz23_0, hcz23_1, hfz23_0, hfz23_1⟩ := cf2 BK482) | ((with_reducible refine gate_callee (f := 43) rfl ?_); refine goC (N := some 5) Tryd.func43 #[.agg #[.int .i64 a0_0, .slice A0_1 l0_1.length c0_1]] rfl ?_; (with_reducible refine (impl_IsParty.calls k a0_0 _ _ l0_1 false _ ?side1 ?side2 A2.out).mono ?_); (case side1 => exact cS (Kd.C_below HR0_1.out HB.out)); (case side2 => exact HC0_1.out); rintro e w24 ⟨rfl, hb⟩; refine ⟨_, rfl, ?_⟩; replace BK482 := bS BK482 hb; replace BK483 := bS BK483 hb; replace HB := hS HB hb; (try clear hb); obtain ⟨hcz25_0, hcz25_1, hfz25_0, hfz25_1⟩ := cf2 BK483))
  refine bodyPost_ret (results_ct rfl _ _ gb483 52 #[.int .i64 0, .slice none 0 0] (0, 0) _ rfl (by (with_reducible repeat (first | refine blk_drewN ?_ _ | refine blk_drew ?_ | refine blk_alloc ?_ _)); refine blk_put (cs := #[.int .i64 0, .slice none 0 0]) ?_ 1 _ rfl; (with_reducible repeat (first | refine blk_drewN ?_ _ | refine blk_drew ?_ | refine blk_alloc ?_ _)); refine blk_put (cs := #[.int .i64 0, .slice none 0 0]) ?_ 0 _ rfl; (with_reducible repeat (first | refine blk_drewN ?_ _ | refine blk_drew ?_ | refine blk_alloc ?_ _)); exact BK483.out) Tryd.underlying52 rfl (by kernel_rfl)) rfl ?_
  exact ⟨_, eW, by first | exact Kd.R_nil _ _ _ _ _ | exact Kd.N_nil _ _ _ _ _ | exact Kd.V_nil _ _ _ _ _ | exact Kd.Q_nil _ _ _ _ _ | exact Kd.S_nil _ _ _ _ _, hB⟩

/-! ### spec_l1Cur_one: function 128 -/
def spec_l1Cur_one.f (s0_0 : List Int) (s0_1 : Int) (s0_2 : Int) (a1 : Int) : Option (Bool × Int × Int) := (spec_l1Cur_pick.f s0_0 s0_1 s0_2 a1).bind fun bt495 => (some ((bt495.1 == 0), bt495.2.1, bt495.2.2))
theorem spec_l1Cur_one.calls (g : Nat) (s0_0 : List Int) (s0_1 : Int) (s0_2 : Int) (a1 : Int) (r1 : Bool) (r2 : Int) (r3 : Int) (w0 w : World) (hI : IsS89 w0 w g s0_0 s0_1 s0_2) (hB : Below w0.heap.size w0 w) (h : spec_l1Cur_one.f s0_0 s0_1 s0_2 a1 = some (r1, r2, r3)) :
  Calls Tryd.prog 128 #[.pointer (some ⟨g, 0, none⟩), .int .i64 a1] w fun e w' => e = .returned (.bool r1) ∧ IsS89 w0 w' g s0_0 r2 r3 ∧ Below w0.heap.size w0 w' ∧ KeepBut w w' g none := by
 have HI0 := Aside0.mk hI
 have HK := Aside0.mk (KeepBut.refl w g none)
 have HL := Aside0.mk hB.size
 clear hI
 have HW0 := Aside0.mk hB.size
 have HB := Aside0.mk hB
 clear hB
 have H : ((spec_l1Cur_pick.f s0_0 s0_1 s0_2 a1).bind fun bt495 => (some ((bt495.1 == 0), bt495.2.1, bt495.2.2))) = some (r1, r2, r3) := h
 clear h
 replace H := oB H; obtain ⟨⟨t495, t496, t497⟩, A3, H⟩ := H
 try dsimp only at H
 simp only [Option.some.injEq, Prod.mk.injEq] at H
 obtain ⟨rfl, rfl, rfl⟩ := H
 go_enter Tryd.func128, Tryd.ntmps128
 go_wp2_with (first | ((with_reducible refine gate_callee (f := 93) rfl ?_); refine goC (N := some 7) Tryd.func93 #[.pointer (some ⟨g, 0, none⟩), .int .i64 a1] rfl ?_; (with_reducible refine (spec_l1Cur_pick.calls g s0_0 s0_1 s0_2 a1 t495 t496 t497 w0 _ ?side1 ?side2 A3.out).mono ?_); (case side1 => repeat (first | (with_reducible first | exact HI0.out | apply IsS89.alloc | apply IsS89.drewN | apply IsS89.drew | apply IsS89.set_1 | apply IsS89.set_2) | exact HI0.out)); (case side2 => repeat (first | (with_reducible first | exact HB.out | apply below_alloc | apply pw_below_drewN | apply below_drew1 | refine below_set ?_ (IsS89.ge HI0.out)) | exact HB.out)); rintro e w4 ⟨rfl, hi, hb, hk⟩; refine ⟨_, rfl, ?_⟩; replace HK := Aside0.mk (KeepBut.trans (by repeat (first | (with_reducible first | exact HK.out | apply KeepBut.set_ | apply keep_drewN | apply keep_drew | apply keep_alloc) | exact HK.out)) hk (.inl rfl)); replace HI0 := Aside0.mk (hi); replace HB := Aside0.mk (hb); (try clear hb)))
 go_ret
 exact ⟨eW, by repeat (first | (with_reducible first | exact HI0.out | apply IsS89.alloc | apply IsS89.drewN | apply IsS89.drew | apply IsS89.set_1 | apply IsS89.set_2) | exact HI0.out), by repeat (first | (with_reducible first | exact HB.out | apply below_alloc | apply pw_below_drewN | apply below_drew1 | refine below_set ?_ (IsS89.ge HI0.out)) | exact HB.out), by repeat (first | (with_reducible first | exact HK.out | apply KeepBut.set_ | apply keep_drewN | apply keep_drew | apply keep_alloc) | exact HK.out)⟩

/-! ### spec_l1Cur_person: function 172 -/
def spec_l1Cur_person.j0 : Nat → Bool → List Int → Int → Int → Int → List (S43) → Option (Int × Int × Int)
 | 0, _, _, _, _, _, _ => none
 | k + 1, x16, x1000, x1001, x1002, x499000, x499001 => if x16 = true then ((spec_l1Cur_among.f x1000 x1001 x1002 (([(-1), 0, x499000, 4611686018427387904] : List Int))).bind fun bt505 => (some (bt505.1, bt505.2.1, bt505.2.2))) else ((spec_l1Cur_pick.f x1000 x1001 x1002 x499000).bind fun bt508 => (some (bt508.1, bt508.2.1, bt508.2.2)))
def spec_l1Cur_person.f (k : Nat) (s0_0 : List Int) (s0_1 : Int) (s0_2 : Int) (a1_0 : Int) (l1_1 : List (S43)) : Option (Int × Int × Int) := if a1_0 < 1 then (spec_l1Cur_person.j0 k true s0_0 s0_1 s0_2 a1_0 l1_1) else (if a1_0 > 12 then (spec_l1Cur_person.j0 k true s0_0 s0_1 s0_2 a1_0 l1_1) else ((spec_l1Cur_one.f s0_0 s0_1 s0_2 14).bind fun bt499 => (spec_l1Cur_person.j0 k bt499.1 s0_0 bt499.2.1 bt499.2.2 a1_0 l1_1)))
theorem spec_l1Cur_person.mono_l : ∀ k, (∀ y0 y1 y2 y3 y4 y5, LeO (spec_l1Cur_person.j0 k y0 y1 y2 y3 y4 y5) (spec_l1Cur_person.j0 (k + 1) y0 y1 y2 y3 y4 y5))
 | 0 => fun _ _ _ _ _ _ r h => by simp [spec_l1Cur_person.j0] at h
 | k + 1 => by
  have ih0 := spec_l1Cur_person.mono_l k
  ·intro y0 y1 y2 y3 y4 y5
   unfold spec_l1Cur_person.j0
   repeat' first | (with_reducible first | exact ih0 .. | exact LeO.refl _ | exact LeO.none _ | refine LeO.ite ?_ ?_ | refine LeO.bind ?_ (fun _ => ?_)) | exact ih0 .. | exact LeO.none _ | refine LeO.ite ?_ ?_ | refine LeO.bind ?_ (fun _ => ?_)
theorem spec_l1Cur_person.mono : ∀ a0 a1 a2 a3 a4 k, LeO (spec_l1Cur_person.f k a0 a1 a2 a3 a4) (spec_l1Cur_person.f (k + 1) a0 a1 a2 a3 a4) := by
 intro a0 a1 a2 a3 a4 k
 have ih0 := spec_l1Cur_person.mono_l k
 unfold spec_l1Cur_person.f
 repeat' first | (with_reducible first | exact ih0 .. | exact LeO.refl _ | exact LeO.none _ | refine LeO.ite ?_ ?_ | refine LeO.bind ?_ (fun _ => ?_)) | exact ih0 .. | exact LeO.none _ | refine LeO.ite ?_ ?_ | refine LeO.bind ?_ (fun _ => ?_)
theorem spec_l1Cur_person.calls (k : Nat) (g : Nat) (s0_0 : List Int) (s0_1 : Int) (s0_2 : Int) (a1_0 : Int) (A1_1 : Option Addr) (c1_1 : Nat) (l1_1 : List (S43)) (r1 : Int) (r2 : Int) (r3 : Int) (w0 w : World) (hI : IsS89 w0 w g s0_0 s0_1 s0_2) (hB : Below w0.heap.size w0 w) (hr1_1 : ∀ W_, KeepBut w W_ g none → Kd.C k43 W_ A1_1 l1_1.length l1_1) (hc1_1 : l1_1.length ≤ c1_1) (h : spec_l1Cur_person.f k s0_0 s0_1 s0_2 a1_0 l1_1 = some (r1, r2, r3)) :
  Calls Tryd.prog 172 #[.pointer (some ⟨g, 0, none⟩), .agg #[.int .i64 a1_0, .slice A1_1 l1_1.length c1_1]] w fun e w' => e = .returned (.int .i64 r1) ∧ IsS89 w0 w' g s0_0 r2 r3 ∧ Below w0.heap.size w0 w' ∧ KeepBut w w' g none := by
 have hu52 := Tryd.underlying52
 have HR1_1 := Aside0.mk hr1_1
 have HC1_1 := Aside0.mk hc1_1
 clear hr1_1 hc1_1
 have HI0 := Aside0.mk hI
 have HK := Aside0.mk (KeepBut.refl w g none)
 have HL := Aside0.mk hB.size
 clear hI
 have HW0 := Aside0.mk hB.size
 have HB := Aside0.mk hB
 clear hB
 have H : (if a1_0 < 1 then (spec_l1Cur_person.j0 k true s0_0 s0_1 s0_2 a1_0 l1_1) else (if a1_0 > 12 then (spec_l1Cur_person.j0 k true s0_0 s0_1 s0_2 a1_0 l1_1) else ((spec_l1Cur_one.f s0_0 s0_1 s0_2 14).bind fun bt499 => (spec_l1Cur_person.j0 k bt499.1 s0_0 bt499.2.1 bt499.2.2 a1_0 l1_1)))) = some (r1, r2, r3) := h
 clear h
 have HC3 := Aside0.mk H
 clear H
 go_enter Tryd.func172, Tryd.ntmps172
 go_upto_region 1 with (first | ((with_reducible refine gate_dst (N := 3) rfl ?_); refine bxE 3 #[.int .i64 a1_0, .slice A1_1 l1_1.length c1_1] 52 rfl ?_; intro gb498 hg w4 hbox hb; have BK498 := Aside0.mk (hbox); have GW498 := Aside0.mk ((by rw [hg]; exact (keep_size (w := w) (g := g) (row := none) (by repeat (first | (with_reducible first | exact HK.out | apply KeepBut.set_ | apply keep_drewN | apply keep_drew | apply keep_alloc) | exact HK.out))) : w.heap.size ≤ gb498)); have GE498 := Aside0.mk ((Nat.le_trans HW0.out (by rw [hg]; exact (keep_size (w := w) (g := g) (row := none) (by repeat (first | (with_reducible first | exact HK.out | apply KeepBut.set_ | apply keep_drewN | apply keep_drew | apply keep_alloc) | exact HK.out))) : w.heap.size ≤ gb498) : w0.heap.size ≤ gb498)); have NB0_498 := Aside0.mk ((by rw [hg]; exact Nat.ne_of_lt (IsS89.lt (show IsS89 w0 _ g s0_0 s0_1 s0_2 from by repeat (first | (with_reducible first | exact HI0.out | apply IsS89.alloc | apply IsS89.drewN | apply IsS89.drew | apply IsS89.set_1 | apply IsS89.set_2) | exact HI0.out))) : g ≠ gb498)); have NB498_0 := Aside0.mk ((by rw [hg]; exact Nat.ne_of_gt (IsS89.lt (show IsS89 w0 _ g s0_0 s0_1 s0_2 from by repeat (first | (with_reducible first | exact HI0.out | apply IsS89.alloc | apply IsS89.drewN | apply IsS89.drew | apply IsS89.set_1 | apply IsS89.set_2) | exact HI0.out))) : gb498 ≠ g)); replace HK := Aside0.mk (KeepBut.trans (by repeat (first | (with_reducible first | exact HK.out | apply KeepBut.set_ | apply keep_drewN | apply keep_drew | apply keep_alloc) | exact HK.out)) (KeepBut.of_below hb g none) (.inl rfl)); replace HB := Aside0.mk (below_step (by repeat (first | (with_reducible first | exact HB.out | apply below_alloc | apply pw_below_drewN | apply below_drew1 | refine below_set ?_ (IsS89.ge HI0.out)) | exact HB.out)) hb); replace HI0 := Aside0.mk (IsS89.below (by repeat (first | (with_reducible first | exact HI0.out | apply IsS89.alloc | apply IsS89.drewN | apply IsS89.drew | apply IsS89.set_1 | apply IsS89.set_2) | exact HI0.out)) hb); clear hb hbox hg))
 (try simp only [Act.put, List.setIfInBounds_toArray, List.set_cons_zero, List.set_cons_succ])
 go_cut [16] (fun v16 wc => ∃ (kq : Nat) (x16_2 : Bool) (x1001_2 : Int) (x1002_2 : Int), v16 = .bool x16_2 ∧ Aside0 (spec_l1Cur_person.j0 kq x16_2 s0_0 x1001_2 x1002_2 a1_0 l1_1 = some (r1, r2, r3)) ∧ Aside0 (kq ≤ k) ∧ Aside0 (wc.heap[gb498]? = some (.cells #[.int .i64 a1_0, (.slice A1_1 l1_1.length c1_1)] 52 (0, 0))) ∧ Aside0 (IsS89 w0 wc g s0_0 x1001_2 x1002_2) ∧ Aside0 (KeepBut w wc g none) ∧ Aside0 (Below w0.heap.size w0 wc))
 case first =>
  have H := HC3.out
  clear HC3
  by_cases c5 : a1_0 < 1
  ·rw [if_pos c5] at H
   have c5b0 := decide_eq_true c5
   clear c5
   (first | rw [c5b0] | (simp only [i64_w, i32_w]; rw [c5b0]) | skip)
   have H' := Aside0.mk H
   clear H
   have hnb6 := NB498_0.out
   have hnc6 := NB0_498.out
   obtain ⟨hcz7_0, hcz7_1, hfz7_0, hfz7_1⟩ := cf2 BK498
   go_wp2
   go_meet
   case rel => exact ⟨_, (true), (s0_1), (s0_2), sR, H', ⟨by first | omega | exact Nat.le_refl _⟩, ⟨bK⟩, ⟨by repeat (first | (with_reducible first | exact HI0.out | apply IsS89.alloc | apply IsS89.drewN | apply IsS89.drew | apply IsS89.set_1 | apply IsS89.set_2 | refine IsS89.far ?_ NB0_498.out _) | exact HI0.out)⟩, ⟨by repeat (first | (with_reducible first | exact HK.out | apply KeepBut.set_ | apply keep_drewN | apply keep_drew | apply keep_alloc | refine keep_far ?_ GW498.out _) | exact HK.out)⟩, ⟨by repeat (first | (with_reducible first | exact HB.out | apply below_alloc | apply pw_below_drewN | apply below_drew1 | refine below_set ?_ (IsS89.ge HI0.out) | refine below_set ?_ GE498.out) | exact HB.out)⟩⟩
  ·rw [if_neg c5] at H
   have c5b0 := decide_eq_false c5
   clear c5
   (first | rw [c5b0] | (simp only [i64_w, i32_w]; rw [c5b0]) | skip)
   by_cases c8 : a1_0 > 12
   ·rw [if_pos c8] at H
    have c8b0 : decide (12 < a1_0) = true := decide_eq_true c8
    clear c8
    have H' := Aside0.mk H
    clear H
    have hnb9 := NB498_0.out
    have hnc9 := NB0_498.out
    obtain ⟨hcz10_0, hcz10_1, hfz10_0, hfz10_1⟩ := cf2 BK498
    go_wp2
    go_meet
    case rel => exact ⟨_, (true), (s0_1), (s0_2), sR, H', ⟨by first | omega | exact Nat.le_refl _⟩, ⟨bK⟩, ⟨by repeat (first | (with_reducible first | exact HI0.out | apply IsS89.alloc | apply IsS89.drewN | apply IsS89.drew | apply IsS89.set_1 | apply IsS89.set_2 | refine IsS89.far ?_ NB0_498.out _) | exact HI0.out)⟩, ⟨by repeat (first | (with_reducible first | exact HK.out | apply KeepBut.set_ | apply keep_drewN | apply keep_drew | apply keep_alloc | refine keep_far ?_ GW498.out _) | exact HK.out)⟩, ⟨by repeat (first | (with_reducible first | exact HB.out | apply below_alloc | apply pw_below_drewN | apply below_drew1 | refine below_set ?_ (IsS89.ge HI0.out) | refine below_set ?_ GE498.out) | exact HB.out)⟩⟩
   ·rw [if_neg c8] at H
    have c8b0 : decide (12 < a1_0) = false := decide_eq_false c8
    clear c8
    replace H := oB H; obtain ⟨⟨t499, t500, t501⟩, A11, H⟩ := H
    try dsimp only at H
    have H' := Aside0.mk H
    clear H
    have hnb12 := NB498_0.out
    have hnc12 := NB0_498.out
    obtain ⟨hcz13_0, hcz13_1, hfz13_0, hfz13_1⟩ := cf2 BK498
    go_wp2_with (first | (go_at_call 128; (with_reducible refine (spec_l1Cur_one.calls g s0_0 s0_1 s0_2 14 t499 t500 t501 w0 _ ?side1 ?side2 A11.out).mono ?_); (case side1 => repeat (first | (with_reducible first | exact HI0.out | apply IsS89.alloc | apply IsS89.drewN | apply IsS89.drew | apply IsS89.set_1 | apply IsS89.set_2 | refine IsS89.far ?_ NB0_498.out _) | exact HI0.out)); (case side2 => repeat (first | (with_reducible first | exact HB.out | apply below_alloc | apply pw_below_drewN | apply below_drew1 | refine below_set ?_ (IsS89.ge HI0.out) | refine below_set ?_ GE498.out) | exact HB.out)); rintro e w14 ⟨rfl, hi, hb, hk⟩; replace BK498 := Aside0.mk (KeepBut.blk hk (g' := gb498) (o := .cells #[.int .i64 a1_0, .slice A1_1 l1_1.length c1_1] 52 (0, 0)) bK NB498_0.out (by simp)); replace HK := Aside0.mk (KeepBut.trans (by repeat (first | (with_reducible first | exact HK.out | apply KeepBut.set_ | apply keep_drewN | apply keep_drew | apply keep_alloc | refine keep_far ?_ GW498.out _) | exact HK.out)) hk (.inl rfl)); replace HI0 := Aside0.mk (hi); replace HB := Aside0.mk (hb); (try clear hb)))
    go_meet
    case rel => exact ⟨_, (t499), (t500), (t501), sR, H', ⟨by first | omega | exact Nat.le_refl _⟩, ⟨bK⟩, ⟨by repeat (first | (with_reducible first | exact HI0.out | apply IsS89.alloc | apply IsS89.drewN | apply IsS89.drew | apply IsS89.set_1 | apply IsS89.set_2 | refine IsS89.far ?_ NB0_498.out _) | exact HI0.out)⟩, ⟨by repeat (first | (with_reducible first | exact HK.out | apply KeepBut.set_ | apply keep_drewN | apply keep_drew | apply keep_alloc | refine keep_far ?_ GW498.out _) | exact HK.out)⟩, ⟨by repeat (first | (with_reducible first | exact HB.out | apply below_alloc | apply pw_below_drewN | apply below_drew1 | refine below_set ?_ (IsS89.ge HI0.out) | refine below_set ?_ GE498.out) | exact HB.out)⟩⟩
 case rest =>
  clear HC3
  (try clear c5); (try clear c5b0); (try clear c8); (try clear c8b0); (try clear hcz10_0 hcz10_1 hfz10_0 hfz10_1); (try clear hcz13_0 hcz13_1 hfz13_0 hfz13_1); (try clear hcz7_0 hcz7_1 hfz7_0 hfz7_1)
  obtain ⟨kq, x16_2, x1001_2, x1002_2, rfl, HA, HJ2, BK498, HI0, HK, HB⟩ := hcut
  cases kq with
  | zero => exact absurd HA.out (by simp [spec_l1Cur_person.j0])
  | succ kj2 =>
   have H := HA.out
   clear HA
   simp only [spec_l1Cur_person.j0] at H
   by_cases c15 : x16_2 = true
   ·subst c15
    rw [if_pos rfl] at H
    obtain ⟨y502, hy502⟩ : ∃ y_ : List Int, y_ = (([(-1), 0, a1_0, 4611686018427387904] : List Int)) := ⟨_, rfl⟩
    replace H : ((spec_l1Cur_among.f s0_0 x1001_2 x1002_2 y502).bind fun bt505 => (some (bt505.1, bt505.2.1, bt505.2.2))) = some (r1, r2, r3) := by first | (rw [hy502]; with_reducible exact H) | (have H2_ := (Option.bind_some _ _).symm.trans H; rw [hy502]; with_reducible exact H2_) | (have H2_ := (Option.bind_some _ _).symm.trans H; with_reducible exact H2_) | with_reducible exact H | (rw [hy502]; exact H) | exact H
    have Ny502 := Aside0.mk hy502
    clear hy502
    replace H := oB H; obtain ⟨⟨t505, t506, t507⟩, A16, H⟩ := H
    try dsimp only at H
    simp only [Option.some.injEq, Prod.mk.injEq] at H
    obtain ⟨rfl, rfl, rfl⟩ := H
    have hnb17 := NB498_0.out
    have hnc17 := NB0_498.out
    obtain ⟨hcz18_0, hcz18_1, hfz18_0, hfz18_1⟩ := cf2 BK498
    go_wp2_with (first | ((with_reducible refine gate_dst (N := 20) rfl ?_); refine Kd.R_lit (Kd.int .i64) _ 3 ?hg (N := 20) ?hd (xs := ([(-1), 0, a1_0, 4611686018427387904] : List Int)) (inner := [.int .i64 (-1), .int .i64 0, .int .i64 a1_0, .int .i64 4611686018427387904]) (ok := fun _ => True) (okp := fun _ => True) ?hr ?hp (fun _ hk => hk) trivial (Below.refl _ _) (Nat.le_refl _) (by simp) ?_; (case hd => rfl); (case hg => rfl); (case hr => first | (go_simp; done) | (go_simp; rfl)); (case hp => exact (Reps.one (show Kd.M (Kd.int .i64) _ _ _ (-1) [.int .i64 (-1)] from rfl) (Reps.one (show Kd.M (Kd.int .i64) _ _ _ 0 [.int .i64 0] from rfl) (Reps.one (show Kd.M (Kd.int .i64) _ _ _ a1_0 [.int .i64 a1_0] from rfl) (Reps.one (show Kd.M (Kd.int .i64) _ _ _ 4611686018427387904 [.int .i64 4611686018427387904] from rfl) (Reps.none _ _)))))); intro v503 w19 ho20 hb hg_ hnew_; clear hg_ hnew_; (first | rw [← Ny502.out] at ho20 | (simp only [Int.reduceToNat] at ho20; rw [← Ny502.out] at ho20)); have HO504 := Aside0.mk (Kd.R_lower ho20 (keep_size (w := w) (g := g) (row := none) (by repeat (first | (with_reducible first | exact HK.out | apply KeepBut.set_ | apply keep_drewN | apply keep_drew | apply keep_alloc | refine keep_far ?_ GW498.out _) | exact HK.out)))); replace BK498 := bS BK498 hb; replace HK := Aside0.mk (KeepBut.trans (by repeat (first | (with_reducible first | exact HK.out | apply KeepBut.set_ | apply keep_drewN | apply keep_drew | apply keep_alloc | refine keep_far ?_ GW498.out _) | exact HK.out)) (KeepBut.of_below hb g none) (.inl rfl)); replace HB := Aside0.mk (below_step (by repeat (first | (with_reducible first | exact HB.out | apply below_alloc | apply pw_below_drewN | apply below_drew1 | refine below_set ?_ (IsS89.ge HI0.out) | refine below_set ?_ GE498.out) | exact HB.out)) hb); replace HI0 := Aside0.mk (IsS89.below (by repeat (first | (with_reducible first | exact HI0.out | apply IsS89.alloc | apply IsS89.drewN | apply IsS89.drew | apply IsS89.set_1 | apply IsS89.set_2 | refine IsS89.far ?_ NB0_498.out _) | exact HI0.out)) hb); clear hb ho20; obtain ⟨Ao21, co21, eo21⟩ := Kd.R_slice HO504.out; subst eo21) | ((with_reducible refine gate_callee (f := 90) rfl ?_); refine goC (N := some 21) Tryd.func90 #[.pointer (some ⟨g, 0, none⟩), .slice Ao21 y502.length co21] rfl ?_; (with_reducible refine (spec_l1Cur_among.calls g s0_0 x1001_2 x1002_2 _ _ y502 t505 t506 t507 w0 _ ?side1 ?side2 ?side3 ?side4 ?side5 A16.out).mono ?_); (case side1 => repeat (first | (with_reducible first | exact HI0.out | apply IsS89.alloc | apply IsS89.drewN | apply IsS89.drew | apply IsS89.set_1 | apply IsS89.set_2 | refine IsS89.far ?_ NB0_498.out _) | exact HI0.out)); (case side2 => repeat (first | (with_reducible first | exact HB.out | apply below_alloc | apply pw_below_drewN | apply below_drew1 | refine below_set ?_ (IsS89.ge HI0.out) | refine below_set ?_ GE498.out) | exact HB.out)); (case side3 => exact cS (Kd.R_reads' HO504.out).2.2); (case side4 => exact (Kd.R_reads' HO504.out).2.1); (case side5 => exact far_slice (IsS89.own_ne HI0.out HO504.out (by decide))); rintro e w22 ⟨rfl, hi, hb, hk⟩; refine ⟨_, rfl, ?_⟩; replace BK498 := Aside0.mk (KeepBut.blk hk (g' := gb498) (o := .cells #[.int .i64 a1_0, .slice A1_1 l1_1.length c1_1] 52 (0, 0)) bK NB498_0.out (by simp)); replace HO504 := Aside0.mk (Kd.R_mono (Kd.R_keep (IsS89.apart (show IsS89 w0 _ g s0_0 x1001_2 x1002_2 from by repeat (first | (with_reducible first | exact HI0.out | apply IsS89.alloc | apply IsS89.drewN | apply IsS89.drew | apply IsS89.set_1 | apply IsS89.set_2 | refine IsS89.far ?_ NB0_498.out _) | exact HI0.out)) (rU HO504) (by decide)) hk (fun _ h => h.2)) (fun _ h => h.1)); replace HK := Aside0.mk (KeepBut.trans (by repeat (first | (with_reducible first | exact HK.out | apply KeepBut.set_ | apply keep_drewN | apply keep_drew | apply keep_alloc | refine keep_far ?_ GW498.out _) | exact HK.out)) hk (.inl rfl)); replace HI0 := Aside0.mk (hi); replace HB := Aside0.mk (hb); (try clear hb)))
    go_ret
    exact ⟨eW, by repeat (first | (with_reducible first | exact HI0.out | apply IsS89.alloc | apply IsS89.drewN | apply IsS89.drew | apply IsS89.set_1 | apply IsS89.set_2 | refine IsS89.far ?_ NB0_498.out _) | exact HI0.out), by repeat (first | (with_reducible first | exact HB.out | apply below_alloc | apply pw_below_drewN | apply below_drew1 | refine below_set ?_ (IsS89.ge HI0.out) | refine below_set ?_ GE498.out) | exact HB.out), by repeat (first | (with_reducible first | exact HK.out | apply KeepBut.set_ | apply keep_drewN | apply keep_drew | apply keep_alloc | refine keep_far ?_ GW498.out _) | exact HK.out)⟩
   ·replace c15 := Bool.eq_false_iff.mpr c15
    subst c15
    rw [if_neg (show ¬ (false = true) by decide)] at H
    replace H := oB H; obtain ⟨⟨t508, t509, t510⟩, A23, H⟩ := H
    try dsimp only at H
    simp only [Option.some.injEq, Prod.mk.injEq] at H
    obtain ⟨rfl, rfl, rfl⟩ := H
    have hnb24 := NB498_0.out
    have hnc24 := NB0_498.out
    obtain ⟨hcz25_0, hcz25_1, hfz25_0, hfz25_1⟩ := cf2 BK498
    go_wp2_with (first | ((with_reducible refine gate_callee (f := 93) rfl ?_); refine goC (N := some 25) Tryd.func93 #[.pointer (some ⟨g, 0, none⟩), .int .i64 a1_0] rfl ?_; (with_reducible refine (spec_l1Cur_pick.calls g s0_0 x1001_2 x1002_2 a1_0 t508 t509 t510 w0 _ ?side1 ?side2 A23.out).mono ?_); (case side1 => repeat (first | (with_reducible first | exact HI0.out | apply IsS89.alloc | apply IsS89.drewN | apply IsS89.drew | apply IsS89.set_1 | apply IsS89.set_2 | refine IsS89.far ?_ NB0_498.out _) | exact HI0.out)); (case side2 => repeat (first | (with_reducible first | exact HB.out | apply below_alloc | apply pw_below_drewN | apply below_drew1 | refine below_set ?_ (IsS89.ge HI0.out) | refine below_set ?_ GE498.out) | exact HB.out)); rintro e w26 ⟨rfl, hi, hb, hk⟩; refine ⟨_, rfl, ?_⟩; replace BK498 := Aside0.mk (KeepBut.blk hk (g' := gb498) (o := .cells #[.int .i64 a1_0, .slice A1_1 l1_1.length c1_1] 52 (0, 0)) bK NB498_0.out (by simp)); replace HK := Aside0.mk (KeepBut.trans (by repeat (first | (with_reducible first | exact HK.out | apply KeepBut.set_ | apply keep_drewN | apply keep_drew | apply keep_alloc | refine keep_far ?_ GW498.out _) | exact HK.out)) hk (.inl rfl)); replace HI0 := Aside0.mk (hi); replace HB := Aside0.mk (hb); (try clear hb)))
    go_ret
    exact ⟨eW, by repeat (first | (with_reducible first | exact HI0.out | apply IsS89.alloc | apply IsS89.drewN | apply IsS89.drew | apply IsS89.set_1 | apply IsS89.set_2 | refine IsS89.far ?_ NB0_498.out _) | exact HI0.out), by repeat (first | (with_reducible first | exact HB.out | apply below_alloc | apply pw_below_drewN | apply below_drew1 | refine below_set ?_ (IsS89.ge HI0.out) | refine below_set ?_ GE498.out) | exact HB.out), by repeat (first | (with_reducible first | exact HK.out | apply KeepBut.set_ | apply keep_drewN | apply keep_drew | apply keep_alloc | refine keep_far ?_ GW498.out _) | exact HK.out)⟩

/-! ### spec_DrawAreFriends: function 157 -/
def spec_DrawAreFriends.f (k : Nat) (l0 : List Int) : Option (Int × (List (S43)) × Int × Int) := (spec_l1Cur_party.f k l0 0 0 8).bind fun bt513 => ((spec_l1Cur_person.f k l0 bt513.2.2.1 bt513.2.2.2 bt513.1 bt513.2.1).bind fun bt520 => ((spec_l1Cur_person.f k l0 bt520.2.1 bt520.2.2 bt513.1 bt513.2.1).bind fun bt523 => (some (bt513.1, bt513.2.1, bt520.1, bt523.1))))
theorem spec_DrawAreFriends.mono : ∀ a0 k, LeO (spec_DrawAreFriends.f k a0) (spec_DrawAreFriends.f (k + 1) a0) := by
 intro a0 k
 unfold spec_DrawAreFriends.f
 repeat' first | (with_reducible first | exact spec_l1Cur_party.mono .. | exact spec_l1Cur_person.mono .. | exact LeO.refl _ | exact LeO.none _ | refine LeO.ite ?_ ?_ | refine LeO.bind ?_ (fun _ => ?_)) | exact spec_l1Cur_party.mono .. | exact spec_l1Cur_person.mono .. | exact LeO.none _ | refine LeO.ite ?_ ?_ | refine LeO.bind ?_ (fun _ => ?_)
def spec_DrawAreFriends.T3 : Bool × List (List Nat × List Nat) := (true, [([], []), ([], []), ([], []), ([1, 2], [1, 2]), ([], []), ([], []), ([4, 5, 3], [4, 5]), ([0, 6, 0], [0]), ([3, 7, 0, 1, 2, 3, 7], [3]), ([6, 8, 0, 1, 2, 3, 4, 5, 6, 7, 8], [6])])
def spec_DrawAreFriends.B3 : List Nat := [0, 0, 0, 6, 0, 0, 62, 127, 255, 511]
theorem spec_DrawAreFriends.tab3 : rtab .any (opsOf Tryd.f157 3) = spec_DrawAreFriends.T3 := by kernel_rfl
theorem spec_DrawAreFriends.bits3 : waitsOk spec_DrawAreFriends.T3.2 spec_DrawAreFriends.B3 = true := by kernel_rfl
theorem spec_DrawAreFriends.calls (k : Nat) (A0 : Option Addr) (c0 : Nat) (l0 : List Int) (r1 : Int) (r2 : List (S43)) (r3 : Int) (r4 : Int) (w : World) (hr0 : Kd.C (Kd.int .u8) w A0 l0.length l0) (hc0 : l0.length ≤ c0) (h : spec_DrawAreFriends.f k l0 = some (r1, r2, r3, r4)) :
  Calls Tryd.prog 157 #[.slice A0 l0.length c0] w fun e w' => ∃ v1_ : Value, e = .returned (.tuple #[.agg #[.int .i64 r1, v1_], .int .i64 r3, .int .i64 r4]) ∧ Kd.R k43 43 w' w.heap.size (fun _ => True) v1_ r2 ∧ Below w.heap.size w w' := by
 have hu52 := Tryd.underlying52
 have hu89 := Tryd.underlying89
 have HR0 := Aside0.mk hr0
 have HC0 := Aside0.mk hc0
 clear hr0 hc0
 have HB := Aside0.mk (Below.refl w.heap.size w)
 have H : ((spec_l1Cur_party.f k l0 0 0 8).bind fun bt513 => ((spec_l1Cur_person.f k l0 bt513.2.2.1 bt513.2.2.2 bt513.1 bt513.2.1).bind fun bt520 => ((spec_l1Cur_person.f k l0 bt520.2.1 bt520.2.2 bt513.1 bt513.2.1).bind fun bt523 => (some (bt513.1, bt513.2.1, bt520.1, bt523.1))))) = some (r1, r2, r3, r4) := h
 clear h
 replace H := oB H; obtain ⟨⟨t513, t514, t517, t518⟩, A2, H⟩ := H
 try dsimp only at H
 replace H := oB H; obtain ⟨⟨t520, t521, t522⟩, A3, H⟩ := H
 try dsimp only at H
 replace H := oB H; obtain ⟨⟨t523, t524, t525⟩, A4, H⟩ := H
 try dsimp only at H
 simp only [Option.some.injEq, Prod.mk.injEq] at H
 obtain ⟨rfl, rfl, rfl, rfl⟩ := H
 go_enter Tryd.func157, Tryd.ntmps157
 try go_wp2_with (first | ((with_reducible refine gate_dst (N := 2) rfl ?_); refine bxE 2 #[.int .i64 0, .slice none 0 0] 52 rfl ?_; intro gb511 hg w5 hbox hb; have BK511 := Aside0.mk (hbox); have GW511 := gS HB hg; have GE511 := gS HB hg; replace HB := hS HB hb; clear hb hbox hg) | ((with_reducible refine gate_dst (N := 9) rfl ?_); refine bxE 9 #[.slice A0 l0.length c0, .int .i64 0, .int .u64 0] 89 rfl ?_; intro gb512 hg w6 hbox hb; have BK512 := Aside0.mk (hbox); have GW512 := gS HB hg; have GE512 := gS HB hg; have NB511_512 := nL BK511 hg; have NB512_511 := nG BK511 hg; have HI512 := Aside0.mk ((⟨_, _, hbox, (by rw [hg]; exact (below_size hB)), by first | exact HR0.out | exact hr0 | assumption⟩ : IsS89 w w6 gb512 l0 0 0)); replace BK511 := bS BK511 hb; replace HB := hS HB hb; clear hb hbox hg) | ((with_reducible refine gate_callee (f := 149) rfl ?_); refine goC (N := some 11) Tryd.func149 #[.pointer (some ⟨gb512, 0, none⟩), .int .i64 8] rfl ?_; (with_reducible refine (spec_l1Cur_party.calls k gb512 l0 0 0 8 t513 t514 t517 t518 w _ ?side1 ?side2 A2.out).mono ?_); (case side1 => repeat (first | (with_reducible first | exact HI512.out | apply IsS89.alloc | apply IsS89.drewN | apply IsS89.drew | apply IsS89.set_1 | apply IsS89.set_2 | refine IsS89.far ?_ NB512_511.out _) | exact HI512.out)); (case side2 => repeat (first | (with_reducible first | exact HB.out | apply below_alloc | apply pw_below_drewN | apply below_drew1 | refine below_set ?_ (IsS89.ge HI512.out) | refine below_set ?_ GE511.out) | exact HB.out)); rintro e w7 ⟨v515, rfl, ho0, hi, hb, hk⟩; refine ⟨_, rfl, ?_⟩; have HO516 := Aside0.mk (Kd.R_lower ho0 (below_size (by repeat (first | (with_reducible first | exact HB.out | apply below_alloc | apply pw_below_drewN | apply below_drew1 | refine below_set ?_ (IsS89.ge HI512.out) | refine below_set ?_ GE511.out) | exact HB.out)))); replace BK511 := Aside0.mk (KeepBut.blk hk (g' := gb511) (o := .cells #[.int .i64 0, .slice none 0 0] 52 (0, 0)) bK NB511_512.out (by simp)); replace HI512 := Aside0.mk (hi); replace HB := Aside0.mk (hb); (try clear hb ho0)) | ((with_reducible refine gate_dst (N := 6) rfl ?_); refine bxE 6 #[.int .i64 0, .slice none 0 0] 52 rfl ?_; intro gb519 hg w8 hbox hb; have BK519 := Aside0.mk (hbox); have GW519 := Aside0.mk ((by rw [hg]; exact (below_size (by repeat (first | (with_reducible first | exact HB.out | apply below_alloc | apply pw_below_drewN | apply below_drew1 | refine below_set ?_ (IsS89.ge HI512.out) | refine below_set ?_ GE511.out) | exact HB.out))) : w.heap.size ≤ gb519)); have GE519 := Aside0.mk ((by rw [hg]; exact (below_size (by repeat (first | (with_reducible first | exact HB.out | apply below_alloc | apply pw_below_drewN | apply below_drew1 | refine below_set ?_ (IsS89.ge HI512.out) | refine below_set ?_ GE511.out) | exact HB.out))) : w.heap.size ≤ gb519)); have NB511_519 := nL BK511 hg; have NB519_511 := nG BK511 hg; have NB512_519 := Aside0.mk ((by rw [hg]; exact Nat.ne_of_lt (IsS89.lt (show IsS89 w _ gb512 l0 t517 t518 from by repeat (first | (with_reducible first | exact HI512.out | apply IsS89.alloc | apply IsS89.drewN | apply IsS89.drew | apply IsS89.set_1 | apply IsS89.set_2 | refine IsS89.far ?_ NB512_511.out _) | exact HI512.out))) : gb512 ≠ gb519)); have NB519_512 := Aside0.mk ((by rw [hg]; exact Nat.ne_of_gt (IsS89.lt (show IsS89 w _ gb512 l0 t517 t518 from by repeat (first | (with_reducible first | exact HI512.out | apply IsS89.alloc | apply IsS89.drewN | apply IsS89.drew | apply IsS89.set_1 | apply IsS89.set_2 | refine IsS89.far ?_ NB512_511.out _) | exact HI512.out))) : gb519 ≠ gb512)); replace HO516 := rB HO516 hb; replace BK511 := bS BK511 hb; replace HB := Aside0.mk (below_step (by repeat (first | (with_reducible first | exact HB.out | apply below_alloc | apply pw_below_drewN | apply below_drew1 | refine below_set ?_ (IsS89.ge HI512.out) | refine below_set ?_ GE511.out) | exact HB.out)) hb); replace HI512 := Aside0.mk (IsS89.below (by repeat (first | (with_reducible first | exact HI512.out | apply IsS89.alloc | apply IsS89.drewN | apply IsS89.drew | apply IsS89.set_1 | apply IsS89.set_2 | refine IsS89.far ?_ NB512_511.out _) | exact HI512.out)) hb); clear hb hbox hg; have hnb9 := NB519_511.out; have hnc9 := NB511_519.out; have hnb10 := NB519_512.out; have hnc10 := NB512_519.out; obtain ⟨hcz11_0, hcz11_1, hfz11_0, hfz11_1⟩ := cf2 BK519; obtain ⟨Ao12, co12, eo12⟩ := Kd.R_slice HO516.out; subst eo12))
 have n0_ : Aside0 (Kd.R k43 43 ((w8.setCell ⟨gb519, 0, none⟩ (.int .i64 t513)).setCell ⟨gb519, 1, none⟩ (.slice Ao12 t514.length co12)) w.heap.size (fun _ => True) (.slice Ao12 t514.length co12) t514) := ⟨by (with_reducible repeat (first | apply Kd.R_alloc | apply Kd.R_drewN | apply Kd.R_drew)); exact Kd.R_mono (Kd.R_far (p := ⟨gb519, 1, none⟩) (Kd.R_far (p := ⟨gb519, 0, none⟩) (Kd.R_types HO516.out BK519.out (by decide)) (fun _ hk => hk.2) (.int .i64 t513)) (fun _ hk => hk.2) (.slice Ao12 t514.length co12)) (fun _ hk => trivial)⟩
 have n1_ : Aside0 (((w8.setCell ⟨gb519, 0, none⟩ (.int .i64 t513)).setCell ⟨gb519, 1, none⟩ (.slice Ao12 t514.length co12)).heap[gb511]? = some (.cells #[.int .i64 0, .slice none 0 0] 52 (0, 0))) := ⟨by (with_reducible repeat (first | refine blk_drewN ?_ _ | refine blk_drew ?_ | refine blk_alloc ?_ _)); refine blk_far ?_ NB511_519.out _; (with_reducible repeat (first | refine blk_drewN ?_ _ | refine blk_drew ?_ | refine blk_alloc ?_ _)); refine blk_far ?_ NB511_519.out _; (with_reducible repeat (first | refine blk_drewN ?_ _ | refine blk_drew ?_ | refine blk_alloc ?_ _)); exact BK511.out⟩
 have n2_ : Aside0 (((w8.setCell ⟨gb519, 0, none⟩ (.int .i64 t513)).setCell ⟨gb519, 1, none⟩ (.slice Ao12 t514.length co12)).heap[gb519]? = some (.cells #[.int .i64 t513, .slice Ao12 t514.length co12] 52 (0, 0))) := ⟨by (with_reducible repeat (first | refine blk_drewN ?_ _ | refine blk_drew ?_ | refine blk_alloc ?_ _)); refine blk_put (cs := #[.int .i64 t513, .slice none 0 0]) ?_ 1 _ rfl; (with_reducible repeat (first | refine blk_drewN ?_ _ | refine blk_drew ?_ | refine blk_alloc ?_ _)); refine blk_put (cs := #[.int .i64 0, .slice none 0 0]) ?_ 0 _ rfl; (with_reducible repeat (first | refine blk_drewN ?_ _ | refine blk_drew ?_ | refine blk_alloc ?_ _)); exact BK519.out⟩
 have n3_ : Aside0 (IsS89 w ((w8.setCell ⟨gb519, 0, none⟩ (.int .i64 t513)).setCell ⟨gb519, 1, none⟩ (.slice Ao12 t514.length co12)) gb512 l0 t517 t518) := ⟨by repeat (first | (with_reducible first | exact HI512.out | apply IsS89.alloc | apply IsS89.drewN | apply IsS89.drew | apply IsS89.set_1 | apply IsS89.set_2 | refine IsS89.far ?_ NB512_511.out _ | refine IsS89.far ?_ NB512_519.out _) | exact HI512.out)⟩
 have n4_ : Aside0 (Below w.heap.size w ((w8.setCell ⟨gb519, 0, none⟩ (.int .i64 t513)).setCell ⟨gb519, 1, none⟩ (.slice Ao12 t514.length co12))) := ⟨by repeat (first | (with_reducible first | exact HB.out | apply below_alloc | apply pw_below_drewN | apply below_drew1 | refine below_set ?_ (IsS89.ge HI512.out) | refine below_set ?_ GE511.out | refine below_set ?_ GE519.out) | exact HB.out)⟩
 (try clear HO516)
 (try clear BK511)
 (try clear BK519)
 (try clear HI512)
 (try clear HB)
 generalize ((w8.setCell ⟨gb519, 0, none⟩ (.int .i64 t513)).setCell ⟨gb519, 1, none⟩ (.slice Ao12 t514.length co12)) = w13 at n0_ n1_ n2_ n3_ n4_ ⊢
 have HO516 := n0_
 have BK511 := n1_
 have BK519 := n2_
 have HI512 := n3_
 have HB := n4_
 clear n0_ n1_ n2_ n3_ n4_
 replace HO516 := Aside0.mk (Kd.R_drew HO516.out)
 replace BK511 := Aside0.mk (blk_drew BK511.out)
 replace BK519 := Aside0.mk (blk_drew BK519.out)
 replace HI512 := Aside0.mk (IsS89.drew HI512.out)
 replace HB := Aside0.mk (below_drew1 HB.out)
 refine start_ (n := 10) (S := fun w' => w'.cell? ⟨gb519, 0, none⟩ = some (.int .i64 t513) ∧ w'.cell? ⟨gb519, 1, none⟩ = some (.slice Ao12 t514.length co12)) (ds := []) (bz 10 0) (by kernel_rfl) rfl rfl ⟨(blk_cell BK519.out 0).trans rfl, (blk_cell BK519.out 1).trans rfl⟩ (fun hHeld => ?_); refine with_tabW spec_DrawAreFriends.tab3 spec_DrawAreFriends.bits3 (fun HT_ HW_ => ?_)
 generalize w13.drew = w14 at HO516 BK511 BK519 HI512 HB hHeld ⊢
 refine run_ [(0, 1, 2, some 13), (0, 4, 18, some 16), (1, 0, 19, some 12), (1, 2, 23, some 14), (1, 5, 55, some 17)] ?_
 repeat (first | (apply tag0; refine run_p (v := ?_) (a' := ?_) rfl rfl (any_of HT_.out (by kernel_rfl)) (fun _ _ _ h => h) (by rfl) ?_ ?_ ?_; rotate_left 2; (intro w'; go_simp; with_reducible rfl); (first | (simp only [Act.put, List.setIfInBounds_toArray, List.set_cons_zero, List.set_cons_succ, i64_w, i32_w]; rfl) | rfl)) | (apply tag1; refine run_t (v := ?_) (a' := ?_) rfl rfl (take_ofW HT_.out HW_.out (by kernel_rfl)) (fun _ _ _ h => h) (by rfl) ?_ hHeld ?_ ?_; rotate_left 2; (rintro w' ⟨s0, s1⟩; go_simp; with_reducible rfl); (first | (simp only [Act.put, List.setIfInBounds_toArray, List.set_cons_zero, List.set_cons_succ, i64_w, i32_w]; rfl) | rfl)))
 refine run_nil ?_
 refine one_ (i := 3) (N := some 15) (bz 10 63) rfl rfl (one_of HT_.out (by kernel_rfl)) (by decide) (fun K hK => ?_)
 refine goes_ Tryd.func172 (by kernel_rfl) rfl #[.pointer (some ⟨gb512, 0, none⟩), .agg #[.int .i64 t513, .slice Ao12 t514.length co12]] (by rfl) rfl rfl mapT ?_
 with_reducible refine (spec_l1Cur_person.calls k gb512 l0 t517 t518 t513 _ _ t514 t520 t521 t522 w _ ?side1 ?side2 ?side3 ?side4 A3.out).mono ?_
 (case side1 => repeat (first | (with_reducible first | exact HI512.out | apply IsS89.alloc | apply IsS89.drewN | apply IsS89.drew | apply IsS89.set_1 | apply IsS89.set_2 | refine IsS89.far ?_ NB512_511.out _ | refine IsS89.far ?_ NB512_519.out _) | exact HI512.out))
 (case side2 => repeat (first | (with_reducible first | exact HB.out | apply below_alloc | apply pw_below_drewN | apply below_drew1 | refine below_set ?_ (IsS89.ge HI512.out) | refine below_set ?_ GE511.out | refine below_set ?_ GE519.out) | exact HB.out))
 (case side3 => exact Kd.C_foot_own (IsS89.apart (show IsS89 w _ gb512 l0 t517 t518 from by repeat (first | (with_reducible first | exact HI512.out | apply IsS89.alloc | apply IsS89.drewN | apply IsS89.drew | apply IsS89.set_1 | apply IsS89.set_2 | refine IsS89.far ?_ NB512_511.out _ | refine IsS89.far ?_ NB512_519.out _) | exact HI512.out)) (rU HO516) (by decide)) (fun _ h_ => h_.2))
 (case side4 => exact (Kd.R_reads' HO516.out).2.1)
 rintro e w15 ⟨rfl, hi, hb, hk⟩
 refine ⟨_, rfl, ?_⟩
 have n0_ := Aside0.mk (KeepBut.blk hk (g' := gb511) (o := .cells #[.int .i64 0, .slice none 0 0] 52 (0, 0)) bK NB511_512.out (by simp))
 have n1_ := Aside0.mk (Kd.R_mono (Kd.R_keep (IsS89.apart (show IsS89 w _ gb512 l0 t517 t518 from by repeat (first | (with_reducible first | exact HI512.out | apply IsS89.alloc | apply IsS89.drewN | apply IsS89.drew | apply IsS89.set_1 | apply IsS89.set_2 | refine IsS89.far ?_ NB512_511.out _ | refine IsS89.far ?_ NB512_519.out _) | exact HI512.out)) (rU HO516) (by decide)) hk (fun _ h => h.2)) (fun _ h => h.1))
 have n2_ := Aside0.mk (KeepBut.blk hk (g' := gb519) (o := .cells #[.int .i64 t513, .slice Ao12 t514.length co12] 52 (0, 0)) bK NB519_512.out (by simp))
 have n3_ := Aside0.mk (hb)
 have n4_ := Aside0.mk (hi)
 clear BK511
 clear HO516
 clear BK519
 clear HB
 clear HI512
 have BK511 := n0_
 have HO516 := n1_
 have BK519 := n2_
 have HB := n3_
 have HI512 := n4_
 clear n0_ n1_ n2_ n3_ n4_
 (try clear hb)
 (try clear hb2)
 (try clear hk)
 (try clear hi)
 refine hK.out _ _ ⟨(blk_cell BK519.out 0).trans rfl, (blk_cell BK519.out 1).trans rfl⟩ (fun hHeld => ?_)
 clear hK K
 refine norm_ (a' := ?_) ?_ ?_
 rotate_left
 ·show Act.put _ (some 15) _ = _
  simp only [Act.put, List.setIfInBounds_toArray, List.set_cons_zero, List.set_cons_succ, i64_w, i32_w]
  rfl
 refine one_ (i := 6) (N := some 18) (bz 10 127) rfl rfl (one_of HT_.out (by kernel_rfl)) (by decide) (fun K hK => ?_)
 refine goes_ Tryd.func172 (by kernel_rfl) rfl #[.pointer (some ⟨gb512, 0, none⟩), .agg #[.int .i64 t513, .slice Ao12 t514.length co12]] (by rfl) rfl rfl mapT ?_
 with_reducible refine (spec_l1Cur_person.calls k gb512 l0 t521 t522 t513 _ _ t514 t523 t524 t525 w _ ?side1 ?side2 ?side3 ?side4 A4.out).mono ?_
 (case side1 => repeat (first | (with_reducible first | exact HI512.out | apply IsS89.alloc | apply IsS89.drewN | apply IsS89.drew | apply IsS89.set_1 | apply IsS89.set_2 | refine IsS89.far ?_ NB512_511.out _ | refine IsS89.far ?_ NB512_519.out _) | exact HI512.out))
 (case side2 => repeat (first | (with_reducible first | exact HB.out | apply below_alloc | apply pw_below_drewN | apply below_drew1 | refine below_set ?_ (IsS89.ge HI512.out) | refine below_set ?_ GE511.out | refine below_set ?_ GE519.out) | exact HB.out))
 (case side3 => exact Kd.C_foot_own (IsS89.apart (show IsS89 w _ gb512 l0 t521 t522 from by repeat (first | (with_reducible first | exact HI512.out | apply IsS89.alloc | apply IsS89.drewN | apply IsS89.drew | apply IsS89.set_1 | apply IsS89.set_2 | refine IsS89.far ?_ NB512_511.out _ | refine IsS89.far ?_ NB512_519.out _) | exact HI512.out)) (rU HO516) (by decide)) (fun _ h_ => h_.2))
 (case side4 => exact (Kd.R_reads' HO516.out).2.1)
 rintro e w16 ⟨rfl, hi, hb, hk⟩
 refine ⟨_, rfl, ?_⟩
 have n0_ := Aside0.mk (KeepBut.blk hk (g' := gb511) (o := .cells #[.int .i64 0, .slice none 0 0] 52 (0, 0)) bK NB511_512.out (by simp))
 have n1_ := Aside0.mk (Kd.R_mono (Kd.R_keep (IsS89.apart (show IsS89 w _ gb512 l0 t521 t522 from by repeat (first | (with_reducible first | exact HI512.out | apply IsS89.alloc | apply IsS89.drewN | apply IsS89.drew | apply IsS89.set_1 | apply IsS89.set_2 | refine IsS89.far ?_ NB512_511.out _ | refine IsS89.far ?_ NB512_519.out _) | exact HI512.out)) (rU HO516) (by decide)) hk (fun _ h => h.2)) (fun _ h => h.1))
 have n2_ := Aside0.mk (KeepBut.blk hk (g' := gb519) (o := .cells #[.int .i64 t513, .slice Ao12 t514.length co12] 52 (0, 0)) bK NB519_512.out (by simp))
 have n3_ := Aside0.mk (hb)
 have n4_ := Aside0.mk (hi)
 clear BK511
 clear HO516
 clear BK519
 clear HB
 clear HI512
 have BK511 := n0_
 have HO516 := n1_
 have BK519 := n2_
 have HB := n3_
 have HI512 := n4_
 clear n0_ n1_ n2_ n3_ n4_
 (try clear hb)
 (try clear hb2)
 (try clear hk)
 (try clear hi)
 refine hK.out _ _ ⟨(blk_cell BK519.out 0).trans rfl, (blk_cell BK519.out 1).trans rfl⟩ (fun hHeld => ?_)
 clear hK K
 refine norm_ (a' := ?_) ?_ ?_
 rotate_left
 ·show Act.put _ (some 18) _ = _
  simp only [Act.put, List.setIfInBounds_toArray, List.set_cons_zero, List.set_cons_succ, i64_w, i32_w]
  rfl
 refine one_ (i := 7) (N := none) (bz 10 255) rfl rfl (one_of HT_.out (by kernel_rfl)) (by decide) (fun K hK => ?_)
 have hs17 : w16.cell? ⟨gb511, 0, none⟩ = some (.int .i64 0) := (blk_cell BK511.out 0).trans rfl
 have hfs17 := fz BK511 0
 have hns17_1 := NB519_511.out
 have hms17_1 := NB511_519.out
 have hs18 : w16.cell? ⟨gb511, 1, none⟩ = some (.slice none 0 0) := (blk_cell BK511.out 1).trans rfl
 have hfs18 := fz BK511 1
 have hns18_1 := NB519_511.out
 have hms18_1 := NB511_519.out
 refine skip_ (w1 := ?_) (by rfl) rfl ?_ ?_
 rotate_left
 ·go_simp
  rfl
 refine hK.out _ _ ⟨((cell_far (p := ⟨gb511, _, none⟩) NB519_511.out _).trans (((cell_far (p := ⟨gb511, _, none⟩) NB519_511.out _).trans (hHeld.1)))), ((cell_far (p := ⟨gb511, _, none⟩) NB519_511.out _).trans (((cell_far (p := ⟨gb511, _, none⟩) NB519_511.out _).trans (hHeld.2))))⟩ (fun hHeld => ?_)
 clear hK K
 refine run_ [(0, 8, 511, some 3), (0, 9, 1023, some 4)] ?_
 repeat ((apply tag0; refine run_p (v := ?_) (a' := ?_) rfl rfl (any_of HT_.out (by kernel_rfl)) (fun _ _ _ h => h) (by rfl) ?_ ?_ ?_; rotate_left 2; (intro w'; go_simp; with_reducible rfl); (first | (simp only [Act.put, List.setIfInBounds_toArray, List.set_cons_zero, List.set_cons_succ, i64_w, i32_w]; rfl) | rfl)))
 refine run_nil ?_
 refine done_ (done_of HT_.out (by kernel_rfl)) ?_
 try go_wp2
 refine bodyPost_ret (results_ctt rfl _ _ gb511 52 #[.int .i64 t513, .slice Ao12 t514.length co12] (0, 0) _ rfl (by (with_reducible repeat (first | refine blk_drewN ?_ _ | refine blk_drew ?_ | refine blk_alloc ?_ _)); refine blk_put (cs := #[.int .i64 t513, .slice none 0 0]) ?_ 1 _ rfl; (with_reducible repeat (first | refine blk_drewN ?_ _ | refine blk_drew ?_ | refine blk_alloc ?_ _)); refine blk_put (cs := #[.int .i64 0, .slice none 0 0]) ?_ 0 _ rfl; (with_reducible repeat (first | refine blk_drewN ?_ _ | refine blk_drew ?_ | refine blk_alloc ?_ _)); exact BK511.out) Tryd.underlying52 rfl (by kernel_rfl)) rfl ?_
 exact ⟨_, eW, by (with_reducible repeat (first | apply Kd.R_alloc | apply Kd.R_drewN | apply Kd.R_drew)); exact Kd.R_mono (Kd.R_far (p := ⟨gb511, 1, none⟩) (Kd.R_far (p := ⟨gb511, 0, none⟩) (Kd.R_types HO516.out BK511.out (by decide)) (fun _ hk => hk.2) (.int .i64 t513)) (fun _ hk => hk.2) (.slice Ao12 t514.length co12)) (fun _ hk => trivial), by repeat (first | (with_reducible first | exact HB.out | apply below_alloc | apply pw_below_drewN | apply below_drew1 | refine below_set ?_ (IsS89.ge HI512.out) | refine below_set ?_ GE511.out | refine below_set ?_ GE519.out) | exact HB.out)⟩

/-! ### spec_DrawFriendsOf: function 119 -/
def spec_DrawFriendsOf.f (k : Nat) (l0 : List Int) : Option (Int × (List (S43)) × Int) := (spec_DrawAreFriends.f k l0).bind fun bt527 => (some (bt527.1, bt527.2.1, bt527.2.2.1))
theorem spec_DrawFriendsOf.mono : ∀ a0 k, LeO (spec_DrawFriendsOf.f k a0) (spec_DrawFriendsOf.f (k + 1) a0) := by
 intro a0 k
 unfold spec_DrawFriendsOf.f
 repeat' first | (with_reducible first | exact spec_DrawAreFriends.mono .. | exact LeO.refl _ | exact LeO.none _ | refine LeO.ite ?_ ?_ | refine LeO.bind ?_ (fun _ => ?_)) | exact spec_DrawAreFriends.mono .. | exact LeO.none _ | refine LeO.ite ?_ ?_ | refine LeO.bind ?_ (fun _ => ?_)
theorem spec_DrawFriendsOf.calls (k : Nat) (A0 : Option Addr) (c0 : Nat) (l0 : List Int) (r1 : Int) (r2 : List (S43)) (r3 : Int) (w : World) (hr0 : Kd.C (Kd.int .u8) w A0 l0.length l0) (hc0 : l0.length ≤ c0) (h : spec_DrawFriendsOf.f k l0 = some (r1, r2, r3)) :
  Calls Tryd.prog 119 #[.slice A0 l0.length c0] w fun e w' => ∃ v1_ : Value, e = .returned (.tuple #[.agg #[.int .i64 r1, v1_], .int .i64 r3]) ∧ Kd.R k43 43 w' w.heap.size (fun _ => True) v1_ r2 ∧ Below w.heap.size w w' := by
 have hu52 := Tryd.underlying52
 have HR0 := Aside0.mk hr0
 have HC0 := Aside0.mk hc0
 clear hr0 hc0
 have HB := Aside0.mk (Below.refl w.heap.size w)
 have H : ((spec_DrawAreFriends.f k l0).bind fun bt527 => (some (bt527.1, bt527.2.1, bt527.2.2.1))) = some (r1, r2, r3) := h
 clear h
 replace H := oB H; obtain ⟨⟨t527, t528, t531, t532⟩, A2, H⟩ := H
 try dsimp only at H
 simp only [Option.some.injEq, Prod.mk.injEq] at H
 obtain ⟨rfl, rfl, rfl⟩ := H
 go_enter Tryd.func119, Tryd.ntmps119
 go_wp2_with (first | ((with_reducible refine gate_dst (N := 2) rfl ?_); refine bxE 2 #[.int .i64 0, .slice none 0 0] 52 rfl ?_; intro gb526 hg w3 hbox hb; have BK526 := Aside0.mk (hbox); have GW526 := gS HB hg; have GE526 := gS HB hg; replace HB := hS HB hb; clear hb hbox hg) | ((with_reducible refine gate_callee (f := 157) rfl ?_); refine goC (N := some 9) Tryd.func157 #[.slice A0 l0.length c0] rfl ?_; (with_reducible refine (spec_DrawAreFriends.calls k _ _ l0 t527 t528 t531 t532 _ ?side1 ?side2 A2.out).mono ?_); (case side1 => exact cS (Kd.C_below HR0.out HB.out)); (case side2 => exact HC0.out); rintro e w4 ⟨v529, rfl, ho0, hb⟩; refine ⟨_, rfl, ?_⟩; have HO530 := Aside0.mk (Kd.R_lower ho0 (below_size hB)); replace BK526 := bS BK526 hb; replace HB := hS HB hb; (try clear hb ho0)) | ((with_reducible refine gate_dst (N := 4) rfl ?_); refine bxE 4 #[.int .i64 0, .slice none 0 0] 52 rfl ?_; intro gb533 hg w5 hbox hb; have BK533 := Aside0.mk (hbox); have GW533 := gS HB hg; have GE533 := gS HB hg; have NB526_533 := nL BK526 hg; have NB533_526 := nG BK526 hg; replace HO530 := rB HO530 hb; replace BK526 := bS BK526 hb; replace HB := hS HB hb; clear hb hbox hg; have hnb6 := NB533_526.out; have hnc6 := NB526_533.out; obtain ⟨hcz7_0, hcz7_1, hfz7_0, hfz7_1⟩ := cf2 BK533; obtain ⟨Ao8, co8, eo8⟩ := Kd.R_slice HO530.out; subst eo8; obtain ⟨hcz9_0, hcz9_1, hfz9_0, hfz9_1⟩ := cf2 BK526))
 refine bodyPost_ret (results_ct rfl _ _ gb526 52 #[.int .i64 t527, .slice Ao8 t528.length co8] (0, 0) _ rfl (by (with_reducible repeat (first | refine blk_drewN ?_ _ | refine blk_drew ?_ | refine blk_alloc ?_ _)); refine blk_put (cs := #[.int .i64 t527, .slice none 0 0]) ?_ 1 _ rfl; (with_reducible repeat (first | refine blk_drewN ?_ _ | refine blk_drew ?_ | refine blk_alloc ?_ _)); refine blk_put (cs := #[.int .i64 0, .slice none 0 0]) ?_ 0 _ rfl; (with_reducible repeat (first | refine blk_drewN ?_ _ | refine blk_drew ?_ | refine blk_alloc ?_ _)); refine blk_far ?_ NB526_533.out _; (with_reducible repeat (first | refine blk_drewN ?_ _ | refine blk_drew ?_ | refine blk_alloc ?_ _)); refine blk_far ?_ NB526_533.out _; (with_reducible repeat (first | refine blk_drewN ?_ _ | refine blk_drew ?_ | refine blk_alloc ?_ _)); exact BK526.out) Tryd.underlying52 rfl (by kernel_rfl)) rfl ?_
 exact ⟨_, eW, by (with_reducible repeat (first | apply Kd.R_alloc | apply Kd.R_drewN | apply Kd.R_drew)); exact Kd.R_mono (Kd.R_far (p := ⟨gb526, 1, none⟩) (Kd.R_far (p := ⟨gb526, 0, none⟩) (Kd.R_far (p := ⟨gb533, 1, none⟩) (Kd.R_far (p := ⟨gb533, 0, none⟩) (Kd.R_types (Kd.R_types HO530.out BK533.out (by decide)) BK526.out (by decide)) (fun _ hk => hk.1.2) (.int .i64 t527)) (fun _ hk => hk.1.2) (.slice Ao8 t528.length co8)) (fun _ hk => hk.2) (.int .i64 t527)) (fun _ hk => hk.2) (.slice Ao8 t528.length co8)) (fun _ hk => trivial), hB⟩

/-! ### spec_DrawThreesAt: function 50 -/
def spec_DrawThreesAt.f (k : Nat) (l0 : List Int) : Option (Int × (List (S43)) × Int) := (spec_DrawFriendsOf.f k l0).bind fun bt535 => (some (bt535.1, bt535.2.1, bt535.2.2))
theorem spec_DrawThreesAt.mono : ∀ a0 k, LeO (spec_DrawThreesAt.f k a0) (spec_DrawThreesAt.f (k + 1) a0) := by
 intro a0 k
 unfold spec_DrawThreesAt.f
 repeat' first | (with_reducible first | exact spec_DrawFriendsOf.mono .. | exact LeO.refl _ | exact LeO.none _ | refine LeO.ite ?_ ?_ | refine LeO.bind ?_ (fun _ => ?_)) | exact spec_DrawFriendsOf.mono .. | exact LeO.none _ | refine LeO.ite ?_ ?_ | refine LeO.bind ?_ (fun _ => ?_)
theorem spec_DrawThreesAt.calls (k : Nat) (A0 : Option Addr) (c0 : Nat) (l0 : List Int) (r1 : Int) (r2 : List (S43)) (r3 : Int) (w : World) (hr0 : Kd.C (Kd.int .u8) w A0 l0.length l0) (hc0 : l0.length ≤ c0) (h : spec_DrawThreesAt.f k l0 = some (r1, r2, r3)) :
  Calls Tryd.prog 50 #[.slice A0 l0.length c0] w fun e w' => ∃ v1_ : Value, e = .returned (.tuple #[.agg #[.int .i64 r1, v1_], .int .i64 r3]) ∧ Kd.R k43 43 w' w.heap.size (fun _ => True) v1_ r2 ∧ Below w.heap.size w w' := by
 have hu52 := Tryd.underlying52
 have HR0 := Aside0.mk hr0
 have HC0 := Aside0.mk hc0
 clear hr0 hc0
 have HB := Aside0.mk (Below.refl w.heap.size w)
 have H : ((spec_DrawFriendsOf.f k l0).bind fun bt535 => (some (bt535.1, bt535.2.1, bt535.2.2))) = some (r1, r2, r3) := h
 clear h
 replace H := oB H; obtain ⟨⟨t535, t536, t539⟩, A2, H⟩ := H
 try dsimp only at H
 simp only [Option.some.injEq, Prod.mk.injEq] at H
 obtain ⟨rfl, rfl, rfl⟩ := H
 go_enter Tryd.func50, Tryd.ntmps50
 go_wp2_with (first | ((with_reducible refine gate_dst (N := 2) rfl ?_); refine bxE 2 #[.int .i64 0, .slice none 0 0] 52 rfl ?_; intro gb534 hg w3 hbox hb; have BK534 := Aside0.mk (hbox); have GW534 := gS HB hg; have GE534 := gS HB hg; replace HB := hS HB hb; clear hb hbox hg) | ((with_reducible refine gate_callee (f := 119) rfl ?_); refine goC (N := some 5) Tryd.func119 #[.slice A0 l0.length c0] rfl ?_; (with_reducible refine (spec_DrawFriendsOf.calls k _ _ l0 t535 t536 t539 _ ?side1 ?side2 A2.out).mono ?_); (case side1 => exact cS (Kd.C_below HR0.out HB.out)); (case side2 => exact HC0.out); rintro e w4 ⟨v537, rfl, ho0, hb⟩; refine ⟨_, rfl, ?_⟩; have HO538 := Aside0.mk (Kd.R_lower ho0 (below_size hB)); replace BK534 := bS BK534 hb; replace HB := hS HB hb; (try clear hb ho0); obtain ⟨hcz5_0, hcz5_1, hfz5_0, hfz5_1⟩ := cf2 BK534; obtain ⟨Ao6, co6, eo6⟩ := Kd.R_slice HO538.out; subst eo6))
 refine bodyPost_ret (results_ct rfl _ _ gb534 52 #[.int .i64 t535, .slice Ao6 t536.length co6] (0, 0) _ rfl (by (with_reducible repeat (first | refine blk_drewN ?_ _ | refine blk_drew ?_ | refine blk_alloc ?_ _)); refine blk_put (cs := #[.int .i64 t535, .slice none 0 0]) ?_ 1 _ rfl; (with_reducible repeat (first | refine blk_drewN ?_ _ | refine blk_drew ?_ | refine blk_alloc ?_ _)); refine blk_put (cs := #[.int .i64 0, .slice none 0 0]) ?_ 0 _ rfl; (with_reducible repeat (first | refine blk_drewN ?_ _ | refine blk_drew ?_ | refine blk_alloc ?_ _)); exact BK534.out) Tryd.underlying52 rfl (by kernel_rfl)) rfl ?_
 exact ⟨_, eW, by (with_reducible repeat (first | apply Kd.R_alloc | apply Kd.R_drewN | apply Kd.R_drew)); exact Kd.R_mono (Kd.R_far (p := ⟨gb534, 1, none⟩) (Kd.R_far (p := ⟨gb534, 0, none⟩) (Kd.R_types HO538.out BK534.out (by decide)) (fun _ hk => hk.2) (.int .i64 t535)) (fun _ hk => hk.2) (.slice Ao6 t536.length co6)) (fun _ hk => trivial), hB⟩

/-! ### spec_l1Has: function 95 -/
def spec_l1Has.l0 : Nat → Int → List Int → Int → Int → Option (Bool)
 | 0, _, _, _, _ => none
 | k + 1, x1, x7, x8, x9 => if x9 < x8 then (if 0 ≤ x9 then (if x9 < (x7.length : Int) then (if (rd x7 x9) = x1 then (some true) else (spec_l1Has.l0 k x1 x7 x8 (wrap64 (x9 + 1)))) else (none)) else (none)) else (some false)
def spec_l1Has.f (k : Nat) (l0 : List Int) (a1 : Int) : Option (Bool) := spec_l1Has.l0 k a1 l0 (l0.length : Int) 0
theorem spec_l1Has.mono_l : ∀ k, (∀ y0 y1 y2 y3, LeO (spec_l1Has.l0 k y0 y1 y2 y3) (spec_l1Has.l0 (k + 1) y0 y1 y2 y3))
 | 0 => fun _ _ _ _ r h => by simp [spec_l1Has.l0] at h
 | k + 1 => by
  have ih0 := spec_l1Has.mono_l k
  ·intro y0 y1 y2 y3
   unfold spec_l1Has.l0
   repeat' first | (with_reducible first | exact ih0 .. | exact LeO.refl _ | exact LeO.none _ | refine LeO.ite ?_ ?_ | refine LeO.bind ?_ (fun _ => ?_)) | exact ih0 .. | exact LeO.none _ | refine LeO.ite ?_ ?_ | refine LeO.bind ?_ (fun _ => ?_)
theorem spec_l1Has.mono : ∀ a0 a1 k, LeO (spec_l1Has.f k a0 a1) (spec_l1Has.f (k + 1) a0 a1) := by
 intro a0 a1 k
 have ih0 := spec_l1Has.mono_l k
 unfold spec_l1Has.f
 repeat' first | (with_reducible first | exact ih0 .. | exact LeO.refl _ | exact LeO.none _ | refine LeO.ite ?_ ?_ | refine LeO.bind ?_ (fun _ => ?_)) | exact ih0 .. | exact LeO.none _ | refine LeO.ite ?_ ?_ | refine LeO.bind ?_ (fun _ => ?_)
theorem spec_l1Has.calls (k : Nat) (A0 : Option Addr) (c0 : Nat) (l0 : List Int) (a1 : Int) (r : Bool) (w : World) (hr0 : Kd.C (Kd.int .i64) w A0 l0.length l0) (hc0 : l0.length ≤ c0) (h : spec_l1Has.f k l0 a1 = some r) :
  Calls Tryd.prog 95 #[.slice A0 l0.length c0, .int .i64 a1] w fun e w' => e = .returned (.bool r) ∧ Drawn0 w w' := by
 have HR0 := Aside0.mk hr0
 have HC0 := Aside0.mk hc0
 clear hr0 hc0
 have H : (spec_l1Has.l0 k a1 l0 (l0.length : Int) 0) = some r := h
 clear h
 have H' := Aside0.mk H
 clear H
 go_enter Tryd.func95, Tryd.ntmps95
 go_wp2
 go_loopg [9] k (fun kq v9 w' => ∃ (x9_1 : Int), v9 = .int .i64 x9_1 ∧ Aside0 (spec_l1Has.l0 kq a1 l0 (l0.length : Int) x9_1 = some r) ∧ Aside0 (kq ≤ k) ∧ Drawn0 w w')
 case atStart => exact ⟨(0), sR, H', ⟨Nat.le_refl _⟩, by repeat (first | exact Drawn0.refl _ | apply Drawn0.step)⟩
 case round =>
  clear H'
  obtain ⟨x9_1, rfl, HA, HK1, ⟨m1, rfl⟩⟩ := hrel
  cases gk with
  | zero => exact absurd HA.out (by simp [spec_l1Has.l0])
  | succ k1 =>
   have H := HA.out
   clear HA
   simp only [spec_l1Has.l0] at H
   by_cases c3 : x9_1 < (l0.length : Int)
   ·rw [if_pos c3] at H
    have c3b0 := decide_eq_true c3
    clear c3
    replace H := ifD H; obtain ⟨c4b0, H⟩ := H
    replace H := ifD H; obtain ⟨c5b0, H⟩ := H
    by_cases c6 : (rd l0 x9_1) = a1
    ·rw [if_pos c6] at H
     have c6b0 : ((rd l0 x9_1) == a1) = true := beq_iff_eq.mpr c6
     have c6b1 : ((rd l0 x9_1) != a1) = false := bne_eq_false_iff_eq.mpr c6
     clear c6
     obtain rfl := Option.some.inj H
     have p540 : 0 ≤ (x9_1 : Int) := of_decide_eq_true (by first | (with_reducible assumption) | assumption)
     have q540 : x9_1 < (l0.length : Int) := of_decide_eq_true (by first | (with_reducible assumption) | assumption)
     obtain ⟨ad540, e540, hx540_0⟩ := Kd.at_int HR0.out x9_1 p540 q540
     cases e540
     replace p540 := eq_true p540
     replace q540 := eq_true q540
     go_wp2
     go_ret
     exact ⟨by first | rfl | (simp; done) | (simp [*]; done), by repeat (first | exact Drawn0.refl _ | apply Drawn0.step)⟩
    ·rw [if_neg c6] at H
     have c6b0 : ((rd l0 x9_1) == a1) = false := beq_eq_false_iff_ne.mpr c6
     have c6b1 : ((rd l0 x9_1) != a1) = true := bne_iff_ne.mpr c6
     have H' := Aside0.mk H
     clear H
     have p540 : 0 ≤ (x9_1 : Int) := of_decide_eq_true (by first | (with_reducible assumption) | assumption)
     have q540 : x9_1 < (l0.length : Int) := of_decide_eq_true (by first | (with_reducible assumption) | assumption)
     obtain ⟨ad540, e540, hx540_0⟩ := Kd.at_int HR0.out x9_1 p540 q540
     cases e540
     replace p540 := eq_true p540
     replace q540 := eq_true q540
     go_wp2
     go_roundg k1
     case measure => have := HK1.out; omega
     case rel => exact ⟨(wrap64 (x9_1 + 1)), sR, H', ⟨by have := HK1.out; omega⟩, by repeat (first | exact Drawn0.refl _ | apply Drawn0.step)⟩
   ·rw [if_neg c3] at H
    have c3b0 := decide_eq_false c3
    clear c3
    obtain rfl := Option.some.inj H
    go_wp2
    go_ret
    exact ⟨by first | rfl | (simp; done) | (simp [*]; done), by repeat (first | exact Drawn0.refl _ | apply Drawn0.step)⟩

/-! ### spec_paHas: function 120 -/
def spec_paHas.f (a0_0 : Int) (l0_1 : List (S43)) (a1 : Int) : Option (Bool) := (spec_l1In.f a1 0 (wrap64 (a0_0 - 1))).bind fun t542 => (some t542)
theorem spec_paHas.calls (a0_0 : Int) (A0_1 : Option Addr) (c0_1 : Nat) (l0_1 : List (S43)) (a1 : Int) (r : Bool) (w : World) (hr0_1 : Kd.C k43 w A0_1 l0_1.length l0_1) (hc0_1 : l0_1.length ≤ c0_1) (h : spec_paHas.f a0_0 l0_1 a1 = some r) :
  Calls Tryd.prog 120 #[.agg #[.int .i64 a0_0, .slice A0_1 l0_1.length c0_1], .int .i64 a1] w fun e w' => e = .returned (.bool r) ∧ Below w.heap.size w w' := by
 have hu52 := Tryd.underlying52
 have HR0_1 := Aside0.mk hr0_1
 have HC0_1 := Aside0.mk hc0_1
 clear hr0_1 hc0_1
 have HB := Aside0.mk (Below.refl w.heap.size w)
 have H : ((spec_l1In.f a1 0 (wrap64 (a0_0 - 1))).bind fun t542 => (some t542)) = some r := h
 clear h
 replace H := Option.bind_eq_some_iff.mp H
 obtain ⟨t542, A30, H⟩ := H
 replace H : (some t542) = some r := H
 have A3 := Aside0.mk A30
 clear A30
 obtain rfl := Option.some.inj H
 go_enter Tryd.func120, Tryd.ntmps120
 go_wp2_with (first | ((with_reducible refine gate_dst (N := 2) rfl ?_); refine bxE 2 #[.int .i64 a0_0, .slice A0_1 l0_1.length c0_1] 52 rfl ?_; intro gb541 hg w4 hbox hb; have BK541 := Aside0.mk (hbox); have GW541 := gS HB hg; have GE541 := gS HB hg; replace HB := hS HB hb; clear hb hbox hg; obtain ⟨hcz5_0, hcz5_1, hfz5_0, hfz5_1⟩ := cf2 BK541) | ((with_reducible refine gate_callee (f := 87) rfl ?_); refine goC (N := some 9) Tryd.func87 #[.int .i64 a1, .int .i64 0, .int .i64 (wrap64 (a0_0 - 1))] rfl ?_; (with_reducible refine (spec_l1In.calls a1 0 (wrap64 (a0_0 - 1)) t542 _ A3.out).mono ?_); rintro e w' ⟨rfl, ⟨nd, rfl⟩⟩; refine ⟨_, rfl, ?_⟩))
 go_ret
 exact ⟨eW, hB⟩

/-! ### spec_ThreesAt: function 51 -/
mutual
def spec_ThreesAt.j0 : Nat → Int → Bool → Int → List (S43) → Option (Int × Bool)
 | 0, _, _, _, _ => none
 | k + 1, x1, x17, x544000, x544001 => if x17 = true then (some (0, false)) else ((spec_paTable.f k x544000 x544001).bind fun t546 => ((spec_trGroups.f k t546 ([] : List Int) 3).bind fun t549 => (spec_ThreesAt.l0 k x1 0 t549 (t549.length : Int) 0)))
def spec_ThreesAt.l0 : Nat → Int → Int → List (List Int) → Int → Int → Option (Int × Bool)
 | 0, _, _, _, _, _ => none
 | k + 1, x1, x6, x20, x21, x22 => if x22 < x21 then (if 0 ≤ x22 then (if x22 < (x20.length : Int) then ((spec_l1Has.f k (rd_L2 x20 x22) x1).bind fun t553 => (if t553 = true then (spec_ThreesAt.l0 k x1 (wrap64 (x6 + 1)) x20 x21 (wrap64 (x22 + 1))) else (spec_ThreesAt.l0 k x1 x6 x20 x21 (wrap64 (x22 + 1))))) else (none)) else (none)) else (some (x6, true))
end
def spec_ThreesAt.f (k : Nat) (a0_0 : Int) (l0_1 : List (S43)) (a1 : Int) : Option (Int × Bool) := (spec_paGood.f k a0_0 l0_1).bind fun t544 => (if t544 = true then ((spec_paHas.f a0_0 l0_1 a1).bind fun t545 => (spec_ThreesAt.j0 k a1 (!t545) a0_0 l0_1)) else (spec_ThreesAt.j0 k a1 true a0_0 l0_1))
theorem spec_ThreesAt.mono_l : ∀ k, (∀ y0 y1 y2 y3, LeO (spec_ThreesAt.j0 k y0 y1 y2 y3) (spec_ThreesAt.j0 (k + 1) y0 y1 y2 y3)) ∧ (∀ y0 y1 y2 y3 y4, LeO (spec_ThreesAt.l0 k y0 y1 y2 y3 y4) (spec_ThreesAt.l0 (k + 1) y0 y1 y2 y3 y4))
 | 0 => ⟨fun _ _ _ _ r h => by simp [spec_ThreesAt.j0] at h, fun _ _ _ _ _ r h => by simp [spec_ThreesAt.l0] at h⟩
 | k + 1 => by
  obtain ⟨ih0, ih1⟩ := spec_ThreesAt.mono_l k
  refine ⟨?_, ?_⟩ <;> intros <;> (first | unfold spec_ThreesAt.j0 | unfold spec_ThreesAt.l0)
  all_goals (repeat' first | (with_reducible first | exact ih0 .. | exact ih1 .. | exact spec_l1Has.mono .. | exact spec_paGood.mono .. | exact spec_paTable.mono .. | exact spec_trGroups.mono .. | exact LeO.refl _ | exact LeO.none _ | refine LeO.ite ?_ ?_ | refine LeO.bind ?_ (fun _ => ?_)) | exact ih0 .. | exact ih1 .. | exact spec_l1Has.mono .. | exact spec_paGood.mono .. | exact spec_paTable.mono .. | exact spec_trGroups.mono .. | exact LeO.none _ | refine LeO.ite ?_ ?_ | refine LeO.bind ?_ (fun _ => ?_))
theorem spec_ThreesAt.mono : ∀ a0 a1 a2 k, LeO (spec_ThreesAt.f k a0 a1 a2) (spec_ThreesAt.f (k + 1) a0 a1 a2) := by
 intro a0 a1 a2 k
 obtain ⟨ih0, ih1⟩ := spec_ThreesAt.mono_l k
 unfold spec_ThreesAt.f
 repeat' first | (with_reducible first | exact ih0 .. | exact ih1 .. | exact spec_l1Has.mono .. | exact spec_paGood.mono .. | exact spec_paTable.mono .. | exact spec_trGroups.mono .. | exact LeO.refl _ | exact LeO.none _ | refine LeO.ite ?_ ?_ | refine LeO.bind ?_ (fun _ => ?_)) | exact ih0 .. | exact ih1 .. | exact spec_l1Has.mono .. | exact spec_paGood.mono .. | exact spec_paTable.mono .. | exact spec_trGroups.mono .. | exact LeO.none _ | refine LeO.ite ?_ ?_ | refine LeO.bind ?_ (fun _ => ?_)
theorem spec_ThreesAt.calls (k : Nat) (a0_0 : Int) (A0_1 : Option Addr) (c0_1 : Nat) (l0_1 : List (S43)) (a1 : Int) (r1 : Int) (r2 : Bool) (w : World) (hr0_1 : Kd.C k43 w A0_1 l0_1.length l0_1) (hc0_1 : l0_1.length ≤ c0_1) (h : spec_ThreesAt.f k a0_0 l0_1 a1 = some (r1, r2)) :
  Calls Tryd.prog 51 #[.agg #[.int .i64 a0_0, .slice A0_1 l0_1.length c0_1], .int .i64 a1] w fun e w' => e = .returned (.tuple #[.int .i64 r1, .bool r2]) ∧ Below w.heap.size w w' := by
 have hu52 := Tryd.underlying52
 have HR0_1 := Aside0.mk hr0_1
 have HC0_1 := Aside0.mk hc0_1
 clear hr0_1 hc0_1
 have HB := Aside0.mk (Below.refl w.heap.size w)
 have H : ((spec_paGood.f k a0_0 l0_1).bind fun t544 => (if t544 = true then ((spec_paHas.f a0_0 l0_1 a1).bind fun t545 => (spec_ThreesAt.j0 k a1 (!t545) a0_0 l0_1)) else (spec_ThreesAt.j0 k a1 true a0_0 l0_1))) = some (r1, r2) := h
 clear h
 have HC3 := Aside0.mk H
 clear H
 go_enter Tryd.func51, Tryd.ntmps51
 go_upto_region 1 with (first | ((with_reducible refine gate_dst (N := 2) rfl ?_); refine bxE 2 #[.int .i64 a0_0, .slice A0_1 l0_1.length c0_1] 52 rfl ?_; intro gb543 hg w4 hbox hb; have BK543 := Aside0.mk (hbox); have GW543 := gS HB hg; have GE543 := gS HB hg; replace HB := hS HB hb; clear hb hbox hg))
 (try simp only [Act.put, List.setIfInBounds_toArray, List.set_cons_zero, List.set_cons_succ])
 go_cut [17] (fun v17 wc => ∃ (kq : Nat) (x17_2 : Bool), v17 = .bool x17_2 ∧ Aside0 (spec_ThreesAt.j0 kq a1 x17_2 a0_0 l0_1 = some (r1, r2)) ∧ Aside0 (kq ≤ k) ∧ Aside0 (wc.heap[gb543]? = some (.cells #[.int .i64 a0_0, (.slice A0_1 l0_1.length c0_1)] 52 (0, 0))) ∧ Aside0 (Below w.heap.size w wc))
 case first =>
  have H := HC3.out
  clear HC3
  replace H := oB H; obtain ⟨t544, A5, H⟩ := H
  by_cases c6 : t544 = true
  ·subst c6
   rw [if_pos rfl] at H
   replace H := oB H; obtain ⟨t545, A7, H⟩ := H
   have H' := Aside0.mk H
   clear H
   obtain ⟨hcz8_0, hcz8_1, hfz8_0, hfz8_1⟩ := cf2 BK543
   go_wp2_with (first | ((with_reducible refine gate_callee (f := 102) rfl ?_); refine goC (N := some 10) Tryd.func102 #[.agg #[.int .i64 a0_0, .slice A0_1 l0_1.length c0_1]] rfl ?_; (with_reducible refine (spec_paGood.calls k a0_0 _ _ l0_1 true _ ?side1 ?side2 A5.out).mono ?_); (case side1 => exact cS (Kd.C_below HR0_1.out HB.out)); (case side2 => exact HC0_1.out); rintro e w9 ⟨rfl, hb⟩; refine ⟨_, rfl, ?_⟩; replace BK543 := bS BK543 hb; replace HB := hS HB hb; (try clear hb); obtain ⟨hcz10_0, hcz10_1, hfz10_0, hfz10_1⟩ := cf2 BK543) | (go_at_call 120; (with_reducible refine (spec_paHas.calls a0_0 _ _ l0_1 a1 t545 _ ?side1 ?side2 A7.out).mono ?_); (case side1 => exact cS (Kd.C_below HR0_1.out HB.out)); (case side2 => exact HC0_1.out); rintro e w11 ⟨rfl, hb⟩; replace BK543 := bS BK543 hb; replace HB := hS HB hb; (try clear hb)))
   go_meet
   case rel => exact ⟨_, (!t545), sR, H', ⟨by first | omega | exact Nat.le_refl _⟩, ⟨bK⟩, ⟨hB⟩⟩
  ·replace c6 := Bool.eq_false_iff.mpr c6
   subst c6
   rw [if_neg (show ¬ (false = true) by decide)] at H
   have H' := Aside0.mk H
   clear H
   obtain ⟨hcz12_0, hcz12_1, hfz12_0, hfz12_1⟩ := cf2 BK543
   go_wp2_with (first | ((with_reducible refine gate_callee (f := 102) rfl ?_); refine goC (N := some 10) Tryd.func102 #[.agg #[.int .i64 a0_0, .slice A0_1 l0_1.length c0_1]] rfl ?_; (with_reducible refine (spec_paGood.calls k a0_0 _ _ l0_1 false _ ?side1 ?side2 A5.out).mono ?_); (case side1 => exact cS (Kd.C_below HR0_1.out HB.out)); (case side2 => exact HC0_1.out); rintro e w13 ⟨rfl, hb⟩; refine ⟨_, rfl, ?_⟩; replace BK543 := bS BK543 hb; replace HB := hS HB hb; (try clear hb)))
   go_meet
   case rel => exact ⟨_, (true), sR, H', ⟨by first | omega | exact Nat.le_refl _⟩, ⟨bK⟩, ⟨hB⟩⟩
 case rest =>
  clear HC3
  (try clear c6); (try clear hcz10_0 hcz10_1 hfz10_0 hfz10_1); (try clear hcz12_0 hcz12_1 hfz12_0 hfz12_1); (try clear hcz8_0 hcz8_1 hfz8_0 hfz8_1)
  obtain ⟨kq, x17_2, rfl, HA, HJ2, BK543, HB⟩ := hcut
  cases kq with
  | zero => exact absurd HA.out (by simp [spec_ThreesAt.j0])
  | succ kj2 =>
   have H := HA.out
   clear HA
   simp only [spec_ThreesAt.j0] at H
   by_cases c14 : x17_2 = true
   ·subst c14
    replace H : (some (0, false)) = some (r1, r2) := by rw [if_pos rfl] at H; exact H
    simp only [Option.some.injEq, Prod.mk.injEq] at H
    obtain ⟨rfl, rfl⟩ := H
    go_wp2
    go_ret2
    exact ⟨eW, hB⟩
   ·replace c14 := Bool.eq_false_iff.mpr c14
    subst c14
    rw [if_neg (show ¬ (false = true) by decide)] at H
    replace H := oB H; obtain ⟨t546, A15, H⟩ := H
    replace H := oB H; obtain ⟨t549, A16, H⟩ := H
    have H' := Aside0.mk H
    clear H
    obtain ⟨hcz17_0, hcz17_1, hfz17_0, hfz17_1⟩ := cf2 BK543
    go_wp2_with (first | ((with_reducible refine gate_callee (f := 105) rfl ?_); refine goC (N := some 19) Tryd.func105 #[.agg #[.int .i64 a0_0, .slice A0_1 l0_1.length c0_1]] rfl ?_; (with_reducible refine (spec_paTable.calls kj2 a0_0 _ _ l0_1 t546 _ ?side1 ?side2 A15.out).mono ?_); (case side1 => exact cS (Kd.C_below HR0_1.out HB.out)); (case side2 => exact HC0_1.out); rintro e w18 ⟨v547, rfl, ho0, hb⟩; refine ⟨_, rfl, ?_⟩; have HO548 := Aside0.mk (Kd.N_lower (Kd.N_mono (ok' := fun k_ => k_ ≠ gb543) (Kd.S_N (Kd.S_bound ho0)) (fun k_ hk_ => (Kd.freshB (g := gb543) (o := .cells #[.int .i64 a0_0, .slice A0_1 l0_1.length c0_1] 52 (0, 0)) bK k_ hk_.2.1))) (below_size hB)); replace BK543 := bS BK543 hb; replace HB := hS HB hb; (try clear hb ho0); obtain ⟨Ao19, co19, eo19⟩ := Kd.N_slice HO548.out; subst eo19) | ((with_reducible refine gate_callee (f := 104) rfl ?_); refine goC (N := some 20) Tryd.func104 #[.slice Ao19 t546.length co19, .slice none 0 0, .int .i64 3] rfl ?_; (refine (spec_trGroups.calls kj2 _ _ t546 _ _ ([] : List Int) 3 t549 _ ?side1 ?side2 ?side3 ?side4 A16.out).mono ?_); (case side1 => exact cS (Kd.N_reads' HO548.out).2.2); (case side2 => exact (Kd.N_reads' HO548.out).2.1); (case side3 => exact Kd.C_nil _ _); (case side4 => exact Nat.le_refl _); rintro e w20 ⟨v550, rfl, ho0, hb⟩; refine ⟨_, rfl, ?_⟩; have HO551 := Aside0.mk (Kd.N_lower (Kd.N_mono (ok' := fun k_ => some k_ ≠ (.slice Ao19 t546.length co19 : Value).ownBlock ∧ k_ ≠ gb543) ho0 (fun k_ hk_ => ⟨(Kd.fresh' (Kd.N_lt (nU HO548)) k_ hk_), (Kd.freshB (g := gb543) (o := .cells #[.int .i64 a0_0, .slice A0_1 l0_1.length c0_1] 52 (0, 0)) bK k_ hk_)⟩)) (below_size hB)); replace HO548 := Aside0.mk (Kd.N_elder' (nU HO548) (by first | exact Kd.N_base ho0 | exact Kd.S_base ho0) hb); replace BK543 := bS BK543 hb; replace HB := hS HB hb; (try clear hb ho0); obtain ⟨Ao21, co21, eo21⟩ := Kd.N_slice HO551.out; subst eo21))
    go_loopg [6, 22] kj2 (fun kq v6 v22 w' => ∃ (x6_2 : Int) (x22_2 : Int), v6 = .int .i64 x6_2 ∧ v22 = .int .i64 x22_2 ∧ Aside0 (spec_ThreesAt.l0 kq a1 x6_2 t549 (t549.length : Int) x22_2 = some (r1, r2)) ∧ Aside0 (kq ≤ kj2) ∧ Aside0 (Kd.N (Kd.slice 3 (Kd.int .i64)) 32 w' w.heap.size (fun k_ => k_ ≠ gb543) (.slice Ao21 t549.length co21) t549) ∧ Aside0 (w'.heap[gb543]? = some (.cells #[.int .i64 a0_0, (.slice A0_1 l0_1.length c0_1)] 52 (0, 0))) ∧ Aside0 (Below w.heap.size w w'))
    case atStart => exact ⟨(0), (0), sR, sR, H', ⟨Nat.le_refl _⟩, ⟨by (with_reducible repeat (first | apply Kd.N_alloc | apply Kd.N_drewN | apply Kd.N_drew)); exact Kd.N_mono HO551.out (fun _ hk => hk.2)⟩, ⟨bK⟩, ⟨hB⟩⟩
    case round =>
     clear H'
     (try clear c6); (try clear c14); (try clear hcz10_0 hcz10_1 hfz10_0 hfz10_1); (try clear hcz12_0 hcz12_1 hfz12_0 hfz12_1); (try clear hcz17_0 hcz17_1 hfz17_0 hfz17_1); (try clear hcz8_0 hcz8_1 hfz8_0 hfz8_1)
     obtain ⟨x6_2, x22_2, rfl, rfl, HA, HK2, HO_20, BK543, HB⟩ := hrel
     cases gk with
     | zero => exact absurd HA.out (by simp [spec_ThreesAt.l0])
     | succ k2 =>
      have H := HA.out
      clear HA
      simp only [spec_ThreesAt.l0] at H
      by_cases c22 : x22_2 < (t549.length : Int)
      ·rw [if_pos c22] at H
       have c22b0 := decide_eq_true c22
       clear c22
       replace H := ifD H; obtain ⟨c23b0, H⟩ := H
       replace H := ifD H; obtain ⟨c24b0, H⟩ := H
       replace H := oB H; obtain ⟨t553, A25, H⟩ := H
       by_cases c26 : t553 = true
       ·subst c26
        rw [if_pos rfl] at H
        have H' := Aside0.mk H
        clear H
        have p552 : 0 ≤ (x22_2 : Int) := of_decide_eq_true (by first | (with_reducible assumption) | assumption)
        have q552 : x22_2 < (t549.length : Int) := of_decide_eq_true (by first | (with_reducible assumption) | assumption)
        obtain ⟨ad552, A552_0, c552_0, e552, hx552_0, hl552_0, hi552_0⟩ := at_L2 (Kd.N_reads' HO_20.out).2.2 x22_2 p552 q552
        cases e552
        obtain ⟨ce552, hce552, hMe552, hcc552⟩ := Kd.N_get HO_20.out [] x22_2 p552 (by first | exact q552 | exact of_decide_eq_true (by first | (with_reducible assumption) | assumption) | (have e_ := (Kd.N_reads' HO_20.out).1; omega))
        obtain ⟨ua552_0, uc552_0, rfl, ul552_0, ge552_0⟩ := Kd.FK_slice_open hMe552
        have hv552_0 := hcc552 0 _ rfl
        rw [Nat.add_zero, show ((Kd.slice 3 (Kd.int .i64))).sz = 1 from rfl, Nat.mul_one] at hv552_0
        replace hv552_0 := Option.some.inj (hv552_0.symm.trans hx552_0)
        injection hv552_0 with hva_ hvn_ hvc_
        rw [hva_] at ge552_0
        rw [hvc_] at ul552_0
        have HL552_0 := Aside0.mk (show Kd.V (Kd.int .i64) 3 _ w.heap.size _ _ (rd_L2 t549 x22_2) from Kd.V_mk ul552_0 ge552_0)
        clear hva_ hvn_ hvc_ ge552_0 ul552_0
        clear hcc552 hce552
        have HR552_0 := Aside0.mk hi552_0
        have HC552_0 := Aside0.mk hl552_0
        clear hi552_0 hl552_0
        replace p552 := eq_true p552
        replace q552 := eq_true q552
        go_wp2_with (first | ((with_reducible refine gate_callee (f := 95) rfl ?_); refine goC (N := some 28) Tryd.func95 #[.slice A552_0 (rd_L2 t549 x22_2).length c552_0, .int .i64 a1] rfl ?_; (with_reducible refine (spec_l1Has.calls k2 _ _ (rd_L2 t549 x22_2) a1 true _ ?side1 ?side2 A25.out).mono ?_); (case side1 => repeat (first | exact (by repeat (first | (with_reducible exact HR552_0.out) | (with_reducible refine Kd.C_alloc ?_ _) | (with_reducible refine Kd.C_drewN ?_ _) | (with_reducible refine Kd.C_drew ?_) | exact HR552_0.out)) | (with_reducible refine Kd.C_alloc ?_ _) | (with_reducible refine Kd.C_drewN ?_ _) | (with_reducible refine Kd.C_drew ?_))); (case side2 => exact HC552_0.out); rintro e w' ⟨rfl, ⟨nd, rfl⟩⟩; refine ⟨_, rfl, ?_⟩))
        go_roundg k2
        case measure => have := HJ2.out; have := HK2.out; omega
        case rel => exact ⟨(wrap64 (x6_2 + 1)), (wrap64 (x22_2 + 1)), sR, sR, H', ⟨by have := HJ2.out; have := HK2.out; omega⟩, ⟨nU HO_20⟩, ⟨bK⟩, ⟨hB⟩⟩
       ·replace c26 := Bool.eq_false_iff.mpr c26
        subst c26
        rw [if_neg (show ¬ (false = true) by decide)] at H
        have H' := Aside0.mk H
        clear H
        have p552 : 0 ≤ (x22_2 : Int) := of_decide_eq_true (by first | (with_reducible assumption) | assumption)
        have q552 : x22_2 < (t549.length : Int) := of_decide_eq_true (by first | (with_reducible assumption) | assumption)
        obtain ⟨ad552, A552_0, c552_0, e552, hx552_0, hl552_0, hi552_0⟩ := at_L2 (Kd.N_reads' HO_20.out).2.2 x22_2 p552 q552
        cases e552
        obtain ⟨ce552, hce552, hMe552, hcc552⟩ := Kd.N_get HO_20.out [] x22_2 p552 (by first | exact q552 | exact of_decide_eq_true (by first | (with_reducible assumption) | assumption) | (have e_ := (Kd.N_reads' HO_20.out).1; omega))
        obtain ⟨ua552_0, uc552_0, rfl, ul552_0, ge552_0⟩ := Kd.FK_slice_open hMe552
        have hv552_0 := hcc552 0 _ rfl
        rw [Nat.add_zero, show ((Kd.slice 3 (Kd.int .i64))).sz = 1 from rfl, Nat.mul_one] at hv552_0
        replace hv552_0 := Option.some.inj (hv552_0.symm.trans hx552_0)
        injection hv552_0 with hva_ hvn_ hvc_
        rw [hva_] at ge552_0
        rw [hvc_] at ul552_0
        have HL552_0 := Aside0.mk (show Kd.V (Kd.int .i64) 3 _ w.heap.size _ _ (rd_L2 t549 x22_2) from Kd.V_mk ul552_0 ge552_0)
        clear hva_ hvn_ hvc_ ge552_0 ul552_0
        clear hcc552 hce552
        have HR552_0 := Aside0.mk hi552_0
        have HC552_0 := Aside0.mk hl552_0
        clear hi552_0 hl552_0
        replace p552 := eq_true p552
        replace q552 := eq_true q552
        go_wp2_with (first | ((with_reducible refine gate_callee (f := 95) rfl ?_); refine goC (N := some 28) Tryd.func95 #[.slice A552_0 (rd_L2 t549 x22_2).length c552_0, .int .i64 a1] rfl ?_; (with_reducible refine (spec_l1Has.calls k2 _ _ (rd_L2 t549 x22_2) a1 false _ ?side1 ?side2 A25.out).mono ?_); (case side1 => repeat (first | exact (by repeat (first | (with_reducible exact HR552_0.out) | (with_reducible refine Kd.C_alloc ?_ _) | (with_reducible refine Kd.C_drewN ?_ _) | (with_reducible refine Kd.C_drew ?_) | exact HR552_0.out)) | (with_reducible refine Kd.C_alloc ?_ _) | (with_reducible refine Kd.C_drewN ?_ _) | (with_reducible refine Kd.C_drew ?_))); (case side2 => exact HC552_0.out); rintro e w' ⟨rfl, ⟨nd, rfl⟩⟩; refine ⟨_, rfl, ?_⟩))
        go_roundg k2
        case measure => have := HJ2.out; have := HK2.out; omega
        case rel => exact ⟨(x6_2), (wrap64 (x22_2 + 1)), sR, sR, H', ⟨by have := HJ2.out; have := HK2.out; omega⟩, ⟨nU HO_20⟩, ⟨bK⟩, ⟨hB⟩⟩
      ·rw [if_neg c22] at H
       have c22b0 := decide_eq_false c22
       clear c22
       simp only [Option.some.injEq, Prod.mk.injEq] at H
       obtain ⟨rfl, rfl⟩ := H
       go_wp2
       go_ret2
       exact ⟨eW, hB⟩

/-! ### spec_DrawLeastOneKind: function 52 -/
def spec_DrawLeastOneKind.f (l0 : List Int) : Option (Int) := (spec_l1Cur_among.f l0 0 0 (([0, 1, 2, 3, 4, 5, 6, 7, 8, 9, 11, 12, 13, (-1)] : List Int))).bind fun bt558 => (some bt558.1)
theorem spec_DrawLeastOneKind.calls (A0 : Option Addr) (c0 : Nat) (l0 : List Int) (r : Int) (w : World) (hr0 : Kd.C (Kd.int .u8) w A0 l0.length l0) (hc0 : l0.length ≤ c0) (h : spec_DrawLeastOneKind.f l0 = some r) :
  Calls Tryd.prog 52 #[.slice A0 l0.length c0] w fun e w' => e = .returned (.int .i64 r) ∧ Below w.heap.size w w' := by
 have hu89 := Tryd.underlying89
 have HR0 := Aside0.mk hr0
 have HC0 := Aside0.mk hc0
 clear hr0 hc0
 have HB := Aside0.mk (Below.refl w.heap.size w)
 have H : ((spec_l1Cur_among.f l0 0 0 (([0, 1, 2, 3, 4, 5, 6, 7, 8, 9, 11, 12, 13, (-1)] : List Int))).bind fun bt558 => (some bt558.1)) = some r := h
 clear h
 obtain ⟨y555, hy555⟩ : ∃ y_ : List Int, y_ = (([0, 1, 2, 3, 4, 5, 6, 7, 8, 9, 11, 12, 13, (-1)] : List Int)) := ⟨_, rfl⟩
 replace H : ((spec_l1Cur_among.f l0 0 0 y555).bind fun bt558 => (some bt558.1)) = some r := by first | (rw [hy555]; with_reducible exact H) | (have H2_ := (Option.bind_some _ _).symm.trans H; rw [hy555]; with_reducible exact H2_) | (have H2_ := (Option.bind_some _ _).symm.trans H; with_reducible exact H2_) | with_reducible exact H | (rw [hy555]; exact H) | exact H
 have Ny555 := Aside0.mk hy555
 clear hy555
 replace H := Option.bind_eq_some_iff.mp H
 obtain ⟨⟨t558, t559, t560⟩, A20, H⟩ := H
 replace H : (some t558) = some r := H
 have A2 := Aside0.mk A20
 clear A20
 obtain rfl := Option.some.inj H
 go_enter Tryd.func52, Tryd.ntmps52
 go_wp2_with (first | ((with_reducible refine gate_dst (N := 6) rfl ?_); refine bxE 6 #[.slice A0 l0.length c0, .int .i64 0, .int .u64 0] 89 rfl ?_; intro gb554 hg w3 hbox hb; have BK554 := Aside0.mk (hbox); have GW554 := gS HB hg; have GE554 := gS HB hg; have HI554 := Aside0.mk ((⟨_, _, hbox, (by rw [hg]; exact (below_size hB)), by first | exact HR0.out | exact hr0 | assumption⟩ : IsS89 w w3 gb554 l0 0 0)); replace HB := hS HB hb; clear hb hbox hg) | ((with_reducible refine gate_dst (N := 8) rfl ?_); refine Kd.R_lit (Kd.int .i64) _ 3 ?hg (N := 8) ?hd (xs := ([0, 1, 2, 3, 4, 5, 6, 7, 8, 9, 11, 12, 13, (-1)] : List Int)) (inner := [.int .i64 0, .int .i64 1, .int .i64 2, .int .i64 3, .int .i64 4, .int .i64 5, .int .i64 6, .int .i64 7, .int .i64 8, .int .i64 9, .int .i64 11, .int .i64 12, .int .i64 13, .int .i64 (-1)]) (ok := fun _ => True) (okp := fun _ => True) ?hr ?hp (fun _ hk => hk) trivial (Below.refl _ _) (Nat.le_refl _) (by simp) ?_; (case hd => rfl); (case hg => rfl); (case hr => first | (go_simp; done) | (go_simp; rfl)); (case hp => exact (Reps.one (show Kd.M (Kd.int .i64) _ _ _ 0 [.int .i64 0] from rfl) (Reps.one (show Kd.M (Kd.int .i64) _ _ _ 1 [.int .i64 1] from rfl) (Reps.one (show Kd.M (Kd.int .i64) _ _ _ 2 [.int .i64 2] from rfl) (Reps.one (show Kd.M (Kd.int .i64) _ _ _ 3 [.int .i64 3] from rfl) (Reps.one (show Kd.M (Kd.int .i64) _ _ _ 4 [.int .i64 4] from rfl) (Reps.one (show Kd.M (Kd.int .i64) _ _ _ 5 [.int .i64 5] from rfl) (Reps.one (show Kd.M (Kd.int .i64) _ _ _ 6 [.int .i64 6] from rfl) (Reps.one (show Kd.M (Kd.int .i64) _ _ _ 7 [.int .i64 7] from rfl) (Reps.one (show Kd.M (Kd.int .i64) _ _ _ 8 [.int .i64 8] from rfl) (Reps.one (show Kd.M (Kd.int .i64) _ _ _ 9 [.int .i64 9] from rfl) (Reps.one (show Kd.M (Kd.int .i64) _ _ _ 11 [.int .i64 11] from rfl) (Reps.one (show Kd.M (Kd.int .i64) _ _ _ 12 [.int .i64 12] from rfl) (Reps.one (show Kd.M (Kd.int .i64) _ _ _ 13 [.int .i64 13] from rfl) (Reps.one (show Kd.M (Kd.int .i64) _ _ _ (-1) [.int .i64 (-1)] from rfl) (Reps.none _ _)))))))))))))))); intro v556 w4 ho5 hb hg_ hnew_; clear hg_ hnew_; (first | rw [← Ny555.out] at ho5 | (simp only [Int.reduceToNat] at ho5; rw [← Ny555.out] at ho5)); have HO557 := Aside0.mk (Kd.R_lower ho5 (below_size (by repeat (first | (with_reducible first | exact HB.out | apply below_alloc | apply pw_below_drewN | apply below_drew1 | refine below_set ?_ (IsS89.ge HI554.out)) | exact HB.out)))); replace HB := Aside0.mk (below_step (by repeat (first | (with_reducible first | exact HB.out | apply below_alloc | apply pw_below_drewN | apply below_drew1 | refine below_set ?_ (IsS89.ge HI554.out)) | exact HB.out)) hb); replace HI554 := Aside0.mk (IsS89.below (by repeat (first | (with_reducible first | exact HI554.out | apply IsS89.alloc | apply IsS89.drewN | apply IsS89.drew | apply IsS89.set_1 | apply IsS89.set_2) | exact HI554.out)) hb); clear hb ho5; obtain ⟨Ao6, co6, eo6⟩ := Kd.R_slice HO557.out; subst eo6) | ((with_reducible refine gate_callee (f := 90) rfl ?_); refine goC (N := some 9) Tryd.func90 #[.pointer (some ⟨gb554, 0, none⟩), .slice Ao6 y555.length co6] rfl ?_; (with_reducible refine (spec_l1Cur_among.calls gb554 l0 0 0 _ _ y555 t558 t559 t560 w _ ?side1 ?side2 ?side3 ?side4 ?side5 A2.out).mono ?_); (case side1 => repeat (first | (with_reducible first | exact HI554.out | apply IsS89.alloc | apply IsS89.drewN | apply IsS89.drew | apply IsS89.set_1 | apply IsS89.set_2) | exact HI554.out)); (case side2 => repeat (first | (with_reducible first | exact HB.out | apply below_alloc | apply pw_below_drewN | apply below_drew1 | refine below_set ?_ (IsS89.ge HI554.out)) | exact HB.out)); (case side3 => exact cS (Kd.R_reads' HO557.out).2.2); (case side4 => exact (Kd.R_reads' HO557.out).2.1); (case side5 => exact far_slice (IsS89.own_ne HI554.out HO557.out (by decide))); rintro e w7 ⟨rfl, hi, hb, hk⟩; refine ⟨_, rfl, ?_⟩; replace HO557 := Aside0.mk (Kd.R_mono (Kd.R_keep (IsS89.apart (show IsS89 w _ gb554 l0 0 0 from by repeat (first | (with_reducible first | exact HI554.out | apply IsS89.alloc | apply IsS89.drewN | apply IsS89.drew | apply IsS89.set_1 | apply IsS89.set_2) | exact HI554.out)) (rU HO557) (by decide)) hk (fun _ h => h.2)) (fun _ h => h.1)); replace HI554 := Aside0.mk (hi); replace HB := Aside0.mk (hb); (try clear hb)))
 go_ret
 exact ⟨eW, by repeat (first | (with_reducible first | exact HB.out | apply below_alloc | apply pw_below_drewN | apply below_drew1 | refine below_set ?_ (IsS89.ge HI554.out)) | exact HB.out)⟩

/-! ### spec_LeastOneKind: function 53 -/
def spec_LeastOneKind.f (k : Nat) (a0 : Int) : Option (Int × Bool) := (spec_paPeople.f a0).bind fun t561 => (if t561 = true then (if a0 = 0 then (some (0, true)) else (if (Int.tmod a0 4) = 3 then ((spec_trChoose.f k a0 3).bind fun t562 => (some (wrap64 (t562 - (wrap64 (Int.tdiv (wrap64 ((wrap64 ((wrap64 (a0 * (wrap64 (Int.tdiv (wrap64 (a0 - 1)) 2)))) * (wrap64 ((wrap64 (a0 - 1)) - (wrap64 (Int.tdiv (wrap64 (a0 - 1)) 2)))))) - 1)) 2))), true))) else ((spec_trChoose.f k a0 3).bind fun t563 => (some (wrap64 (t563 - (wrap64 (Int.tdiv (wrap64 ((wrap64 (a0 * (wrap64 (Int.tdiv (wrap64 (a0 - 1)) 2)))) * (wrap64 ((wrap64 (a0 - 1)) - (wrap64 (Int.tdiv (wrap64 (a0 - 1)) 2)))))) 2))), true))))) else (some (0, false)))
theorem spec_LeastOneKind.mono : ∀ a0 k, LeO (spec_LeastOneKind.f k a0) (spec_LeastOneKind.f (k + 1) a0) := by
 intro a0 k
 unfold spec_LeastOneKind.f
 repeat' first | (with_reducible first | exact spec_trChoose.mono .. | exact LeO.refl _ | exact LeO.none _ | refine LeO.ite ?_ ?_ | refine LeO.bind ?_ (fun _ => ?_)) | exact spec_trChoose.mono .. | exact LeO.none _ | refine LeO.ite ?_ ?_ | refine LeO.bind ?_ (fun _ => ?_)
theorem spec_LeastOneKind.calls (k : Nat) (a0 : Int) (r1 : Int) (r2 : Bool) (w : World) (h : spec_LeastOneKind.f k a0 = some (r1, r2)) :
  Calls Tryd.prog 53 #[.int .i64 a0] w fun e w' => e = .returned (.tuple #[.int .i64 r1, .bool r2]) ∧ Drawn0 w w' := by
 have H : ((spec_paPeople.f a0).bind fun t561 => (if t561 = true then (if a0 = 0 then (some (0, true)) else (if (Int.tmod a0 4) = 3 then ((spec_trChoose.f k a0 3).bind fun t562 => (some (wrap64 (t562 - (wrap64 (Int.tdiv (wrap64 ((wrap64 ((wrap64 (a0 * (wrap64 (Int.tdiv (wrap64 (a0 - 1)) 2)))) * (wrap64 ((wrap64 (a0 - 1)) - (wrap64 (Int.tdiv (wrap64 (a0 - 1)) 2)))))) - 1)) 2))), true))) else ((spec_trChoose.f k a0 3).bind fun t563 => (some (wrap64 (t563 - (wrap64 (Int.tdiv (wrap64 ((wrap64 (a0 * (wrap64 (Int.tdiv (wrap64 (a0 - 1)) 2)))) * (wrap64 ((wrap64 (a0 - 1)) - (wrap64 (Int.tdiv (wrap64 (a0 - 1)) 2)))))) 2))), true))))) else (some (0, false)))) = some (r1, r2) := h
 clear h
 replace H := oB H; obtain ⟨t561, A2, H⟩ := H
 by_cases c3 : t561 = true
 ·subst c3
  rw [if_pos rfl] at H
  by_cases c4 : a0 = 0
  ·rw [if_pos c4] at H
   have c4b0 : (a0 == 0) = true := beq_iff_eq.mpr c4
   have c4b1 : (a0 != 0) = false := bne_eq_false_iff_eq.mpr c4
   clear c4
   simp only [Option.some.injEq, Prod.mk.injEq] at H
   obtain ⟨rfl, rfl⟩ := H
   go_enter Tryd.func53, Tryd.ntmps53
   go_wp2_with (first | ((with_reducible refine gate_callee (f := 121) rfl ?_); refine goC (N := some 7) Tryd.func121 #[.int .i64 a0] rfl ?_; (with_reducible refine (spec_paPeople.calls a0 true _ A2.out).mono ?_); rintro e w' ⟨rfl, ⟨nd, rfl⟩⟩; refine ⟨_, rfl, ?_⟩))
   go_ret2
   exact ⟨by first | rfl | (simp; done) | (simp [*]; done), by repeat (first | exact Drawn0.refl _ | apply Drawn0.step)⟩
  ·rw [if_neg c4] at H
   have c4b0 : (a0 == 0) = false := beq_eq_false_iff_ne.mpr c4
   have c4b1 : (a0 != 0) = true := bne_iff_ne.mpr c4
   by_cases c5 : (Int.tmod a0 4) = 3
   ·rw [if_pos c5] at H
    have c5b0 : ((Int.tmod a0 4) == 3) = true := beq_iff_eq.mpr c5
    have c5b1 : ((Int.tmod a0 4) != 3) = false := bne_eq_false_iff_eq.mpr c5
    clear c5
    replace H := oB H; obtain ⟨t562, A6, H⟩ := H
    simp only [Option.some.injEq, Prod.mk.injEq] at H
    obtain ⟨rfl, rfl⟩ := H
    go_enter Tryd.func53, Tryd.ntmps53
    go_wp2_with (first | ((with_reducible refine gate_callee (f := 121) rfl ?_); refine goC (N := some 7) Tryd.func121 #[.int .i64 a0] rfl ?_; (with_reducible refine (spec_paPeople.calls a0 true _ A2.out).mono ?_); rintro e w' ⟨rfl, ⟨nd, rfl⟩⟩; refine ⟨_, rfl, ?_⟩) | ((with_reducible refine gate_callee (f := 108) rfl ?_); refine goC (N := some 28) Tryd.func108 #[.int .i64 a0, .int .i64 3] rfl ?_; (with_reducible refine (spec_trChoose.calls k a0 3 t562 _ A6.out).mono ?_); rintro e w' ⟨rfl, ⟨nd, rfl⟩⟩; refine ⟨_, rfl, ?_⟩))
    go_ret2
    exact ⟨by first | rfl | (simp; done) | (simp [*]; done), by repeat (first | exact Drawn0.refl _ | apply Drawn0.step)⟩
   ·rw [if_neg c5] at H
    have c5b0 : ((Int.tmod a0 4) == 3) = false := beq_eq_false_iff_ne.mpr c5
    have c5b1 : ((Int.tmod a0 4) != 3) = true := bne_iff_ne.mpr c5
    replace H := oB H; obtain ⟨t563, A7, H⟩ := H
    simp only [Option.some.injEq, Prod.mk.injEq] at H
    obtain ⟨rfl, rfl⟩ := H
    go_enter Tryd.func53, Tryd.ntmps53
    go_wp2_with (first | ((with_reducible refine gate_callee (f := 121) rfl ?_); refine goC (N := some 7) Tryd.func121 #[.int .i64 a0] rfl ?_; (with_reducible refine (spec_paPeople.calls a0 true _ A2.out).mono ?_); rintro e w' ⟨rfl, ⟨nd, rfl⟩⟩; refine ⟨_, rfl, ?_⟩) | ((with_reducible refine gate_callee (f := 108) rfl ?_); refine goC (N := some 28) Tryd.func108 #[.int .i64 a0, .int .i64 3] rfl ?_; (with_reducible refine (spec_trChoose.calls k a0 3 t563 _ A7.out).mono ?_); rintro e w' ⟨rfl, ⟨nd, rfl⟩⟩; refine ⟨_, rfl, ?_⟩))
    go_ret2
    exact ⟨by first | rfl | (simp; done) | (simp [*]; done), by repeat (first | exact Drawn0.refl _ | apply Drawn0.step)⟩
 ·replace c3 := Bool.eq_false_iff.mpr c3
  subst c3
  replace H : (some (0, false)) = some (r1, r2) := by rw [if_neg (show ¬ (false = true) by decide)] at H; exact H
  simp only [Option.some.injEq, Prod.mk.injEq] at H
  obtain ⟨rfl, rfl⟩ := H
  go_enter Tryd.func53, Tryd.ntmps53
  go_wp2_with (first | ((with_reducible refine gate_callee (f := 121) rfl ?_); refine goC (N := some 7) Tryd.func121 #[.int .i64 a0] rfl ?_; (with_reducible refine (spec_paPeople.calls a0 false _ A2.out).mono ?_); rintro e w' ⟨rfl, ⟨nd, rfl⟩⟩; refine ⟨_, rfl, ?_⟩))
  go_ret2
  exact ⟨by first | rfl | (simp; done) | (simp [*]; done), by repeat (first | exact Drawn0.refl _ | apply Drawn0.step)⟩

end Go.Proofs.YtbjmkkgejekpnaaDoor.PFnThreesCounted
