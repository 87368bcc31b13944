-- Of this session's own program wip/gen/gen.py (it drives the kit's print): contracts of the functions that the law reaches.
import Derived.Test.YtbjmkkgejekpnaaDoorPFnThreesCountedx0
import Derived.Test.YtbjmkkgejekpnaaDoorPFnThreesCountedx1
namespace Go.Proofs.YtbjmkkgejekpnaaDoor.PFnThreesCounted
open Go.RowKit Go.Proofs.YtbjmkkgejekpnaaDoorW.PrintWords Go.Proofs.YtbjmkkgejekpnaaDoorW.PrintLast Go.Proofs.YtbjmkkgejekpnaaDoorW.PrintMore Go.Proofs.YtbjmkkgejekpnaaDoor.Base
attribute [local go_sem] max2_int min2_int max_two min_two max_three min_three max_four min_four   -- for this text's walks alone
set_option linter.unusedVariables false
set_option linter.unusedSimpArgs false
set_option maxHeartbeats 8000000
set_option maxRecDepth 100000

/-! ### spec_paOf: function 160 -/
mutual
def spec_paOf.l0 : Nat → List (List Bool) → Int → Int → Int → List (S43) → Option (Int × (List (S43)))
 | 0, _, _, _, _, _ => none
 | k + 1, x0, x10, x11, x136000, x136001 => if x11 < x10 then (spec_paOf.l1 k x0 x11 (wrap64 (x11 + 1)) x10 x11 x136000 x136001) else (some (x136000, x136001))
def spec_paOf.l1 : Nat → List (List Bool) → Int → Int → Int → Int → Int → List (S43) → Option (Int × (List (S43)))
 | 0, _, _, _, _, _, _, _ => none
 | k + 1, x0, x4, x5, x10, x11, x136000, x136001 => if x5 < (x0.length : Int) then (if 0 ≤ x4 then (if x4 < (x0.length : Int) then (if 0 ≤ x5 then (if x5 < ((rd_L5 x0 x4).length : Int) then (if rdOf false (rd_L5 x0 x4) x5 = true then (if x136001.length < 8796093022208 then (spec_paOf.l1 k x0 x4 (wrap64 (x5 + 1)) x10 x11 x136000 (x136001 ++ [(⟨x4, x5⟩ : S43)])) else (none)) else (spec_paOf.l1 k x0 x4 (wrap64 (x5 + 1)) x10 x11 x136000 x136001)) else (none)) else (none)) else (none)) else (none)) else (spec_paOf.l0 k x0 x10 (wrap64 (x11 + 1)) x136000 x136001)
end
def spec_paOf.f (k : Nat) (l0 : List (List Bool)) : Option (Int × (List (S43))) := spec_paOf.l0 k l0 (l0.length : Int) 0 (l0.length : Int) ([] : List (S43))
theorem spec_paOf.mono_l : ∀ k, (∀ y0 y1 y2 y3 y4, LeO (spec_paOf.l0 k y0 y1 y2 y3 y4) (spec_paOf.l0 (k + 1) y0 y1 y2 y3 y4)) ∧ (∀ y0 y1 y2 y3 y4 y5 y6, LeO (spec_paOf.l1 k y0 y1 y2 y3 y4 y5 y6) (spec_paOf.l1 (k + 1) y0 y1 y2 y3 y4 y5 y6))
 | 0 => ⟨fun _ _ _ _ _ r h => by simp [spec_paOf.l0] at h, fun _ _ _ _ _ _ _ r h => by simp [spec_paOf.l1] at h⟩
 | k + 1 => by
  obtain ⟨ih0, ih1⟩ := spec_paOf.mono_l k
  refine ⟨?_, ?_⟩ <;> intros <;> (first | unfold spec_paOf.l0 | unfold spec_paOf.l1)
  all_goals (repeat' first | (with_reducible first | exact ih0 .. | exact ih1 .. | exact LeO.refl _ | exact LeO.none _ | refine LeO.ite ?_ ?_ | refine LeO.bind ?_ (fun _ => ?_)) | exact ih0 .. | exact ih1 .. | exact LeO.none _ | refine LeO.ite ?_ ?_ | refine LeO.bind ?_ (fun _ => ?_))
theorem spec_paOf.mono : ∀ a0 k, LeO (spec_paOf.f k a0) (spec_paOf.f (k + 1) a0) := by
 intro a0 k
 obtain ⟨ih0, ih1⟩ := spec_paOf.mono_l k
 unfold spec_paOf.f
 repeat' first | (with_reducible first | exact ih0 .. | exact ih1 .. | exact LeO.refl _ | exact LeO.none _ | refine LeO.ite ?_ ?_ | refine LeO.bind ?_ (fun _ => ?_)) | exact ih0 .. | exact ih1 .. | exact LeO.none _ | refine LeO.ite ?_ ?_ | refine LeO.bind ?_ (fun _ => ?_)
theorem spec_paOf.calls (k : Nat) (A0 : Option Addr) (c0 : Nat) (l0 : List (List Bool)) (r1 : Int) (r2 : List (S43)) (w : World) (hr0 : Kd.C (Kd.slice 4 Kd.bool) w A0 l0.length l0) (hc0 : l0.length ≤ c0) (h : spec_paOf.f k l0 = some (r1, r2)) :
  Calls Tryd.prog 160 #[.slice A0 l0.length c0] w fun e w' => ∃ v1_ : Value, e = .returned (.agg #[.int .i64 r1, v1_]) ∧ Kd.R k43 43 w' w.heap.size (fun _ => True) v1_ r2 ∧ Below w.heap.size w w' := by
 have hu52 := Tryd.underlying52
 have hu43 := Tryd.underlying43
 have HR0 := Aside0.mk hr0
 have HC0 := Aside0.mk hc0
 clear hr0 hc0
 have HB := Aside0.mk (Below.refl w.heap.size w)
 have H : (spec_paOf.l0 k l0 (l0.length : Int) 0 (l0.length : Int) ([] : List (S43))) = some (r1, r2) := h
 clear h
 have H' := Aside0.mk H
 clear H
 go_enter Tryd.func160, Tryd.ntmps160
 go_wp2_with (first | ((with_reducible refine gate_dst (N := 2) rfl ?_); refine bxE 2 #[.int .i64 0, .slice none 0 0] 52 rfl ?_; intro gb134 hg w2 hbox hb; have BK134 := Aside0.mk (hbox); have GW134 := gS HB hg; have GE134 := gS HB hg; replace HB := hS HB hb; clear hb hbox hg) | ((with_reducible refine gate_dst (N := 3) rfl ?_); refine bxE 3 #[.int .i64 0, .slice none 0 0] 52 rfl ?_; intro gb135 hg w3 hbox hb; have BK135 := Aside0.mk (hbox); have GW135 := gS HB hg; have GE135 := gS HB hg; have NB134_135 := nL BK134 hg; have NB135_134 := nG BK134 hg; replace BK134 := bS BK134 hb; replace HB := hS HB hb; clear hb hbox hg; have hnb4 := NB135_134.out; have hnc4 := NB134_135.out; obtain ⟨hcz5_0, hcz5_1, hfz5_0, hfz5_1⟩ := cf2 BK135))
 go_loopg [11] k (fun kq v11 w' => ∃ (x11_1 : Int) (x136001_1 : List (S43)) (u136001 : Value), v11 = .int .i64 x11_1 ∧ Aside0 (spec_paOf.l0 kq l0 (l0.length : Int) x11_1 (l0.length : Int) x136001_1 = some (r1, r2)) ∧ Aside0 (kq ≤ k) ∧ Aside0 (Kd.R k43 43 w' w.heap.size (fun _ => True) u136001 x136001_1) ∧ Aside0 (w'.heap[gb134]? = some (.cells #[.int .i64 0, (.slice none 0 0)] 52 (0, 0))) ∧ Aside0 (w'.heap[gb135]? = some (.cells #[.int .i64 (l0.length : Int), u136001] 52 (0, 0))) ∧ Aside0 (Below w.heap.size w w'))
 case atStart => exact ⟨(0), (([] : List (S43))), (.slice none 0 0), sR, H', ⟨Nat.le_refl _⟩, ⟨by first | exact Kd.R_nil _ _ _ _ _ | exact Kd.N_nil _ _ _ _ _ | exact Kd.V_nil _ _ _ _ _ | exact Kd.Q_nil _ _ _ _ _ | exact Kd.S_nil _ _ _ _ _⟩, ⟨by (with_reducible repeat (first | refine blk_drewN ?_ _ | refine blk_drew ?_ | refine blk_alloc ?_ _)); refine blk_far ?_ NB134_135.out _; (with_reducible repeat (first | refine blk_drewN ?_ _ | refine blk_drew ?_ | refine blk_alloc ?_ _)); refine blk_far ?_ NB134_135.out _; (with_reducible repeat (first | refine blk_drewN ?_ _ | refine blk_drew ?_ | refine blk_alloc ?_ _)); exact BK134.out⟩, ⟨by (with_reducible repeat (first | refine blk_drewN ?_ _ | refine blk_drew ?_ | refine blk_alloc ?_ _)); refine blk_put (cs := #[.int .i64 (l0.length : Int), .slice none 0 0]) ?_ 1 _ rfl; (with_reducible repeat (first | refine blk_drewN ?_ _ | refine blk_drew ?_ | refine blk_alloc ?_ _)); refine blk_put (cs := #[.int .i64 0, .slice none 0 0]) ?_ 0 _ rfl; (with_reducible repeat (first | refine blk_drewN ?_ _ | refine blk_drew ?_ | refine blk_alloc ?_ _)); exact BK135.out⟩, ⟨hB⟩⟩
 case round =>
  clear H'
  (try clear hcz5_0 hcz5_1 hfz5_0 hfz5_1)
  obtain ⟨x11_1, x136001_1, u136001, rfl, HA, HK1, HO_136001, BK134, BK135, HB⟩ := hrel
  cases gk with
  | zero => exact absurd HA.out (by simp [spec_paOf.l0])
  | succ k1 =>
   have H := HA.out
   clear HA
   simp only [spec_paOf.l0] at H
   by_cases c6 : x11_1 < (l0.length : Int)
   ·rw [if_pos c6] at H
    have c6b0 := decide_eq_true c6
    clear c6
    have H' := Aside0.mk H
    clear H
    go_wp2
    go_loopg [5] k1 (fun kq v5 w' => ∃ (x5_2 : Int) (x136001_2 : List (S43)) (u136001 : Value), v5 = .int .i64 x5_2 ∧ Aside0 (spec_paOf.l1 kq l0 x11_1 x5_2 (l0.length : Int) x11_1 (l0.length : Int) x136001_2 = some (r1, r2)) ∧ Aside0 (kq ≤ k1) ∧ Aside0 (Kd.R k43 43 w' w.heap.size (fun _ => True) u136001 x136001_2) ∧ Aside0 (w'.heap[gb134]? = some (.cells #[.int .i64 0, (.slice none 0 0)] 52 (0, 0))) ∧ Aside0 (w'.heap[gb135]? = some (.cells #[.int .i64 (l0.length : Int), u136001] 52 (0, 0))) ∧ Aside0 (Below w.heap.size w w'))
    case atStart => exact ⟨(wrap64 (x11_1 + 1)), (x136001_1), (u136001), sR, H', ⟨Nat.le_refl _⟩, ⟨rU HO_136001⟩, ⟨bK⟩, ⟨bK⟩, ⟨hB⟩⟩
    case round =>
     clear H'
     (try clear c6); (try clear c6b0); (try clear hcz5_0 hcz5_1 hfz5_0 hfz5_1)
     obtain ⟨x5_2, x136001_2, u136001, rfl, HA, HK2, HO_136001, BK134, BK135, HB⟩ := hrel
     cases gk with
     | zero => exact absurd HA.out (by simp [spec_paOf.l1])
     | succ k2 =>
      have H := HA.out
      clear HA
      simp only [spec_paOf.l1] at H
      by_cases c7 : x5_2 < (l0.length : Int)
      ·rw [if_pos c7] at H
       have c7b0 := decide_eq_true c7
       clear c7
       replace H := ifD H; obtain ⟨c8b0, H⟩ := H
       replace H := ifD H; obtain ⟨c9b0, H⟩ := H
       replace H := ifD H; obtain ⟨c10b0, H⟩ := H
       replace H := ifD H; obtain ⟨c11b0, H⟩ := H
       obtain ⟨bq12, hbq12⟩ : ∃ b_ : Bool, b_ = (rdOf false (rd_L5 l0 x11_1) x5_2) := ⟨_, rfl⟩
       replace H : (if bq12 = true then (if x136001_2.length < 8796093022208 then (spec_paOf.l1 k2 l0 x11_1 (wrap64 (x5_2 + 1)) (l0.length : Int) x11_1 (l0.length : Int) (x136001_2 ++ [(⟨x11_1, x5_2⟩ : S43)])) else (none)) else (spec_paOf.l1 k2 l0 x11_1 (wrap64 (x5_2 + 1)) (l0.length : Int) x11_1 (l0.length : Int) x136001_2)) = some (r1, r2) := by rw [← hbq12] at H; exact H
       have Nbq12 := Aside0.mk hbq12
       clear hbq12
       by_cases c13 : bq12 = true
       ·subst c13
        rw [if_pos rfl] at H
        replace H := ifP H; obtain ⟨c14, H⟩ := H
        have LMc14 := Aside0.mk c14
        clear c14
        obtain ⟨y138, hy138⟩ : ∃ y_ : List (S43), y_ = (x136001_2 ++ [(⟨x11_1, x5_2⟩ : S43)]) := ⟨_, rfl⟩
        replace H : (spec_paOf.l1 k2 l0 x11_1 (wrap64 (x5_2 + 1)) (l0.length : Int) x11_1 (l0.length : Int) y138) = some (r1, r2) := by first | (rw [hy138]; with_reducible exact H) | (have H2_ := (Option.bind_some _ _).symm.trans H; rw [hy138]; with_reducible exact H2_) | (have H2_ := (Option.bind_some _ _).symm.trans H; with_reducible exact H2_) | with_reducible exact H | (rw [hy138]; exact H) | exact H
        have Ny138 := Aside0.mk hy138
        clear hy138
        have H' := Aside0.mk H
        clear H
        have p136 : 0 ≤ (x11_1 : Int) := of_decide_eq_true (by first | (with_reducible assumption) | assumption)
        have q136 : x11_1 < (l0.length : Int) := of_decide_eq_true (by first | (with_reducible assumption) | assumption)
        obtain ⟨ad136, A136_0, c136_0, e136, hx136_0, hl136_0, hi136_0⟩ := at_L5 HR0.out x11_1 p136 q136
        cases e136
        replace hx136_0 := (HB.out.cell (World.block_lt_of_cell? w _ hx136_0)).trans hx136_0
        have HR136_0 := Aside0.mk hi136_0
        have HC136_0 := Aside0.mk hl136_0
        clear hi136_0 hl136_0
        replace p136 := eq_true p136
        replace q136 := eq_true q136
        have p137 : 0 ≤ (x5_2 : Int) := of_decide_eq_true (by first | (with_reducible assumption) | assumption)
        have q137 : x5_2 < ((rd_L5 l0 x11_1).length : Int) := of_decide_eq_true (by first | (with_reducible assumption) | assumption)
        obtain ⟨ad137, e137, hx137_0⟩ := Kd.at_bool HR136_0.out x5_2 p137 q137
        (try rw [← Nbq12.out] at hx137_0)
        cases e137
        replace hx137_0 := (HB.out.cell (World.block_lt_of_cell? w _ hx137_0)).trans hx137_0
        replace p137 := eq_true p137
        replace q137 := eq_true q137
        have hnb15 := NB135_134.out
        have hnc15 := NB134_135.out
        obtain ⟨hcz16_0, hcz16_1, hfz16_0, hfz16_1⟩ := cf2 BK135
        go_wp2_with (first | ((with_reducible refine gate_builtin (b := .append) (xs := #[.tmp 30, .tmp 34]) rfl ?_); at_builtin; refine Kd.R_append k43 (w0 := w) w.heap.size rfl (.tmp 30) (.tmp 34) 24 43 (.agg #[(.int .i64 0), (.int .i64 0)]) 16 rfl Tryd.underlying24 info43 rfl (by decide) (by omega) u136001 x136001_2 (⟨x11_1, x5_2⟩ : S43) [.int .i64 x11_1, .int .i64 x5_2] (fun _ => True) (fun _ => False) rfl rfl ?aP (fun _ hk => hk.elim) ?aF ?aO ?aB ?aS ?aL ?_; (case aP => exact k43_mkM _ _ _ (⟨x11_1, x5_2⟩ : S43)); (case aB => exact hB); (case aF => exact (fun _ _ => trivial)); (case aO => exact (rU HO_136001)); (case aS => exact (below_size hB)); (case aL => have := LMc14.out; omega); intro v139 w17 ho hb hg hat; rw [← Ny138.out] at ho; have n0_ := Aside0.mk (blk_grown (g := gb134) (o := .cells #[.int .i64 0, .slice none 0 0] 52 (0, 0)) bK hg (Kd.R_ne HO_136001.out BK134.out (by decide))); have n1_ := Aside0.mk (blk_grown (g := gb135) (o := .cells #[.int .i64 (l0.length : Int), u136001] 52 (0, 0)) bK hg (Kd.R_ne HO_136001.out BK135.out (by decide))); have n2_ := Aside0.mk (hb); have n3_ := Aside0.mk (ho); clear BK134; clear BK135; clear HB; clear HO_136001; have BK134 := n0_; have BK135 := n1_; have HB := n2_; have HO140 := n3_; clear n0_ n1_ n2_ n3_; clear ho hb hg hat; obtain ⟨Ao18, co18, eo18⟩ := Kd.R_slice HO140.out; subst eo18; obtain ⟨hcz19_0, hcz19_1, hfz19_0, hfz19_1⟩ := cf2 BK135))
        go_roundg k2
        case measure => have := HK1.out; have := HK2.out; omega
        case rel => exact ⟨(wrap64 (x5_2 + 1)), (y138), (.slice Ao18 y138.length co18), sR, H', ⟨by have := HK1.out; have := HK2.out; omega⟩, ⟨by (with_reducible repeat (first | apply Kd.R_alloc | apply Kd.R_drewN | apply Kd.R_drew)); exact Kd.R_mono (Kd.R_far (p := ⟨gb135, 1, none⟩) (Kd.R_types HO140.out BK135.out (by decide)) (fun _ hk => hk.2) (.slice Ao18 y138.length co18)) (fun _ hk => trivial)⟩, ⟨by (with_reducible repeat (first | refine blk_drewN ?_ _ | refine blk_drew ?_ | refine blk_alloc ?_ _)); refine blk_far ?_ NB134_135.out _; (with_reducible repeat (first | refine blk_drewN ?_ _ | refine blk_drew ?_ | refine blk_alloc ?_ _)); exact BK134.out⟩, ⟨by (with_reducible repeat (first | refine blk_drewN ?_ _ | refine blk_drew ?_ | refine blk_alloc ?_ _)); refine blk_put (cs := #[.int .i64 (l0.length : Int), u136001]) ?_ 1 _ rfl; (with_reducible repeat (first | refine blk_drewN ?_ _ | refine blk_drew ?_ | refine blk_alloc ?_ _)); exact BK135.out⟩, ⟨hB⟩⟩
       ·replace c13 := Bool.eq_false_iff.mpr c13
        subst c13
        rw [if_neg (show ¬ (false = true) by decide)] at H
        have H' := Aside0.mk H
        clear H
        have p136 : 0 ≤ (x11_1 : Int) := of_decide_eq_true (by first | (with_reducible assumption) | assumption)
        have q136 : x11_1 < (l0.length : Int) := of_decide_eq_true (by first | (with_reducible assumption) | assumption)
        obtain ⟨ad136, A136_0, c136_0, e136, hx136_0, hl136_0, hi136_0⟩ := at_L5 HR0.out x11_1 p136 q136
        cases e136
        replace hx136_0 := (HB.out.cell (World.block_lt_of_cell? w _ hx136_0)).trans hx136_0
        have HR136_0 := Aside0.mk hi136_0
        have HC136_0 := Aside0.mk hl136_0
        clear hi136_0 hl136_0
        replace p136 := eq_true p136
        replace q136 := eq_true q136
        have p137 : 0 ≤ (x5_2 : Int) := of_decide_eq_true (by first | (with_reducible assumption) | assumption)
        have q137 : x5_2 < ((rd_L5 l0 x11_1).length : Int) := of_decide_eq_true (by first | (with_reducible assumption) | assumption)
        obtain ⟨ad137, e137, hx137_0⟩ := Kd.at_bool HR136_0.out x5_2 p137 q137
        (try rw [← Nbq12.out] at hx137_0)
        cases e137
        replace hx137_0 := (HB.out.cell (World.block_lt_of_cell? w _ hx137_0)).trans hx137_0
        replace p137 := eq_true p137
        replace q137 := eq_true q137
        go_wp2
        go_roundg k2
        case measure => have := HK1.out; have := HK2.out; omega
        case rel => exact ⟨(wrap64 (x5_2 + 1)), (x136001_2), (u136001), sR, H', ⟨by have := HK1.out; have := HK2.out; omega⟩, ⟨rU HO_136001⟩, ⟨bK⟩, ⟨bK⟩, ⟨hB⟩⟩
      ·rw [if_neg c7] at H
       have c7b0 := decide_eq_false c7
       clear c7
       have H' := Aside0.mk H
       clear H
       go_wp2
       go_roundg k2
       case measure => have := HK1.out; have := HK2.out; omega
       case rel => exact ⟨(wrap64 (x11_1 + 1)), (x136001_2), (u136001), sR, H', ⟨by have := HK1.out; have := HK2.out; omega⟩, ⟨rU HO_136001⟩, ⟨bK⟩, ⟨bK⟩, ⟨hB⟩⟩
   ·rw [if_neg c6] at H
    have c6b0 := decide_eq_false c6
    clear c6
    simp only [Option.some.injEq, Prod.mk.injEq] at H
    obtain ⟨rfl, rfl⟩ := H
    have hnb20 := NB135_134.out
    have hnc20 := NB134_135.out
    obtain ⟨hcz21_0, hcz21_1, hfz21_0, hfz21_1⟩ := cf2 BK135
    obtain ⟨hcz22_0, hcz22_1, hfz22_0, hfz22_1⟩ := cf2 BK134
    obtain ⟨Ao23, co23, eo23⟩ := Kd.R_slice HO_136001.out
    subst eo23
    go_wp2
    refine bodyPost_ret (results_cell_row rfl _ _ gb134 52 #[.int .i64 (l0.length : Int), .slice Ao23 x136001_1.length co23] (0, 0) _ rfl (by (with_reducible repeat (first | refine blk_drewN ?_ _ | refine blk_drew ?_ | refine blk_alloc ?_ _)); refine blk_put (cs := #[.int .i64 (l0.length : Int), .slice none 0 0]) ?_ 1 _ rfl; (with_reducible repeat (first | refine blk_drewN ?_ _ | refine blk_drew ?_ | refine blk_alloc ?_ _)); refine blk_put (cs := #[.int .i64 0, .slice none 0 0]) ?_ 0 _ rfl; (with_reducible repeat (first | refine blk_drewN ?_ _ | refine blk_drew ?_ | refine blk_alloc ?_ _)); exact BK134.out) Tryd.underlying52 rfl (by kernel_rfl)) rfl ?_
    exact ⟨_, eW, by (with_reducible repeat (first | apply Kd.R_alloc | apply Kd.R_drewN | apply Kd.R_drew)); exact Kd.R_mono (Kd.R_far (p := ⟨gb134, 1, none⟩) (Kd.R_far (p := ⟨gb134, 0, none⟩) (Kd.R_types HO_136001.out BK134.out (by decide)) (fun _ hk => hk.2) (.int .i64 (l0.length : Int))) (fun _ hk => hk.2) (.slice Ao23 x136001_1.length co23)) (fun _ hk => trivial), hB⟩

/-! ### spec_paOther: function 133 -/
mutual
def spec_paOther.l0 : Nat → List (List Bool) → Int → Int → Option (Int × (List (S43)))
 | 0, _, _, _ => none
 | k + 1, x3, x9, x10 => if x10 < x9 then (spec_paOther.l1 k x3 x10 x9 x10 (x3.length : Int) 0) else ((spec_paOf.f k x3).bind fun bt146 => (some (bt146.1, bt146.2)))
def spec_paOther.l1 : Nat → List (List Bool) → Int → Int → Int → Int → Int → Option (Int × (List (S43)))
 | 0, _, _, _, _, _, _ => none
 | k + 1, x3, x4, x9, x10, x14, x15 => if x15 < x14 then (if 0 ≤ x4 then (if x4 < (x3.length : Int) then (if 0 ≤ x15 then (if x15 < ((rd_L5 x3 x4).length : Int) then (spec_paOther.l1 k (x3.set (x4 : Int).toNat ((rd_L5 x3 x4).set (x15 : Int).toNat (!(rdOf false (rd_L5 x3 x4) x15)))) x4 x9 x10 x14 (wrap64 (x15 + 1))) else (none)) else (none)) else (none)) else (none)) else (spec_paOther.l0 k x3 x9 (wrap64 (x10 + 1)))
end
def spec_paOther.f (k : Nat) (a0_0 : Int) (l0_1 : List (S43)) : Option (Int × (List (S43))) := (spec_paTable.f k a0_0 l0_1).bind fun t143 => (spec_paOther.l0 k t143 (t143.length : Int) 0)
theorem spec_paOther.mono_l : ∀ k, (∀ y0 y1 y2, LeO (spec_paOther.l0 k y0 y1 y2) (spec_paOther.l0 (k + 1) y0 y1 y2)) ∧ (∀ y0 y1 y2 y3 y4 y5, LeO (spec_paOther.l1 k y0 y1 y2 y3 y4 y5) (spec_paOther.l1 (k + 1) y0 y1 y2 y3 y4 y5))
 | 0 => ⟨fun _ _ _ r h => by simp [spec_paOther.l0] at h, fun _ _ _ _ _ _ r h => by simp [spec_paOther.l1] at h⟩
 | k + 1 => by
  obtain ⟨ih0, ih1⟩ := spec_paOther.mono_l k
  refine ⟨?_, ?_⟩ <;> intros <;> (first | unfold spec_paOther.l0 | unfold spec_paOther.l1)
  all_goals (repeat' first | (with_reducible first | exact ih0 .. | exact ih1 .. | exact spec_paOf.mono .. | exact spec_paTable.mono .. | exact LeO.refl _ | exact LeO.none _ | refine LeO.ite ?_ ?_ | refine LeO.bind ?_ (fun _ => ?_)) | exact ih0 .. | exact ih1 .. | exact spec_paOf.mono .. | exact spec_paTable.mono .. | exact LeO.none _ | refine LeO.ite ?_ ?_ | refine LeO.bind ?_ (fun _ => ?_))
theorem spec_paOther.mono : ∀ a0 a1 k, LeO (spec_paOther.f k a0 a1) (spec_paOther.f (k + 1) a0 a1) := by
 intro a0 a1 k
 obtain ⟨ih0, ih1⟩ := spec_paOther.mono_l k
 unfold spec_paOther.f
 repeat' first | (with_reducible first | exact ih0 .. | exact ih1 .. | exact spec_paOf.mono .. | exact spec_paTable.mono .. | exact LeO.refl _ | exact LeO.none _ | refine LeO.ite ?_ ?_ | refine LeO.bind ?_ (fun _ => ?_)) | exact ih0 .. | exact ih1 .. | exact spec_paOf.mono .. | exact spec_paTable.mono .. | exact LeO.none _ | refine LeO.ite ?_ ?_ | refine LeO.bind ?_ (fun _ => ?_)
def spec_paOther.T8 : Bool × List (List Nat × List Nat) := (true, [([], []), ([], []), ([0, 1], [0, 1]), ([2], [2]), ([], []), ([], []), ([], []), ([5, 6], [5, 6]), ([7], [7]), ([], []), ([8, 9], [8, 9]), ([10], [10]), ([11], [11]), ([3, 4, 0, 1, 2, 3, 4, 5, 6, 7, 8, 9, 10, 11, 12], [3, 4]), ([13, 12, 0, 1, 2, 3, 4, 5, 6, 7, 8, 9, 10, 11, 12], [12, 13])])
def spec_paOther.B8 : List Nat := [0, 0, 3, 7, 0, 0, 0, 96, 224, 0, 992, 2016, 4064, 8191, 16383]
theorem spec_paOther.tab8 : rtab .any (opsOf Tryd.f133 8) = spec_paOther.T8 := by kernel_rfl
theorem spec_paOther.bits8 : waitsOk spec_paOther.T8.2 spec_paOther.B8 = true := by kernel_rfl
theorem spec_paOther.calls (k : Nat) (a0_0 : Int) (A0_1 : Option Addr) (c0_1 : Nat) (l0_1 : List (S43)) (r1 : Int) (r2 : List (S43)) (w : World) (hr0_1 : Kd.C k43 w A0_1 l0_1.length l0_1) (hc0_1 : l0_1.length ≤ c0_1) (h : spec_paOther.f k a0_0 l0_1 = some (r1, r2)) :
  Calls Tryd.prog 133 #[.agg #[.int .i64 a0_0, .slice A0_1 l0_1.length c0_1]] w fun e w' => ∃ v1_ : Value, e = .returned (.agg #[.int .i64 r1, v1_]) ∧ Kd.R k43 43 w' w.heap.size (fun _ => True) v1_ r2 ∧ Below w.heap.size w w' := by
 have hu52 := Tryd.underlying52
 have HR0_1 := Aside0.mk hr0_1
 have HC0_1 := Aside0.mk hc0_1
 clear hr0_1 hc0_1
 have HB := Aside0.mk (Below.refl w.heap.size w)
 have H : ((spec_paTable.f k a0_0 l0_1).bind fun t143 => (spec_paOther.l0 k t143 (t143.length : Int) 0)) = some (r1, r2) := h
 clear h
 replace H := oB H; obtain ⟨t143, A2, H⟩ := H
 have H' := Aside0.mk H
 clear H
 go_enter Tryd.func133, Tryd.ntmps133
 go_wp2_with (first | ((with_reducible refine gate_dst (N := 1) rfl ?_); refine bxE 1 #[.int .i64 a0_0, .slice A0_1 l0_1.length c0_1] 52 rfl ?_; intro gb141 hg w3 hbox hb; have BK141 := Aside0.mk (hbox); have GW141 := gS HB hg; have GE141 := gS HB hg; replace HB := hS HB hb; clear hb hbox hg) | ((with_reducible refine gate_dst (N := 2) rfl ?_); refine bxE 2 #[.int .i64 0, .slice none 0 0] 52 rfl ?_; intro gb142 hg w4 hbox hb; have BK142 := Aside0.mk (hbox); have GW142 := gS HB hg; have GE142 := gS HB hg; have NB141_142 := nL BK141 hg; have NB142_141 := nG BK141 hg; replace BK141 := bS BK141 hb; replace HB := hS HB hb; clear hb hbox hg; have hnb5 := NB141_142.out; have hnc5 := NB142_141.out; obtain ⟨hcz6_0, hcz6_1, hfz6_0, hfz6_1⟩ := cf2 BK141) | ((with_reducible refine gate_callee (f := 105) rfl ?_); refine goC (N := some 7) Tryd.func105 #[.agg #[.int .i64 a0_0, .slice A0_1 l0_1.length c0_1]] rfl ?_; (with_reducible refine (spec_paTable.calls k a0_0 _ _ l0_1 t143 _ ?side1 ?side2 A2.out).mono ?_); (case side1 => exact cS (Kd.C_below HR0_1.out HB.out)); (case side2 => exact HC0_1.out); rintro e w7 ⟨v144, rfl, ho0, hb⟩; refine ⟨_, rfl, ?_⟩; have HO145 := Aside0.mk (Kd.S_lower ho0 (below_size hB)); replace BK141 := bS BK141 hb; replace BK142 := bS BK142 hb; replace HB := hS HB hb; (try clear hb ho0); obtain ⟨Ao8, co8, eo8⟩ := Kd.S_slice HO145.out; subst eo8))
 go_loopg [10] k (fun kq v10 w' => ∃ (x3_1 : List (List Bool)) (x10_1 : Int), v10 = .int .i64 x10_1 ∧ Aside0 (spec_paOther.l0 kq x3_1 (t143.length : Int) x10_1 = some (r1, r2)) ∧ Aside0 (kq ≤ k) ∧ Aside0 (Kd.S (Kd.slice 4 Kd.bool) 66 w' w.heap.size (fun _ => True) (.slice Ao8 t143.length co8) x3_1) ∧ Aside0 (w'.heap[gb141]? = some (.cells #[.int .i64 a0_0, (.slice A0_1 l0_1.length c0_1)] 52 (0, 0))) ∧ Aside0 (w'.heap[gb142]? = some (.cells #[.int .i64 0, (.slice none 0 0)] 52 (0, 0))) ∧ Aside0 (Below w.heap.size w w'))
 case atStart => exact ⟨(t143), (0), sR, H', ⟨Nat.le_refl _⟩, ⟨sU HO145⟩, ⟨bK⟩, ⟨bK⟩, ⟨hB⟩⟩
 case round =>
  clear H'
  (try clear hcz6_0 hcz6_1 hfz6_0 hfz6_1)
  obtain ⟨x3_1, x10_1, rfl, HA, HK1, HO_3, BK141, BK142, HB⟩ := hrel
  have hl3_1 := (Kd.S_reads' HO_3.out).1
  rw [hl3_1] at HO_3
  (try simp only [hl3_1])
  (try simp only [hl3_1] at BK141)
  (try simp only [hl3_1] at BK142)
  cases gk with
  | zero => exact absurd HA.out (by simp [spec_paOther.l0])
  | succ k1 =>
   have H := HA.out
   clear HA
   simp only [spec_paOther.l0] at H
   by_cases c9 : x10_1 < (t143.length : Int)
   ·rw [if_pos c9] at H
    have c9b0 := decide_eq_true c9
    (try (have c9b0m := c9b0; simp only [hl3_1] at c9b0m))
    clear c9
    have H' := Aside0.mk H
    clear H
    go_wp2
    go_loopg [15] k1 (fun kq v15 w' => ∃ (x3_2 : List (List Bool)) (x15_2 : Int), v15 = .int .i64 x15_2 ∧ Aside0 (spec_paOther.l1 kq x3_2 x10_1 (t143.length : Int) x10_1 (x3_1.length : Int) x15_2 = some (r1, r2)) ∧ Aside0 (kq ≤ k1) ∧ Aside0 (Kd.S (Kd.slice 4 Kd.bool) 66 w' w.heap.size (fun _ => True) (.slice Ao8 x3_1.length co8) x3_2) ∧ Aside0 (w'.heap[gb141]? = some (.cells #[.int .i64 a0_0, (.slice A0_1 l0_1.length c0_1)] 52 (0, 0))) ∧ Aside0 (w'.heap[gb142]? = some (.cells #[.int .i64 0, (.slice none 0 0)] 52 (0, 0))) ∧ Aside0 (Below w.heap.size w w'))
    case atStart => exact ⟨(x3_1), (0), sR, H', ⟨Nat.le_refl _⟩, ⟨by (try simp only [hl3_1]); (with_reducible repeat (first | apply Kd.S_alloc | apply Kd.S_drewN | apply Kd.S_drew)); exact HO_3.out⟩, ⟨by (try simp only [hl3_1]); (with_reducible repeat (first | refine blk_drewN ?_ _ | refine blk_drew ?_ | refine blk_alloc ?_ _)); exact BK141.out⟩, ⟨by (try simp only [hl3_1]); (with_reducible repeat (first | refine blk_drewN ?_ _ | refine blk_drew ?_ | refine blk_alloc ?_ _)); exact BK142.out⟩, ⟨hB⟩⟩
    case round =>
     clear H'
     (try clear c9); (try clear c9b0); (try clear hcz6_0 hcz6_1 hfz6_0 hfz6_1)
     obtain ⟨x3_2, x15_2, rfl, HA, HK2, HO_3, BK141, BK142, HB⟩ := hrel
     have hl3_2 := (Kd.S_reads' HO_3.out).1
     rw [hl3_2] at HO_3
     (try simp only [hl3_2])
     (try simp only [hl3_2] at BK141)
     (try simp only [hl3_2] at BK142)
     cases gk with
     | zero => exact absurd HA.out (by simp [spec_paOther.l1])
     | succ k2 =>
      have H := HA.out
      clear HA
      simp only [spec_paOther.l1] at H
      by_cases c10 : x15_2 < (x3_1.length : Int)
      ·rw [if_pos c10] at H
       have c10b0 := decide_eq_true c10
       (try (have c10b0m := c10b0; simp only [hl3_1] at c10b0m))
       (try (have c10b0m := c10b0; simp only [hl3_2] at c10b0m))
       clear c10
       replace H := ifD H; obtain ⟨c11b0, H⟩ := H
       replace H := ifP H; obtain ⟨c12, H⟩ := H
       have c12b0 : decide (x10_1 < (x3_2.length : Int)) = true := decide_eq_true c12
       (try (have c12b0m := c12b0; simp only [hl3_1] at c12b0m))
       (try (have c12b0m := c12b0; simp only [hl3_2] at c12b0m))
       clear c12
       replace H := ifD H; obtain ⟨c13b0, H⟩ := H
       replace H := ifP H; obtain ⟨c14, H⟩ := H
       have c14b0 : decide (x15_2 < ((rd_L5 x3_2 x10_1).length : Int)) = true := decide_eq_true c14
       (try (have c14b0m := c14b0; simp only [hl3_1] at c14b0m))
       (try (have c14b0m := c14b0; simp only [hl3_2] at c14b0m))
       clear c14
       obtain ⟨y153, hy153⟩ : ∃ y_ : List Bool, y_ = ((rd_L5 x3_2 x10_1).set (x15_2 : Int).toNat (!(rdOf false (rd_L5 x3_2 x10_1) x15_2))) := ⟨_, rfl⟩
       replace H : (spec_paOther.l1 k2 (x3_2.set (x10_1 : Int).toNat y153) x10_1 (t143.length : Int) x10_1 (x3_1.length : Int) (wrap64 (x15_2 + 1))) = some (r1, r2) := by first | (rw [hy153]; with_reducible exact H) | (have H2_ := (Option.bind_some _ _).symm.trans H; rw [hy153]; with_reducible exact H2_) | (have H2_ := (Option.bind_some _ _).symm.trans H; with_reducible exact H2_) | with_reducible exact H | (rw [hy153]; exact H) | exact H
       have Ny153 := Aside0.mk hy153
       clear hy153
       obtain ⟨y155, hy155⟩ : ∃ y_ : List (List Bool), y_ = (x3_2.set (x10_1 : Int).toNat y153) := ⟨_, rfl⟩
       replace H : (spec_paOther.l1 k2 y155 x10_1 (t143.length : Int) x10_1 (x3_1.length : Int) (wrap64 (x15_2 + 1))) = some (r1, r2) := by first | (rw [hy155]; with_reducible exact H) | (have H2_ := (Option.bind_some _ _).symm.trans H; rw [hy155]; with_reducible exact H2_) | (have H2_ := (Option.bind_some _ _).symm.trans H; with_reducible exact H2_) | with_reducible exact H | (rw [hy155]; exact H) | exact H
       have Ny155 := Aside0.mk hy155
       clear hy155
       have H' := Aside0.mk H
       clear H
       try go_wp2
       replace HO_3 := Aside0.mk (Kd.S_drew HO_3.out)
       replace BK141 := Aside0.mk (blk_drew BK141.out)
       replace BK142 := Aside0.mk (blk_drew BK142.out)
       replace HB := Aside0.mk (below_drew1 HB.out)
       have p150 : 0 ≤ (x10_1 : Int) := of_decide_eq_true (by first | (with_reducible assumption) | assumption)
       have q150 : x10_1 < (x3_2.length : Int) := of_decide_eq_true (by first | (with_reducible assumption) | assumption)
       obtain ⟨ad150, A150_0, c150_0, e150, hx150_0, hl150_0, hi150_0⟩ := at_L5 (Kd.S_reads' HO_3.out).2.2 x10_1 p150 q150
       cases e150
       obtain ⟨ce150, hce150, hMe150, hcc150⟩ := Kd.S_get HO_3.out [] x10_1 p150 (by first | exact q150 | exact of_decide_eq_true (by first | (with_reducible assumption) | assumption) | (have e_ := (Kd.S_reads' HO_3.out).1; omega))
       obtain ⟨ve150_0, rfl, ge150_0⟩ := hMe150
       have hv150_0 := hcc150 0 _ rfl
       rw [Nat.add_zero, show ((Kd.slice 4 Kd.bool)).sz = 1 from rfl, Nat.mul_one] at hv150_0
       replace hv150_0 := Option.some.inj (hv150_0.symm.trans hx150_0)
       rw [hv150_0] at ge150_0
       have HL150_0 := Aside0.mk (show Kd.R Kd.bool 4 _ _ _ _ (rd_L5 x3_2 x10_1) from ge150_0)
       clear hv150_0 ge150_0
       have HX150_0 := Aside0.mk hx150_0
       clear hcc150 hce150
       have HR150_0 := Aside0.mk hi150_0
       have HC150_0 := Aside0.mk hl150_0
       clear hi150_0 hl150_0
       replace p150 := eq_true p150
       replace q150 := eq_true q150
       have p151 : 0 ≤ (x10_1 : Int) := of_decide_eq_true (by first | (with_reducible assumption) | assumption)
       have q151 : x10_1 < (x3_2.length : Int) := of_decide_eq_true (by first | (with_reducible assumption) | assumption)
       obtain ⟨ad151, A151_0, c151_0, e151, hx151_0, hl151_0, hi151_0⟩ := at_L5 (Kd.S_reads' HO_3.out).2.2 x10_1 p151 q151
       obtain rfl : ad150 = ad151 := (by injection e151)
       obtain ⟨ce151, hce151, hMe151, hcc151⟩ := Kd.S_get HO_3.out [] x10_1 p151 (by first | exact q151 | exact of_decide_eq_true (by first | (with_reducible assumption) | assumption) | (have e_ := (Kd.S_reads' HO_3.out).1; omega))
       obtain ⟨ve151_0, rfl, ge151_0⟩ := hMe151
       have hv151_0 := hcc151 0 _ rfl
       rw [Nat.add_zero, show ((Kd.slice 4 Kd.bool)).sz = 1 from rfl, Nat.mul_one] at hv151_0
       replace hv151_0 := Option.some.inj (hv151_0.symm.trans hx151_0)
       rw [hv151_0] at ge151_0
       have HL151_0 := Aside0.mk (show Kd.R Kd.bool 4 _ _ _ _ (rd_L5 x3_2 x10_1) from ge151_0)
       clear hv151_0 ge151_0
       have HX151_0 := Aside0.mk hx151_0
       clear hcc151 hce151
       have HR151_0 := Aside0.mk hi151_0
       have HC151_0 := Aside0.mk hl151_0
       clear hi151_0 hl151_0
       replace p151 := eq_true p151
       replace q151 := eq_true q151
       have ea_ := Option.some.inj (hx150_0.symm.trans hx151_0)
       injection ea_ with ea_ en_ ec_
       subst ea_
       subst ec_
       clear en_
       have p152 : 0 ≤ (x15_2 : Int) := of_decide_eq_true (by first | (with_reducible assumption) | assumption)
       have q152 : x15_2 < ((rd_L5 x3_2 x10_1).length : Int) := of_decide_eq_true (by first | (with_reducible assumption) | assumption)
       obtain ⟨ad152, e152, hx152_0⟩ := Kd.at_bool (by repeat (first | (with_reducible exact HR151_0.out) | (with_reducible refine Kd.C_alloc ?_ _) | (with_reducible refine Kd.C_drewN ?_ _) | (with_reducible refine Kd.C_drew ?_) | exact HR151_0.out)) x15_2 p152 q152
       cases e152
       replace p152 := eq_true p152
       replace q152 := eq_true q152
       have p15 : 0 ≤ (x15_2 : Int) := of_decide_eq_true (by first | (with_reducible assumption) | assumption)
       have q15 : (x15_2 : Int) < (((rd_L5 x3_2 x10_1).length : Int) : Int) := of_decide_eq_true (by first | (with_reducible assumption) | assumption)
       obtain ⟨go15, co15, eo15, gb15, gl15, cl15, HG15⟩ := Kd.R_form HL150_0.out (by omega)
       (first | cases eo15 | (injection eo15 with ea_ en_ ec_; (first | subst ea_ | (injection ea_ with ea_; subst ea_)); subst ec_; clear en_))
       have GB15 := Aside0.mk gb15
       have GG15 := Aside0.mk HG15
       clear gb15 gl15 HG15
       (first | simp only [add_plain] at hx152_0 | skip)
       obtain ⟨hx15_0, hf15_0⟩ := Kd.R_celln false HL150_0.out (x15_2 : Int) p15 q15
       replace p15 := eq_true p15
       replace q15 := eq_true q15
       have hq17 : (x10_1 : Int) < (x3_2.length : Int) := (by have h_ : (x10_1 : Int) < ((x3_2.length : Int) : Int) := of_decide_eq_true (by first | (with_reducible assumption) | assumption); first | exact h_ | (have e_ := (Kd.S_reads' HO_3.out).1; omega) | simpa only [List.length_set, List.length_set] using h_)
       obtain ⟨oki17, ce17, hcl17, hM17, hcc17, hok17, hbk17⟩ := Kd.S_borrow HO_3.out [] (x10_1 : Int) (of_decide_eq_true (by first | (with_reducible assumption) | assumption)) (by first | exact hq17 | exact of_decide_eq_true (by first | (with_reducible assumption) | assumption))
       obtain ⟨ve17_0, rfl, ge17_0⟩ := hM17
       have hv17 := hcc17 0 _ rfl
       rw [Nat.add_zero, show ((Kd.slice 4 Kd.bool)).sz = 1 from rfl, Nat.mul_one] at hv17
       replace hv17 := Option.some.inj (hv17.symm.trans HX150_0.out)
       subst hv17
       clear hcc17 hcl17
       replace ge17_0 := (show Kd.R Kd.bool 4 _ _ _ _ (rd_L5 x3_2 x10_1) from ge17_0)
       have HP17 := Kd.R_putg ge17_0 (x15_2 : Int) (!(rdOf false (rd_L5 x3_2 x10_1) x15_2))
       rw [← Ny153.out] at HP17
       have HS17 := hbk17 HP17.2 (fun k_ e_ => by injection e_ with e_; subst e_; exact ge17_0.1 _ rfl) (x' := y153) (Kd.M_row HP17.1)
       rw [← Ny155.out] at HS17
       have HQ17 := Aside0.mk HS17
       clear HP17 HS17 hbk17 hok17
       refine start_ (n := 15) (S := fun w' => w'.cell? (ad150.add (x10_1).toNat) = some (.slice (some ⟨go15, 0, none⟩) (rd_L5 x3_2 x10_1).length c150_0) ∧ w'.cell? (ad150.add (x10_1).toNat) = some (.slice (some ⟨go15, 0, none⟩) (rd_L5 x3_2 x10_1).length c150_0) ∧ w'.cell? ⟨go15, (x15_2).toNat, none⟩ = some (.bool (rdOf false (rd_L5 x3_2 x10_1) x15_2))) (ds := [14]) (bz 15 0) (by kernel_rfl) rfl rfl ⟨hx150_0, hx151_0, hx152_0⟩ (fun hHeld => ?_); refine with_tabW spec_paOther.tab8 spec_paOther.bits8 (fun HT_ HW_ => ?_)
       generalize wr.drew = w16 at HO_3 BK141 BK142 HB GG15 HL150_0 HL151_0 HQ17 HR150_0 HR151_0 HX150_0 HX151_0 hf15_0 hx150_0 hx151_0 hx152_0 hx15_0 hHeld ⊢
       refine run_ [(0, 0, 1, some 18), (0, 1, 3, some 19), (0, 2, 7, some 20), (0, 4, 23, some 22), (0, 5, 55, some 23), (0, 6, 119, some 24), (0, 7, 247, some 25), (0, 9, 759, some 27), (1, 3, 767, some 21), (1, 8, 1023, some 26), (0, 10, 2047, some 28), (1, 11, 4095, some 29), (0, 12, 8191, some 30), (0, 13, 16383, some 31)] ?_
       repeat (first | (apply tag0; refine run_p (v := ?_) (a' := ?_) rfl rfl (any_of HT_.out (by kernel_rfl)) (fun _ _ _ h => h) (by rfl) ?_ ?_ ?_; rotate_left 2; (intro w'; go_simp; with_reducible rfl); (first | (simp only [Act.put, List.setIfInBounds_toArray, List.set_cons_zero, List.set_cons_succ, i64_w, i32_w]; rfl) | rfl)) | (apply tag1; refine run_t (v := ?_) (a' := ?_) rfl rfl (take_ofW HT_.out HW_.out (by kernel_rfl)) (fun _ _ _ h => h) (by rfl) ?_ hHeld ?_ ?_; rotate_left 2; (rintro w' ⟨s0, s1, s2⟩; go_simp; with_reducible rfl); (first | (simp only [Act.put, List.setIfInBounds_toArray, List.set_cons_zero, List.set_cons_succ, i64_w, i32_w]; rfl) | rfl)))
       refine run_nil ?_
       refine last_ (i := 14) (N := none) (bz 15 32767) rfl rfl (one_of HT_.out (by kernel_rfl)) (by decide) (fun K hK => ?_)
       refine skip_ (w1 := ?_) (by rfl) rfl ?_ ?_
       rotate_left
       ·go_simp
        rfl
       refine hK.out _ _ ?_
       clear hK K
       refine done_ (done_of HT_.out (by kernel_rfl)) ?_
       try go_wp2
       (try simp only [← hl3_2])
       go_roundg k2
       case measure => have := HK1.out; have := HK2.out; omega
       case rel => exact ⟨(y155), (wrap64 (x15_2 + 1)), sR, H', ⟨by have := HK1.out; have := HK2.out; omega⟩, ⟨by (try simp only [hl3_1]); (try simp only [hl3_2]); (with_reducible repeat (first | apply Kd.S_alloc | apply Kd.S_drewN | apply Kd.S_drew)); exact HQ17.out⟩, ⟨by (try simp only [hl3_1]); (try simp only [hl3_2]); (with_reducible repeat (first | refine blk_drewN ?_ _ | refine blk_drew ?_ | refine blk_alloc ?_ _)); refine blk_far ?_ (by have h_ := Kd.R_ne HL150_0.out BK141.out (by decide); intro e_; exact h_ (by rw [e_]; rfl)) _; (with_reducible repeat (first | refine blk_drewN ?_ _ | refine blk_drew ?_ | refine blk_alloc ?_ _)); exact BK141.out⟩, ⟨by (try simp only [hl3_1]); (try simp only [hl3_2]); (with_reducible repeat (first | refine blk_drewN ?_ _ | refine blk_drew ?_ | refine blk_alloc ?_ _)); refine blk_far ?_ (by have h_ := Kd.R_ne HL150_0.out BK142.out (by decide); intro e_; exact h_ (by rw [e_]; rfl)) _; (with_reducible repeat (first | refine blk_drewN ?_ _ | refine blk_drew ?_ | refine blk_alloc ?_ _)); exact BK142.out⟩, ⟨by repeat (first | (with_reducible first | exact HB.out | apply below_alloc | apply pw_below_drewN | apply below_drew1 | refine below_set ?_ GB15.out | refine below_set ?_ GE141.out | refine below_set ?_ GE142.out) | exact HB.out)⟩⟩
      ·rw [if_neg c10] at H
       have c10b0 := decide_eq_false c10
       (try (have c10b0m := c10b0; simp only [hl3_1] at c10b0m))
       (try (have c10b0m := c10b0; simp only [hl3_2] at c10b0m))
       clear c10
       have H' := Aside0.mk H
       clear H
       go_wp2
       (try simp only [← hl3_1, ← hl3_2])
       go_roundg k2
       case measure => have := HK1.out; have := HK2.out; omega
       case rel => exact ⟨(x3_2), (wrap64 (x10_1 + 1)), sR, H', ⟨by have := HK1.out; have := HK2.out; omega⟩, ⟨by (try simp only [hl3_1]); (try simp only [hl3_2]); (with_reducible repeat (first | apply Kd.S_alloc | apply Kd.S_drewN | apply Kd.S_drew)); exact HO_3.out⟩, ⟨by (try simp only [hl3_1]); (try simp only [hl3_2]); (with_reducible repeat (first | refine blk_drewN ?_ _ | refine blk_drew ?_ | refine blk_alloc ?_ _)); exact BK141.out⟩, ⟨by (try simp only [hl3_1]); (try simp only [hl3_2]); (with_reducible repeat (first | refine blk_drewN ?_ _ | refine blk_drew ?_ | refine blk_alloc ?_ _)); exact BK142.out⟩, ⟨hB⟩⟩
   ·rw [if_neg c9] at H
    have c9b0 := decide_eq_false c9
    (try (have c9b0m := c9b0; simp only [hl3_1] at c9b0m))
    clear c9
    replace H := Option.bind_eq_some_iff.mp H
    obtain ⟨⟨t146, t147⟩, A190, H⟩ := H
    replace H : (some (t146, t147)) = some (r1, r2) := H
    have A19 := Aside0.mk A190
    clear A190
    simp only [Option.some.injEq, Prod.mk.injEq] at H
    obtain ⟨rfl, rfl⟩ := H
    go_wp2_with (first | ((with_reducible refine gate_callee (f := 160) rfl ?_); refine goC (N := some 35) Tryd.func160 #[.slice Ao8 x3_1.length co8] rfl ?_; (with_reducible refine (spec_paOf.calls k1 _ _ x3_1 t146 t147 _ ?side1 ?side2 A19.out).mono ?_); (case side1 => exact cS (Kd.S_reads' HO_3.out).2.2); (case side2 => exact (Kd.S_reads' HO_3.out).2.1); rintro e w20 ⟨v148, rfl, ho0, hb⟩; refine ⟨_, rfl, ?_⟩; have HO149 := Aside0.mk (Kd.R_lower ho0 (below_size hB)); replace HO_3 := Aside0.mk (Kd.S_below (sU HO_3) hb); replace BK141 := bS BK141 hb; replace BK142 := bS BK142 hb; replace HB := hS HB hb; (try clear hb ho0); have hnb21 := NB142_141.out; have hnc21 := NB141_142.out; obtain ⟨hcz22_0, hcz22_1, hfz22_0, hfz22_1⟩ := cf2 BK142; obtain ⟨Ao23, co23, eo23⟩ := Kd.R_slice HO149.out; subst eo23))
    refine bodyPost_ret (results_cell_row rfl _ _ gb142 52 #[.int .i64 t146, .slice Ao23 t147.length co23] (0, 0) _ rfl (by (with_reducible repeat (first | refine blk_drewN ?_ _ | refine blk_drew ?_ | refine blk_alloc ?_ _)); refine blk_put (cs := #[.int .i64 t146, .slice none 0 0]) ?_ 1 _ rfl; (with_reducible repeat (first | refine blk_drewN ?_ _ | refine blk_drew ?_ | refine blk_alloc ?_ _)); refine blk_put (cs := #[.int .i64 0, .slice none 0 0]) ?_ 0 _ rfl; (with_reducible repeat (first | refine blk_drewN ?_ _ | refine blk_drew ?_ | refine blk_alloc ?_ _)); exact BK142.out) Tryd.underlying52 rfl (by kernel_rfl)) rfl ?_
    exact ⟨_, eW, by (with_reducible repeat (first | apply Kd.R_alloc | apply Kd.R_drewN | apply Kd.R_drew)); exact Kd.R_mono (Kd.R_far (p := ⟨gb142, 1, none⟩) (Kd.R_far (p := ⟨gb142, 0, none⟩) (Kd.R_types HO149.out BK142.out (by decide)) (fun _ hk => hk.2) (.int .i64 t146)) (fun _ hk => hk.2) (.slice Ao23 t147.length co23)) (fun _ hk => trivial), hB⟩

/-! ### spec_l1Cur_sureParty: function 169 -/
mutual
def spec_l1Cur_sureParty.l0 : Nat → Int → List (List Bool) → Int → Int → List Int → Int → Int → Option (Int × (List (S43)) × Int × Int)
 | 0, _, _, _, _, _, _, _ => none
 | k + 1, x1, x5, x6, x7, x1000, x1001, x1002 => if x7 < x1 then (spec_l1Cur_sureParty.l1 k x1 x5 x6 x7 (wrap64 (x7 + 1)) x1000 x1001 x1002) else ((spec_paOf.f k x5).bind fun bt163 => (some (bt163.1, bt163.2, x1001, x1002)))
def spec_l1Cur_sureParty.l1 : Nat → Int → List (List Bool) → Int → Int → Int → List Int → Int → Int → Option (Int × (List (S43)) × Int × Int)
 | 0, _, _, _, _, _, _, _, _ => none
 | k + 1, x1, x5, x6, x7, x8, x1000, x1001, x1002 => if x8 < x1 then ((spec_l1Cur_pick.f x1000 x1001 x1002 5).bind fun bt167 => (if 0 ≤ x7 then (if x7 < (x5.length : Int) then (if 0 ≤ x8 then (if x8 < ((rd_L5 x5 x7).length : Int) then ((some (x5.set (x7 : Int).toNat ((rd_L5 x5 x7).set (x8 : Int).toNat (decide (bt167.1 < x6))) : List (List Bool))).bind fun y173 => (if x8 < (x5.length : Int) then (if x7 < ((rd_L5 y173 x8).length : Int) then (spec_l1Cur_sureParty.l1 k x1 (y173.set (x8 : Int).toNat ((rd_L5 y173 x8).set (x7 : Int).toNat (decide (bt167.1 < x6)))) x6 x7 (wrap64 (x8 + 1)) x1000 bt167.2.1 bt167.2.2) else (none)) else (none))) else (none)) else (none)) else (none)) else (none))) else (spec_l1Cur_sureParty.l0 k x1 x5 x6 (wrap64 (x7 + 1)) x1000 x1001 x1002)
end
def spec_l1Cur_sureParty.f (k : Nat) (s0_0 : List Int) (s0_1 : Int) (s0_2 : Int) (a1 : Int) : Option (Int × (List (S43)) × Int × Int) := (spec_paTable.f k a1 ([] : List (S43))).bind fun t157 => ((spec_l1Cur_pick.f s0_0 s0_1 s0_2 4).bind fun bt160 => (spec_l1Cur_sureParty.l0 k a1 t157 (wrap64 (1 + bt160.1)) 0 s0_0 bt160.2.1 bt160.2.2))
theorem spec_l1Cur_sureParty.mono_l : ∀ k, (∀ y0 y1 y2 y3 y4 y5 y6, LeO (spec_l1Cur_sureParty.l0 k y0 y1 y2 y3 y4 y5 y6) (spec_l1Cur_sureParty.l0 (k + 1) y0 y1 y2 y3 y4 y5 y6)) ∧ (∀ y0 y1 y2 y3 y4 y5 y6 y7, LeO (spec_l1Cur_sureParty.l1 k y0 y1 y2 y3 y4 y5 y6 y7) (spec_l1Cur_sureParty.l1 (k + 1) y0 y1 y2 y3 y4 y5 y6 y7))
 | 0 => ⟨fun _ _ _ _ _ _ _ r h => by simp [spec_l1Cur_sureParty.l0] at h, fun _ _ _ _ _ _ _ _ r h => by simp [spec_l1Cur_sureParty.l1] at h⟩
 | k + 1 => by
  obtain ⟨ih0, ih1⟩ := spec_l1Cur_sureParty.mono_l k
  refine ⟨?_, ?_⟩ <;> intros <;> (first | unfold spec_l1Cur_sureParty.l0 | unfold spec_l1Cur_sureParty.l1)
  all_goals (repeat' first | (with_reducible first | exact ih0 .. | exact ih1 .. | exact spec_paOf.mono .. | exact spec_paTable.mono .. | exact LeO.refl _ | exact LeO.none _ | refine LeO.ite ?_ ?_ | refine LeO.bind ?_ (fun _ => ?_)) | exact ih0 .. | exact ih1 .. | exact spec_paOf.mono .. | exact spec_paTable.mono .. | exact LeO.none _ | refine LeO.ite ?_ ?_ | refine LeO.bind ?_ (fun _ => ?_))
theorem spec_l1Cur_sureParty.mono : ∀ a0 a1 a2 a3 k, LeO (spec_l1Cur_sureParty.f k a0 a1 a2 a3) (spec_l1Cur_sureParty.f (k + 1) a0 a1 a2 a3) := by
 intro a0 a1 a2 a3 k
 obtain ⟨ih0, ih1⟩ := spec_l1Cur_sureParty.mono_l k
 unfold spec_l1Cur_sureParty.f
 repeat' first | (with_reducible first | exact ih0 .. | exact ih1 .. | exact spec_paOf.mono .. | exact spec_paTable.mono .. | exact LeO.refl _ | exact LeO.none _ | refine LeO.ite ?_ ?_ | refine LeO.bind ?_ (fun _ => ?_)) | exact ih0 .. | exact ih1 .. | exact spec_paOf.mono .. | exact spec_paTable.mono .. | exact LeO.none _ | refine LeO.ite ?_ ?_ | refine LeO.bind ?_ (fun _ => ?_)
theorem spec_l1Cur_sureParty.calls (k : Nat) (g : Nat) (s0_0 : List Int) (s0_1 : Int) (s0_2 : Int) (a1 : Int) (r1 : Int) (r2 : List (S43)) (r3 : Int) (r4 : Int) (w0 w : World) (hI : IsS89 w0 w g s0_0 s0_1 s0_2) (hB : Below w0.heap.size w0 w) (h : spec_l1Cur_sureParty.f k s0_0 s0_1 s0_2 a1 = some (r1, r2, r3, r4)) :
  Calls Tryd.prog 169 #[.pointer (some ⟨g, 0, none⟩), .int .i64 a1] w fun e w' => ∃ v1_ : Value, e = .returned (.agg #[.int .i64 r1, v1_]) ∧ Kd.R k43 43 w' w.heap.size (fun _ => True) v1_ r2 ∧ IsS89 w0 w' g s0_0 r3 r4 ∧ Below w0.heap.size w0 w' ∧ KeepBut w w' g none := by
 have hu52 := Tryd.underlying52
 have HI0 := Aside0.mk hI
 have HK := Aside0.mk (KeepBut.refl w g none)
 have HL := Aside0.mk hB.size
 clear hI
 have HW0 := Aside0.mk hB.size
 have HB := Aside0.mk hB
 clear hB
 have H : ((spec_paTable.f k a1 ([] : List (S43))).bind fun t157 => ((spec_l1Cur_pick.f s0_0 s0_1 s0_2 4).bind fun bt160 => (spec_l1Cur_sureParty.l0 k a1 t157 (wrap64 (1 + bt160.1)) 0 s0_0 bt160.2.1 bt160.2.2))) = some (r1, r2, r3, r4) := h
 clear h
 replace H := oB H; obtain ⟨t157, A3, H⟩ := H
 replace H := oB H; obtain ⟨⟨t160, t161, t162⟩, A4, H⟩ := H
 try dsimp only at H
 have H' := Aside0.mk H
 clear H
 go_enter Tryd.func169, Tryd.ntmps169
 go_wp2_with (first | ((with_reducible refine gate_dst (N := 4) rfl ?_); refine bxE 4 #[.int .i64 0, .slice none 0 0] 52 rfl ?_; intro gb156 hg w5 hbox hb; have BK156 := Aside0.mk (hbox); have GW156 := Aside0.mk ((by rw [hg]; exact (keep_size (w := w) (g := g) (row := none) (by repeat (first | (with_reducible first | exact HK.out | apply KeepBut.set_ | apply keep_drewN | apply keep_drew | apply keep_alloc) | exact HK.out))) : w.heap.size ≤ gb156)); have GE156 := Aside0.mk ((Nat.le_trans HW0.out (by rw [hg]; exact (keep_size (w := w) (g := g) (row := none) (by repeat (first | (with_reducible first | exact HK.out | apply KeepBut.set_ | apply keep_drewN | apply keep_drew | apply keep_alloc) | exact HK.out))) : w.heap.size ≤ gb156) : w0.heap.size ≤ gb156)); have NB0_156 := Aside0.mk ((by rw [hg]; exact Nat.ne_of_lt (IsS89.lt (show IsS89 w0 _ g s0_0 s0_1 s0_2 from by repeat (first | (with_reducible first | exact HI0.out | apply IsS89.alloc | apply IsS89.drewN | apply IsS89.drew | apply IsS89.set_1 | apply IsS89.set_2) | exact HI0.out))) : g ≠ gb156)); have NB156_0 := Aside0.mk ((by rw [hg]; exact Nat.ne_of_gt (IsS89.lt (show IsS89 w0 _ g s0_0 s0_1 s0_2 from by repeat (first | (with_reducible first | exact HI0.out | apply IsS89.alloc | apply IsS89.drewN | apply IsS89.drew | apply IsS89.set_1 | apply IsS89.set_2) | exact HI0.out))) : gb156 ≠ g)); replace HK := Aside0.mk (KeepBut.trans (by repeat (first | (with_reducible first | exact HK.out | apply KeepBut.set_ | apply keep_drewN | apply keep_drew | apply keep_alloc) | exact HK.out)) (KeepBut.of_below hb g none) (.inl rfl)); replace HB := Aside0.mk (below_step (by repeat (first | (with_reducible first | exact HB.out | apply below_alloc | apply pw_below_drewN | apply below_drew1 | refine below_set ?_ (IsS89.ge HI0.out)) | exact HB.out)) hb); replace HI0 := Aside0.mk (IsS89.below (by repeat (first | (with_reducible first | exact HI0.out | apply IsS89.alloc | apply IsS89.drewN | apply IsS89.drew | apply IsS89.set_1 | apply IsS89.set_2) | exact HI0.out)) hb); clear hb hbox hg) | ((with_reducible refine gate_callee (f := 105) rfl ?_); refine goC (N := some 12) Tryd.func105 #[.agg #[.int .i64 a1, .slice none 0 0]] rfl ?_; (refine (spec_paTable.calls k a1 _ _ ([] : List (S43)) t157 _ ?side1 ?side2 A3.out).mono ?_); (case side1 => exact Kd.C_nil _ _); (case side2 => exact Nat.le_refl _); rintro e w6 ⟨v158, rfl, ho0, hb⟩; refine ⟨_, rfl, ?_⟩; have HO159 := Aside0.mk (Kd.S_lower ho0 (keep_size (w := w) (g := g) (row := none) (by repeat (first | (with_reducible first | exact HK.out | apply KeepBut.set_ | apply keep_drewN | apply keep_drew | apply keep_alloc | refine keep_far ?_ GW156.out _) | exact HK.out)))); replace BK156 := bS BK156 hb; replace HK := Aside0.mk (KeepBut.trans (by repeat (first | (with_reducible first | exact HK.out | apply KeepBut.set_ | apply keep_drewN | apply keep_drew | apply keep_alloc | refine keep_far ?_ GW156.out _) | exact HK.out)) (KeepBut.of_below hb g none) (.inl rfl)); replace HB := Aside0.mk (below_step (by repeat (first | (with_reducible first | exact HB.out | apply below_alloc | apply pw_below_drewN | apply below_drew1 | refine below_set ?_ (IsS89.ge HI0.out) | refine below_set ?_ GE156.out) | exact HB.out)) hb); replace HI0 := Aside0.mk (IsS89.below (by repeat (first | (with_reducible first | exact HI0.out | apply IsS89.alloc | apply IsS89.drewN | apply IsS89.drew | apply IsS89.set_1 | apply IsS89.set_2 | refine IsS89.far ?_ NB0_156.out _) | exact HI0.out)) hb); (try clear hb ho0)) | ((with_reducible refine gate_callee (f := 93) rfl ?_); refine goC (N := some 14) Tryd.func93 #[.pointer (some ⟨g, 0, none⟩), .int .i64 4] rfl ?_; (with_reducible refine (spec_l1Cur_pick.calls g s0_0 s0_1 s0_2 4 t160 t161 t162 w0 _ ?side1 ?side2 A4.out).mono ?_); (case side1 => repeat (first | (with_reducible first | exact HI0.out | apply IsS89.alloc | apply IsS89.drewN | apply IsS89.drew | apply IsS89.set_1 | apply IsS89.set_2 | refine IsS89.far ?_ NB0_156.out _) | exact HI0.out)); (case side2 => repeat (first | (with_reducible first | exact HB.out | apply below_alloc | apply pw_below_drewN | apply below_drew1 | refine below_set ?_ (IsS89.ge HI0.out) | refine below_set ?_ GE156.out) | exact HB.out)); rintro e w7 ⟨rfl, hi, hb, hk⟩; refine ⟨_, rfl, ?_⟩; replace BK156 := Aside0.mk (KeepBut.blk hk (g' := gb156) (o := .cells #[.int .i64 0, .slice none 0 0] 52 (0, 0)) bK NB156_0.out (by simp)); replace HO159 := Aside0.mk (Kd.S_mono (Kd.S_keep (IsS89.apartS (show IsS89 w0 _ g s0_0 s0_1 s0_2 from by repeat (first | (with_reducible first | exact HI0.out | apply IsS89.alloc | apply IsS89.drewN | apply IsS89.drew | apply IsS89.set_1 | apply IsS89.set_2 | refine IsS89.far ?_ NB0_156.out _) | exact HI0.out)) (sU HO159) (by decide)) hk (fun _ h => h.2)) (fun _ h => h.1)); replace HK := Aside0.mk (KeepBut.trans (by repeat (first | (with_reducible first | exact HK.out | apply KeepBut.set_ | apply keep_drewN | apply keep_drew | apply keep_alloc | refine keep_far ?_ GW156.out _) | exact HK.out)) hk (.inl rfl)); replace HI0 := Aside0.mk (hi); replace HB := Aside0.mk (hb); (try clear hb)))
 go_loopg [7] k (fun kq v7 w' => ∃ (x5_1 : List (List Bool)) (x7_1 : Int) (x1001_1 : Int) (x1002_1 : Int), v7 = .int .i64 x7_1 ∧ Aside0 (spec_l1Cur_sureParty.l0 kq a1 x5_1 (wrap64 (1 + t160)) x7_1 s0_0 x1001_1 x1002_1 = some (r1, r2, r3, r4)) ∧ Aside0 (kq ≤ k) ∧ Aside0 (Kd.S (Kd.slice 4 Kd.bool) 66 w' w.heap.size (fun _ => True) v158 x5_1) ∧ Aside0 (w'.heap[gb156]? = some (.cells #[.int .i64 0, (.slice none 0 0)] 52 (0, 0))) ∧ Aside0 (IsS89 w0 w' g s0_0 x1001_1 x1002_1) ∧ Aside0 (KeepBut w w' g none) ∧ Aside0 (Below w0.heap.size w0 w'))
 case atStart => exact ⟨(t157), (0), (t161), (t162), sR, H', ⟨Nat.le_refl _⟩, ⟨sU HO159⟩, ⟨bK⟩, ⟨by repeat (first | (with_reducible first | exact HI0.out | apply IsS89.alloc | apply IsS89.drewN | apply IsS89.drew | apply IsS89.set_1 | apply IsS89.set_2 | refine IsS89.far ?_ NB0_156.out _) | exact HI0.out)⟩, ⟨by repeat (first | (with_reducible first | exact HK.out | apply KeepBut.set_ | apply keep_drewN | apply keep_drew | apply keep_alloc | refine keep_far ?_ GW156.out _) | exact HK.out)⟩, ⟨by repeat (first | (with_reducible first | exact HB.out | apply below_alloc | apply pw_below_drewN | apply below_drew1 | refine below_set ?_ (IsS89.ge HI0.out) | refine below_set ?_ GE156.out) | exact HB.out)⟩⟩
 case round =>
  clear H'
  obtain ⟨x5_1, x7_1, x1001_1, x1002_1, rfl, HA, HK1, HO_5, BK156, HI0, HK, HB⟩ := hrel
  cases gk with
  | zero => exact absurd HA.out (by simp [spec_l1Cur_sureParty.l0])
  | succ k1 =>
   have H := HA.out
   clear HA
   simp only [spec_l1Cur_sureParty.l0] at H
   by_cases c8 : x7_1 < a1
   ·rw [if_pos c8] at H
    have c8b0 := decide_eq_true c8
    clear c8
    have H' := Aside0.mk H
    clear H
    go_wp2
    go_loopg [8] k1 (fun kq v8 w' => ∃ (x5_2 : List (List Bool)) (x8_2 : Int) (x1001_2 : Int) (x1002_2 : Int), v8 = .int .i64 x8_2 ∧ Aside0 (spec_l1Cur_sureParty.l1 kq a1 x5_2 (wrap64 (1 + t160)) x7_1 x8_2 s0_0 x1001_2 x1002_2 = some (r1, r2, r3, r4)) ∧ Aside0 (kq ≤ k1) ∧ Aside0 (Kd.S (Kd.slice 4 Kd.bool) 66 w' w.heap.size (fun _ => True) v158 x5_2) ∧ Aside0 (w'.heap[gb156]? = some (.cells #[.int .i64 0, (.slice none 0 0)] 52 (0, 0))) ∧ Aside0 (IsS89 w0 w' g s0_0 x1001_2 x1002_2) ∧ Aside0 (KeepBut w w' g none) ∧ Aside0 (Below w0.heap.size w0 w'))
    case atStart => exact ⟨(x5_1), (wrap64 (x7_1 + 1)), (x1001_1), (x1002_1), sR, H', ⟨Nat.le_refl _⟩, ⟨sU HO_5⟩, ⟨bK⟩, ⟨by repeat (first | (with_reducible first | exact HI0.out | apply IsS89.alloc | apply IsS89.drewN | apply IsS89.drew | apply IsS89.set_1 | apply IsS89.set_2 | refine IsS89.far ?_ NB0_156.out _) | exact HI0.out)⟩, ⟨by repeat (first | (with_reducible first | exact HK.out | apply KeepBut.set_ | apply keep_drewN | apply keep_drew | apply keep_alloc | refine keep_far ?_ GW156.out _) | exact HK.out)⟩, ⟨by repeat (first | (with_reducible first | exact HB.out | apply below_alloc | apply pw_below_drewN | apply below_drew1 | refine below_set ?_ (IsS89.ge HI0.out) | refine below_set ?_ GE156.out) | exact HB.out)⟩⟩
    case round =>
     clear H'
     (try clear c8); (try clear c8b0)
     obtain ⟨x5_2, x8_2, x1001_2, x1002_2, rfl, HA, HK2, HO_5, BK156, HI0, HK, HB⟩ := hrel
     cases gk with
     | zero => exact absurd HA.out (by simp [spec_l1Cur_sureParty.l1])
     | succ k2 =>
      have H := HA.out
      clear HA
      simp only [spec_l1Cur_sureParty.l1] at H
      by_cases c9 : x8_2 < a1
      ·rw [if_pos c9] at H
       have c9b0 := decide_eq_true c9
       clear c9
       replace H := oB H; obtain ⟨⟨t167, t168, t169⟩, A10, H⟩ := H
       try dsimp only at H
       replace H := ifD H; obtain ⟨c11b0, H⟩ := H
       replace H := ifD H; obtain ⟨c12b0, H⟩ := H
       replace H := ifD H; obtain ⟨c13b0, H⟩ := H
       replace H := ifD H; obtain ⟨c14b0, H⟩ := H
       obtain ⟨y171, hy171⟩ : ∃ y_ : List Bool, y_ = ((rd_L5 x5_2 x7_1).set (x8_2 : Int).toNat (decide (t167 < (wrap64 (1 + t160))))) := ⟨_, rfl⟩
       replace H : ((some (x5_2.set (x7_1 : Int).toNat y171 : List (List Bool))).bind fun y173 => (if x8_2 < (x5_2.length : Int) then (if x7_1 < ((rd_L5 y173 x8_2).length : Int) then (spec_l1Cur_sureParty.l1 k2 a1 (y173.set (x8_2 : Int).toNat ((rd_L5 y173 x8_2).set (x7_1 : Int).toNat (decide (t167 < (wrap64 (1 + t160)))))) (wrap64 (1 + t160)) x7_1 (wrap64 (x8_2 + 1)) s0_0 t168 t169) else (none)) else (none))) = some (r1, r2, r3, r4) := by first | (rw [hy171]; with_reducible exact H) | (have H2_ := (Option.bind_some _ _).symm.trans H; rw [hy171]; with_reducible exact H2_) | (have H2_ := (Option.bind_some _ _).symm.trans H; with_reducible exact H2_) | with_reducible exact H | (rw [hy171]; exact H) | exact H
       have Ny171 := Aside0.mk hy171
       clear hy171
       obtain ⟨y173, hy173⟩ : ∃ y_ : List (List Bool), y_ = (x5_2.set (x7_1 : Int).toNat y171) := ⟨_, rfl⟩
       replace H : (if x8_2 < (x5_2.length : Int) then (if x7_1 < ((rd_L5 y173 x8_2).length : Int) then (spec_l1Cur_sureParty.l1 k2 a1 (y173.set (x8_2 : Int).toNat ((rd_L5 y173 x8_2).set (x7_1 : Int).toNat (decide (t167 < (wrap64 (1 + t160)))))) (wrap64 (1 + t160)) x7_1 (wrap64 (x8_2 + 1)) s0_0 t168 t169) else (none)) else (none)) = some (r1, r2, r3, r4) := by first | (rw [hy173]; with_reducible exact H) | (have H2_ := (Option.bind_some _ _).symm.trans H; rw [hy173]; with_reducible exact H2_) | (have H2_ := (Option.bind_some _ _).symm.trans H; with_reducible exact H2_) | with_reducible exact H | (rw [hy173]; exact H) | exact H
       have Ny173 := Aside0.mk hy173
       clear hy173
       replace H := ifD H; obtain ⟨c16b0, H⟩ := H
       replace H := ifD H; obtain ⟨c17b0, H⟩ := H
       obtain ⟨y175, hy175⟩ : ∃ y_ : List Bool, y_ = ((rd_L5 y173 x8_2).set (x7_1 : Int).toNat (decide (t167 < (wrap64 (1 + t160))))) := ⟨_, rfl⟩
       replace H : (spec_l1Cur_sureParty.l1 k2 a1 (y173.set (x8_2 : Int).toNat y175) (wrap64 (1 + t160)) x7_1 (wrap64 (x8_2 + 1)) s0_0 t168 t169) = some (r1, r2, r3, r4) := by first | (rw [hy175]; with_reducible exact H) | (have H2_ := (Option.bind_some _ _).symm.trans H; rw [hy175]; with_reducible exact H2_) | (have H2_ := (Option.bind_some _ _).symm.trans H; with_reducible exact H2_) | with_reducible exact H | (rw [hy175]; exact H) | exact H
       have Ny175 := Aside0.mk hy175
       clear hy175
       obtain ⟨y177, hy177⟩ : ∃ y_ : List (List Bool), y_ = (y173.set (x8_2 : Int).toNat y175) := ⟨_, rfl⟩
       replace H : (spec_l1Cur_sureParty.l1 k2 a1 y177 (wrap64 (1 + t160)) x7_1 (wrap64 (x8_2 + 1)) s0_0 t168 t169) = some (r1, r2, r3, r4) := by first | (rw [hy177]; with_reducible exact H) | (have H2_ := (Option.bind_some _ _).symm.trans H; rw [hy177]; with_reducible exact H2_) | (have H2_ := (Option.bind_some _ _).symm.trans H; with_reducible exact H2_) | with_reducible exact H | (rw [hy177]; exact H) | exact H
       have Ny177 := Aside0.mk hy177
       clear hy177
       have H' := Aside0.mk H
       clear H
       go_wp2_with (first | ((with_reducible refine gate_callee (f := 93) rfl ?_); refine goC (N := some 29) Tryd.func93 #[.pointer (some ⟨g, 0, none⟩), .int .i64 5] rfl ?_; (with_reducible refine (spec_l1Cur_pick.calls g s0_0 x1001_2 x1002_2 5 t167 t168 t169 w0 _ ?side1 ?side2 A10.out).mono ?_); (case side1 => repeat (first | (with_reducible first | exact HI0.out | apply IsS89.alloc | apply IsS89.drewN | apply IsS89.drew | apply IsS89.set_1 | apply IsS89.set_2 | refine IsS89.far ?_ NB0_156.out _) | exact HI0.out)); (case side2 => repeat (first | (with_reducible first | exact HB.out | apply below_alloc | apply pw_below_drewN | apply below_drew1 | refine below_set ?_ (IsS89.ge HI0.out) | refine below_set ?_ GE156.out) | exact HB.out)); rintro e w19 ⟨rfl, hi, hb, hk⟩; refine ⟨_, rfl, ?_⟩; replace HO_5 := Aside0.mk (Kd.S_mono (Kd.S_keep (IsS89.apartS (show IsS89 w0 _ g s0_0 x1001_2 x1002_2 from by repeat (first | (with_reducible first | exact HI0.out | apply IsS89.alloc | apply IsS89.drewN | apply IsS89.drew | apply IsS89.set_1 | apply IsS89.set_2 | refine IsS89.far ?_ NB0_156.out _) | exact HI0.out)) (sU HO_5) (by decide)) hk (fun _ h => h.2)) (fun _ h => h.1)); replace BK156 := Aside0.mk (KeepBut.blk hk (g' := gb156) (o := .cells #[.int .i64 0, .slice none 0 0] 52 (0, 0)) bK NB156_0.out (by simp)); replace HK := Aside0.mk (KeepBut.trans (by repeat (first | (with_reducible first | exact HK.out | apply KeepBut.set_ | apply keep_drewN | apply keep_drew | apply keep_alloc | refine keep_far ?_ GW156.out _) | exact HK.out)) hk (.inl rfl)); replace HI0 := Aside0.mk (hi); replace HB := Aside0.mk (hb); (try clear hb); obtain ⟨Ao20, co20, eo20⟩ := Kd.S_slice HO_5.out; subst eo20; have p170 : 0 ≤ (x7_1 : Int) := of_decide_eq_true (by first | (with_reducible assumption) | assumption); have q170 : x7_1 < (x5_2.length : Int) := of_decide_eq_true (by first | (with_reducible assumption) | assumption); obtain ⟨ad170, A170_0, c170_0, e170, hx170_0, hl170_0, hi170_0⟩ := at_L5 (Kd.S_reads' HO_5.out).2.2 x7_1 p170 q170; cases e170; obtain ⟨ce170, hce170, hMe170, hcc170⟩ := Kd.S_get HO_5.out [] x7_1 p170 (by first | exact q170 | exact of_decide_eq_true (by first | (with_reducible assumption) | assumption) | (have e_ := (Kd.S_reads' HO_5.out).1; omega)); obtain ⟨ve170_0, rfl, ge170_0⟩ := hMe170; have hv170_0 := hcc170 0 _ rfl; rw [Nat.add_zero, show ((Kd.slice 4 Kd.bool)).sz = 1 from rfl, Nat.mul_one] at hv170_0; replace hv170_0 := Option.some.inj (hv170_0.symm.trans hx170_0); rw [hv170_0] at ge170_0; have HL170_0 := Aside0.mk (show Kd.R Kd.bool 4 _ _ _ _ (rd_L5 x5_2 x7_1) from ge170_0); clear hv170_0 ge170_0; have HX170_0 := Aside0.mk hx170_0; clear hcc170 hce170; have HR170_0 := Aside0.mk hi170_0; have HC170_0 := Aside0.mk hl170_0; clear hi170_0 hl170_0; replace p170 := eq_true p170; replace q170 := eq_true q170; have p15 : 0 ≤ (x8_2 : Int) := of_decide_eq_true (by first | (with_reducible assumption) | assumption); have q15 : (x8_2 : Int) < (((rd_L5 x5_2 x7_1).length : Int) : Int) := of_decide_eq_true (by first | (with_reducible assumption) | assumption); obtain ⟨go15, co15, eo15, gb15, gl15, cl15, HG15⟩ := Kd.R_form HL170_0.out (by omega); (first | cases eo15 | (injection eo15 with ea_ en_ ec_; (first | subst ea_ | (injection ea_ with ea_; subst ea_)); subst ec_; clear en_)); have GB15 := Aside0.mk gb15; have GG15 := Aside0.mk HG15; clear gb15 gl15 HG15; obtain ⟨hx15_0, hf15_0⟩ := Kd.R_celln false HL170_0.out (x8_2 : Int) p15 q15; replace p15 := eq_true p15; replace q15 := eq_true q15; have hq21 : (x7_1 : Int) < (x5_2.length : Int) := (by have h_ : (x7_1 : Int) < ((x5_2.length : Int) : Int) := of_decide_eq_true (by first | (with_reducible assumption) | assumption); first | exact h_ | (have e_ := (Kd.S_reads' HO_5.out).1; omega) | simpa only [List.length_set, List.length_set] using h_); obtain ⟨oki21, ce21, hcl21, hM21, hcc21, hok21, hbk21⟩ := Kd.S_borrow HO_5.out [] (x7_1 : Int) (of_decide_eq_true (by first | (with_reducible assumption) | assumption)) (by first | exact hq21 | (have e_ := (Kd.S_reads' HO_5.out).1; omega)); obtain ⟨ve21_0, rfl, ge21_0⟩ := hM21; have hv21 := hcc21 0 _ rfl; rw [Nat.add_zero, show ((Kd.slice 4 Kd.bool)).sz = 1 from rfl, Nat.mul_one] at hv21; replace hv21 := Option.some.inj (hv21.symm.trans HX170_0.out); subst hv21; clear hcc21 hcl21; replace ge21_0 := (show Kd.R Kd.bool 4 _ _ _ _ (rd_L5 x5_2 x7_1) from ge21_0); have HP21 := Kd.R_putg ge21_0 (x8_2 : Int) (decide (t167 < (wrap64 (1 + t160))))) | ((with_reducible refine gate_store (t := 4) (p := 38) rfl ?_); refine store_event (t := 4) (p := 38) (v := ?vo_w22) (w1 := (w19.setCell ⟨go15, (x8_2 : Int).toNat, none⟩ (.bool (decide (t167 < (wrap64 (1 + t160))))))) ?hg ?ho ?hn ?hr ?_; (case ho => rfl); (case hg => rfl); (case hn => rfl); (case hr => first | (go_simp; done) | (go_simp; rfl)); intro w22 hw; have hg : w19.grownBy w22 (some go15) := (by rw [hw]; exact HP21.2); have hz_ : Kd.R Kd.bool 4 w22 w.heap.size oki21 (.slice (some ⟨go15, 0, none⟩) (rd_L5 x5_2 x7_1).length c170_0) y171 := (by rw [hw, Ny171.out]; exact HP21.1); have hp_ : Kd.S (Kd.slice 4 Kd.bool) 66 w22 w.heap.size (fun _ => True) (.slice (some ad170) x5_2.length co20) y173 := (by rw [Ny173.out]; exact hbk21 hg (fun k_ e_ => by injection e_ with e_; subst e_; exact ge21_0.1 _ rfl) (Kd.M_row hz_)); have hm_ := Kd.R_mono hz_ hok21; clear HP21 hbk21; have HL178 := Aside0.mk (hm_); have HC172 := Aside0.mk ((Kd.R_reads' hm_).2.1); replace HO_5 := Aside0.mk (hp_); replace BK156 := Aside0.mk (blk_grown (g := gb156) (o := .cells #[.int .i64 0, .slice none 0 0] 52 (0, 0)) bK hg (Kd.R_ne HL170_0.out BK156.out (by decide))); replace HI0 := Aside0.mk (IsS89.grown (by repeat (first | (with_reducible first | exact HI0.out | apply IsS89.alloc | apply IsS89.drewN | apply IsS89.drew | apply IsS89.set_1 | apply IsS89.set_2 | refine IsS89.far ?_ NB0_156.out _) | exact HI0.out)) hg (IsS89.own_ne HI0.out HL170_0.out (by decide))); replace HK := Aside0.mk (KeepBut.trans (by repeat (first | (with_reducible first | exact HK.out | apply KeepBut.set_ | apply keep_drewN | apply keep_drew | apply keep_alloc | refine keep_far ?_ GW156.out _) | exact HK.out)) (KeepBut.of_grown hg g) (Kd.R_base2 HL170_0.out)); replace HB := Aside0.mk ((by rw [hw]; exact below_set (HB.out) (Nat.le_trans HL.out GB15.out) : Below w0.heap.size w0 w22)); clear HL170_0; clear hg hw hp_ hz_ hm_ hok21; have p174 : 0 ≤ (x8_2 : Int) := of_decide_eq_true (by first | (with_reducible assumption) | assumption); have q174 : x8_2 < (y173.length : Int) := (by have h_ : (x8_2 : Int) < ((x5_2.length : Int) : Int) := of_decide_eq_true (by first | (with_reducible assumption) | assumption); first | (have e_ := (Kd.S_reads' HO_5.out).1; omega) | simpa only [Ny173.out, List.length_set] using h_); have ql174 : ((x8_2 : Int) < ((x5_2.length : Int) : Int)) = True := eq_true (of_decide_eq_true (by first | (with_reducible assumption) | assumption)); obtain ⟨ad174, A174_0, c174_0, e174, hx174_0, hl174_0, hi174_0⟩ := at_L5 (Kd.S_reads' HO_5.out).2.2 x8_2 p174 q174; obtain rfl : ad170 = ad174 := (by injection e174); obtain ⟨ce174, hce174, hMe174, hcc174⟩ := Kd.S_get HO_5.out [] x8_2 p174 (by first | exact q174 | exact of_decide_eq_true (by first | (with_reducible assumption) | assumption) | (have e_ := (Kd.S_reads' HO_5.out).1; omega)); obtain ⟨ve174_0, rfl, ge174_0⟩ := hMe174; have hv174_0 := hcc174 0 _ rfl; rw [Nat.add_zero, show ((Kd.slice 4 Kd.bool)).sz = 1 from rfl, Nat.mul_one] at hv174_0; replace hv174_0 := Option.some.inj (hv174_0.symm.trans hx174_0); rw [hv174_0] at ge174_0; have HL174_0 := Aside0.mk (show Kd.R Kd.bool 4 _ _ _ _ (rd_L5 y173 x8_2) from ge174_0); clear hv174_0 ge174_0; have HX174_0 := Aside0.mk hx174_0; clear hcc174 hce174; have HR174_0 := Aside0.mk hi174_0; have HC174_0 := Aside0.mk hl174_0; clear hi174_0 hl174_0; replace p174 := eq_true p174; replace q174 := eq_true q174; have p18 : 0 ≤ (x7_1 : Int) := of_decide_eq_true (by first | (with_reducible assumption) | assumption); have q18 : (x7_1 : Int) < (((rd_L5 y173 x8_2).length : Int) : Int) := of_decide_eq_true (by first | (with_reducible assumption) | assumption); obtain ⟨go18, co18, eo18, gb18, gl18, cl18, HG18⟩ := Kd.R_form HL174_0.out (by omega); (first | cases eo18 | (injection eo18 with ea_ en_ ec_; (first | subst ea_ | (injection ea_ with ea_; subst ea_)); subst ec_; clear en_)); have GB18 := Aside0.mk gb18; have GG18 := Aside0.mk HG18; clear gb18 gl18 HG18; obtain ⟨hx18_0, hf18_0⟩ := Kd.R_celln false HL174_0.out (x7_1 : Int) p18 q18; replace p18 := eq_true p18; replace q18 := eq_true q18; have hq23 : (x8_2 : Int) < (y173.length : Int) := (by have h_ : (x8_2 : Int) < ((x5_2.length : Int) : Int) := of_decide_eq_true (by first | (with_reducible assumption) | assumption); first | exact h_ | (have e_ := (Kd.S_reads' HO_5.out).1; omega) | simpa only [Ny173.out, List.length_set] using h_); obtain ⟨oki23, ce23, hcl23, hM23, hcc23, hok23, hbk23⟩ := Kd.S_borrow HO_5.out [] (x8_2 : Int) (of_decide_eq_true (by first | (with_reducible assumption) | assumption)) (by first | exact hq23 | (have e_ := (Kd.S_reads' HO_5.out).1; omega)); obtain ⟨ve23_0, rfl, ge23_0⟩ := hM23; have hv23 := hcc23 0 _ rfl; rw [Nat.add_zero, show ((Kd.slice 4 Kd.bool)).sz = 1 from rfl, Nat.mul_one] at hv23; replace hv23 := Option.some.inj (hv23.symm.trans HX174_0.out); subst hv23; clear hcc23 hcl23; replace ge23_0 := (show Kd.R Kd.bool 4 _ _ _ _ (rd_L5 y173 x8_2) from ge23_0); have HP23 := Kd.R_putg ge23_0 (x7_1 : Int) (decide (t167 < (wrap64 (1 + t160))))) | ((with_reducible refine gate_store (t := 4) (p := 45) rfl ?_); refine store_event (t := 4) (p := 45) (v := ?vo_w24) (w1 := (w22.setCell ⟨go18, (x7_1 : Int).toNat, none⟩ (.bool (decide (t167 < (wrap64 (1 + t160))))))) ?hg ?ho ?hn ?hr ?_; (case ho => rfl); (case hg => rfl); (case hn => rfl); (case hr => first | (go_simp; done) | (go_simp; rfl)); intro w24 hw; have hg : w22.grownBy w24 (some go18) := (by rw [hw]; exact HP23.2); have hz_ : Kd.R Kd.bool 4 w24 w.heap.size oki23 (.slice (some ⟨go18, 0, none⟩) (rd_L5 y173 x8_2).length c174_0) y175 := (by rw [hw, Ny175.out]; exact HP23.1); have hp_ : Kd.S (Kd.slice 4 Kd.bool) 66 w24 w.heap.size (fun _ => True) (.slice (some ad170) x5_2.length co20) y177 := (by rw [Ny177.out]; exact hbk23 hg (fun k_ e_ => by injection e_ with e_; subst e_; exact ge23_0.1 _ rfl) (Kd.M_row hz_)); have hm_ := Kd.R_mono hz_ hok23; clear HP23 hbk23; have HL179 := Aside0.mk (hm_); have HC176 := Aside0.mk ((Kd.R_reads' hm_).2.1); replace HO_5 := Aside0.mk (hp_); replace BK156 := Aside0.mk (blk_grown (g := gb156) (o := .cells #[.int .i64 0, .slice none 0 0] 52 (0, 0)) bK hg (Kd.R_ne HL174_0.out BK156.out (by decide))); replace HI0 := Aside0.mk (IsS89.grown (by repeat (first | (with_reducible first | exact HI0.out | apply IsS89.alloc | apply IsS89.drewN | apply IsS89.drew | apply IsS89.set_1 | apply IsS89.set_2 | refine IsS89.far ?_ NB0_156.out _) | exact HI0.out)) hg (IsS89.own_ne HI0.out HL174_0.out (by decide))); replace HK := Aside0.mk (KeepBut.trans (by repeat (first | (with_reducible first | exact HK.out | apply KeepBut.set_ | apply keep_drewN | apply keep_drew | apply keep_alloc | refine keep_far ?_ GW156.out _) | exact HK.out)) (KeepBut.of_grown hg g) (Kd.R_base2 HL174_0.out)); replace HB := Aside0.mk ((by rw [hw]; exact below_set (HB.out) (Nat.le_trans HL.out GB18.out) : Below w0.heap.size w0 w24)); clear HL178; clear HL174_0; clear hg hw hp_ hz_ hm_ hok23))
       go_roundg k2
       case measure => have := HK1.out; have := HK2.out; omega
       case rel => exact ⟨(y177), (wrap64 (x8_2 + 1)), (t168), (t169), sR, H', ⟨by have := HK1.out; have := HK2.out; omega⟩, ⟨sU HO_5⟩, ⟨bK⟩, ⟨by repeat (first | (with_reducible first | exact HI0.out | apply IsS89.alloc | apply IsS89.drewN | apply IsS89.drew | apply IsS89.set_1 | apply IsS89.set_2 | refine IsS89.far ?_ NB0_156.out _) | exact HI0.out)⟩, ⟨by repeat (first | (with_reducible first | exact HK.out | apply KeepBut.set_ | apply keep_drewN | apply keep_drew | apply keep_alloc | refine keep_far ?_ GW156.out _) | exact HK.out)⟩, ⟨by repeat (first | (with_reducible first | exact HB.out | apply below_alloc | apply pw_below_drewN | apply below_drew1 | refine below_set ?_ (IsS89.ge HI0.out) | refine below_set ?_ GE156.out) | exact HB.out)⟩⟩
      ·rw [if_neg c9] at H
       have c9b0 := decide_eq_false c9
       clear c9
       have H' := Aside0.mk H
       clear H
       go_wp2
       go_roundg k2
       case measure => have := HK1.out; have := HK2.out; omega
       case rel => exact ⟨(x5_2), (wrap64 (x7_1 + 1)), (x1001_2), (x1002_2), sR, H', ⟨by have := HK1.out; have := HK2.out; omega⟩, ⟨sU HO_5⟩, ⟨bK⟩, ⟨by repeat (first | (with_reducible first | exact HI0.out | apply IsS89.alloc | apply IsS89.drewN | apply IsS89.drew | apply IsS89.set_1 | apply IsS89.set_2 | refine IsS89.far ?_ NB0_156.out _) | exact HI0.out)⟩, ⟨by repeat (first | (with_reducible first | exact HK.out | apply KeepBut.set_ | apply keep_drewN | apply keep_drew | apply keep_alloc | refine keep_far ?_ GW156.out _) | exact HK.out)⟩, ⟨by repeat (first | (with_reducible first | exact HB.out | apply below_alloc | apply pw_below_drewN | apply below_drew1 | refine below_set ?_ (IsS89.ge HI0.out) | refine below_set ?_ GE156.out) | exact HB.out)⟩⟩
   ·rw [if_neg c8] at H
    have c8b0 := decide_eq_false c8
    clear c8
    replace H := oB H; obtain ⟨⟨t163, t164⟩, A25, H⟩ := H
    try dsimp only at H
    simp only [Option.some.injEq, Prod.mk.injEq] at H
    obtain ⟨rfl, rfl, rfl, rfl⟩ := H
    obtain ⟨Ao26, co26, eo26⟩ := Kd.S_slice HO_5.out
    subst eo26
    go_wp2_with (first | ((with_reducible refine gate_callee (f := 160) rfl ?_); refine goC (N := some 47) Tryd.func160 #[.slice Ao26 x5_1.length co26] rfl ?_; (with_reducible refine (spec_paOf.calls k1 _ _ x5_1 t163 t164 _ ?side1 ?side2 A25.out).mono ?_); (case side1 => exact cS (Kd.S_reads' HO_5.out).2.2); (case side2 => exact (Kd.S_reads' HO_5.out).2.1); rintro e w27 ⟨v165, rfl, ho0, hb⟩; refine ⟨_, rfl, ?_⟩; have HO166 := Aside0.mk (Kd.R_lower ho0 (keep_size (w := w) (g := g) (row := none) (by repeat (first | (with_reducible first | exact HK.out | apply KeepBut.set_ | apply keep_drewN | apply keep_drew | apply keep_alloc | refine keep_far ?_ GW156.out _) | exact HK.out)))); replace HO_5 := Aside0.mk (Kd.S_below (sU HO_5) hb); replace BK156 := bS BK156 hb; replace HK := Aside0.mk (KeepBut.trans (by repeat (first | (with_reducible first | exact HK.out | apply KeepBut.set_ | apply keep_drewN | apply keep_drew | apply keep_alloc | refine keep_far ?_ GW156.out _) | exact HK.out)) (KeepBut.of_below hb g none) (.inl rfl)); replace HB := Aside0.mk (below_step (by repeat (first | (with_reducible first | exact HB.out | apply below_alloc | apply pw_below_drewN | apply below_drew1 | refine below_set ?_ (IsS89.ge HI0.out) | refine below_set ?_ GE156.out) | exact HB.out)) hb); replace HI0 := Aside0.mk (IsS89.below (by repeat (first | (with_reducible first | exact HI0.out | apply IsS89.alloc | apply IsS89.drewN | apply IsS89.drew | apply IsS89.set_1 | apply IsS89.set_2 | refine IsS89.far ?_ NB0_156.out _) | exact HI0.out)) hb); (try clear hb ho0); have hnb28 := NB156_0.out; have hnc28 := NB0_156.out; obtain ⟨hcz29_0, hcz29_1, hfz29_0, hfz29_1⟩ := cf2 BK156; obtain ⟨Ao30, co30, eo30⟩ := Kd.R_slice HO166.out; subst eo30))
    refine bodyPost_ret (results_cell_row rfl _ _ gb156 52 #[.int .i64 t163, .slice Ao30 t164.length co30] (0, 0) _ rfl (by (with_reducible repeat (first | refine blk_drewN ?_ _ | refine blk_drew ?_ | refine blk_alloc ?_ _)); refine blk_put (cs := #[.int .i64 t163, .slice none 0 0]) ?_ 1 _ rfl; (with_reducible repeat (first | refine blk_drewN ?_ _ | refine blk_drew ?_ | refine blk_alloc ?_ _)); refine blk_put (cs := #[.int .i64 0, .slice none 0 0]) ?_ 0 _ rfl; (with_reducible repeat (first | refine blk_drewN ?_ _ | refine blk_drew ?_ | refine blk_alloc ?_ _)); exact BK156.out) Tryd.underlying52 rfl (by kernel_rfl)) rfl ?_
    exact ⟨_, eW, by (with_reducible repeat (first | apply Kd.R_alloc | apply Kd.R_drewN | apply Kd.R_drew)); exact Kd.R_mono (Kd.R_far (p := ⟨gb156, 1, none⟩) (Kd.R_far (p := ⟨gb156, 0, none⟩) (Kd.R_types HO166.out BK156.out (by decide)) (fun _ hk => hk.2) (.int .i64 t163)) (fun _ hk => hk.2) (.slice Ao30 t164.length co30)) (fun _ hk => trivial), by repeat (first | (with_reducible first | exact HI0.out | apply IsS89.alloc | apply IsS89.drewN | apply IsS89.drew | apply IsS89.set_1 | apply IsS89.set_2 | refine IsS89.far ?_ NB0_156.out _) | exact HI0.out), by repeat (first | (with_reducible first | exact HB.out | apply below_alloc | apply pw_below_drewN | apply below_drew1 | refine below_set ?_ (IsS89.ge HI0.out) | refine below_set ?_ GE156.out) | exact HB.out), by repeat (first | (with_reducible first | exact HK.out | apply KeepBut.set_ | apply keep_drewN | apply keep_drew | apply keep_alloc | refine keep_far ?_ GW156.out _) | exact HK.out)⟩

end Go.Proofs.YtbjmkkgejekpnaaDoor.PFnThreesCounted
