-- Of this session's own program wip/gen/gen.py (it drives the kit's print): contracts of the functions that the law reaches.
import Derived.Test.YtfehaoadnbcgoaaDoorPFnExactParsePuzzlex0
import Derived.Test.YtfehaoadnbcgoaaDoorPFnExactParsePuzzlex1
import Derived.Test.YtfehaoadnbcgoaaDoorPFnExactParsePuzzlex2
import Derived.Test.YtfehaoadnbcgoaaDoorPFnExactParsePuzzlex3
namespace Go.Proofs.YtfehaoadnbcgoaaDoor.PFnExactParsePuzzle
open Go.RowKit Go.Proofs.YtfehaoadnbcgoaaDoorW.PrintWords Go.Proofs.YtfehaoadnbcgoaaDoorW.PrintLast Go.Proofs.YtfehaoadnbcgoaaDoorW.PrintMore Go.Proofs.YtfehaoadnbcgoaaDoor.Base
attribute [local go_sem] max2_int min2_int max_two min_two max_three min_three max_four min_four   -- for this text's walks alone
set_option linter.unusedVariables false
set_option linter.unusedSimpArgs false

/-! ### spec_pzParse: function 55 -/
def spec_pzParse.l0 : Nat → ByteArray → List ByteArray → Int → Int → Int → List (S89) → Option (Int × (List (S89)) × Bool)
 | 0, _, _, _, _, _, _ => none
 | k + 1, x0, x32, x33, x34, x146000, x146001 => if x34 < x33 then (if 0 ≤ x34 then (if x34 < (x32.length : Int) then ((spec_l1Split.f k (rdOf ByteArray.empty x32 x34) 46).bind fun t154 => (if (t154.length : Int) = 3 then (if 0 < (t154.length : Int) then ((spec_l1Read.f k (rdOf ByteArray.empty t154 0)).bind fun t158 => (if 1 < (t154.length : Int) then ((spec_l1Read.f k (rdOf ByteArray.empty t154 1)).bind fun t160 => (if 2 < (t154.length : Int) then ((spec_l1Read.f k (rdOf ByteArray.empty t154 2)).bind fun t162 => (if x146001.length < 5864062014805 then (spec_pzParse.l0 k x0 x32 x33 (wrap64 (x34 + 1)) x146000 (x146001 ++ [(⟨t158, t160, t162⟩ : S89)])) else (none))) else (none))) else (none))) else (none)) else (some (0, ([] : List (S89)), false)))) else (none)) else (none)) else ((spec_pzGood.f k x146000 x146001).bind fun t151 => (if t151 = true then ((spec_pzText.f k x146000 x146001).bind fun t152 => (some (x146000, x146001, (t152.toList == x0.toList)))) else (some (x146000, x146001, false))))
def spec_pzParse.f (k : Nat) (a0 : ByteArray) : Option (Int × (List (S89)) × Bool) := if (a0.size : Int) > 100 then (some (0, ([] : List (S89)), false)) else ((spec_l1Split.f k a0 58).bind fun t140 => (if (t140.length : Int) = 2 then (if 0 < (t140.length : Int) then ((spec_l1Read.f k (rdOf ByteArray.empty t140 0)).bind fun t144 => (if 1 < (t140.length : Int) then (if ((rdOf ByteArray.empty t140 1).size : Int) > 0 then ((spec_l1Split.f k (rdOf ByteArray.empty t140 1) 44).bind fun t148 => (spec_pzParse.l0 k a0 t148 (t148.length : Int) 0 t144 ([] : List (S89)))) else ((spec_pzGood.f k t144 ([] : List (S89))).bind fun t166 => (if t166 = true then ((spec_pzText.f k t144 ([] : List (S89))).bind fun t167 => (some (t144, ([] : List (S89)), (t167.toList == a0.toList)))) else (some (t144, ([] : List (S89)), false))))) else (none))) else (none)) else (some (0, ([] : List (S89)), false))))
theorem spec_pzParse.mono_l : ∀ k, (∀ y0 y1 y2 y3 y4 y5, LeO (spec_pzParse.l0 k y0 y1 y2 y3 y4 y5) (spec_pzParse.l0 (k + 1) y0 y1 y2 y3 y4 y5))
 | 0 => fun _ _ _ _ _ _ r h => by simp [spec_pzParse.l0] at h
 | k + 1 => by
  have ih0 := spec_pzParse.mono_l k
  ·intro y0 y1 y2 y3 y4 y5
   unfold spec_pzParse.l0
   repeat' first
   | (with_reducible exact ih0 _ _ _ _ _ _)
   | (with_reducible exact spec_l1Read.mono _ _)
   | (with_reducible exact spec_l1Split.mono _ _ _)
   | (with_reducible exact spec_pzGood.mono _ _ _)
   | (with_reducible exact spec_pzText.mono _ _ _)
   | (with_reducible exact LeO.refl _)
   | (with_reducible exact LeO.none _)
   | (with_reducible refine LeO.ite ?_ ?_)
   | (with_reducible refine LeO.bind ?_ (fun _ => ?_))
   | exact ih0 _ _ _ _ _ _
   | exact spec_l1Read.mono _ _
   | exact spec_l1Split.mono _ _ _
   | exact spec_pzGood.mono _ _ _
   | exact spec_pzText.mono _ _ _
   | exact LeO.none _
   | refine LeO.ite ?_ ?_
   | refine LeO.bind ?_ (fun _ => ?_)
theorem spec_pzParse.mono : ∀ a0 k, LeO (spec_pzParse.f k a0) (spec_pzParse.f (k + 1) a0) := by
 intro a0 k
 have ih0 := spec_pzParse.mono_l k
 unfold spec_pzParse.f
 repeat' first
   | (with_reducible exact ih0 _ _ _ _ _ _)
   | (with_reducible exact spec_l1Read.mono _ _)
   | (with_reducible exact spec_l1Split.mono _ _ _)
   | (with_reducible exact spec_pzGood.mono _ _ _)
   | (with_reducible exact spec_pzText.mono _ _ _)
   | (with_reducible exact LeO.refl _)
   | (with_reducible exact LeO.none _)
   | (with_reducible refine LeO.ite ?_ ?_)
   | (with_reducible refine LeO.bind ?_ (fun _ => ?_))
   | exact ih0 _ _ _ _ _ _
   | exact spec_l1Read.mono _ _
   | exact spec_l1Split.mono _ _ _
   | exact spec_pzGood.mono _ _ _
   | exact spec_pzText.mono _ _ _
   | exact LeO.none _
   | refine LeO.ite ?_ ?_
   | refine LeO.bind ?_ (fun _ => ?_)
def spec_pzParse.T14 : Bool × List (List Nat × List Nat) := (true, [([], []), ([0], [0]), ([], []), ([2], [2]), ([3], [3]), ([4], [4]), ([], []), ([6], [6]), ([7], [7]), ([8, 5], [8]), ([], []), ([10], [10]), ([11], [11]), ([12, 9], [12]), ([5, 9, 13], [5, 9, 13]), ([14], [14]), ([1, 15, 13], [1, 15]), ([0, 1, 2, 3, 4, 5, 6, 7, 8, 9, 10, 11, 12, 13, 14, 15, 16], []), ([17, 16, 16, 0, 1, 2, 3, 4, 5, 6, 7, 8, 9, 10, 11, 12, 13, 14, 15, 16], [16, 17])])
def spec_pzParse.B14 : List Nat := [0, 1, 0, 4, 12, 28, 0, 64, 192, 508, 0, 1024, 3072, 8188, 16380, 32764, 65535, 131071, 262143]
theorem spec_pzParse.tab14 : rtab .any (opsOf Tryd.f55 14) = spec_pzParse.T14 := by kernel_rfl
theorem spec_pzParse.bits14 : waitsOk spec_pzParse.T14.2 spec_pzParse.B14 = true := by kernel_rfl
def spec_pzParse.T16 : Bool × List (List Nat × List Nat) := (true, [([], []), ([], []), ([1], [1]), ([2, 2], [2]), ([3], [3]), ([4, 3, 3], [3, 4]), ([3], [3]), ([5, 6, 3], [3, 5, 6]), ([3, 7], [3, 7]), ([0, 5, 0], [0]), ([8, 9, 0, 1, 2, 3, 4, 5, 6, 7, 8, 9], [8])])
def spec_pzParse.B16 : List Nat := [0, 0, 2, 6, 14, 30, 14, 126, 254, 63, 1023]
theorem spec_pzParse.tab16 : rtab .any (opsOf Tryd.f55 16) = spec_pzParse.T16 := by kernel_rfl
theorem spec_pzParse.bits16 : waitsOk spec_pzParse.T16.2 spec_pzParse.B16 = true := by kernel_rfl
set_option maxHeartbeats 8000000 in
set_option maxRecDepth 100000 in
theorem spec_pzParse.calls (k : Nat) (a0 : ByteArray) (r1 : Int) (r2 : List (S89)) (r3 : Bool) (w : World) (h : spec_pzParse.f k a0 = some (r1, r2, r3)) :
  Calls Tryd.prog 55 #[.string a0] w fun e w' => ∃ v1_ : Value, e = .returned (.tuple #[.agg #[.int .i64 r1, v1_], .bool r3]) ∧ Kd.R k89 89 w' w.heap.size (fun _ => True) v1_ r2 ∧ Below w.heap.size w w' := by
 have hu53 := Tryd.underlying53
 have hu89 := Tryd.underlying89
 have HB := Aside0.mk (Below.refl w.heap.size w)
 have H : (if (a0.size : Int) > 100 then (some (0, ([] : List (S89)), false)) else ((spec_l1Split.f k a0 58).bind fun t140 => (if (t140.length : Int) = 2 then (if 0 < (t140.length : Int) then ((spec_l1Read.f k (rdOf ByteArray.empty t140 0)).bind fun t144 => (if 1 < (t140.length : Int) then (if ((rdOf ByteArray.empty t140 1).size : Int) > 0 then ((spec_l1Split.f k (rdOf ByteArray.empty t140 1) 44).bind fun t148 => (spec_pzParse.l0 k a0 t148 (t148.length : Int) 0 t144 ([] : List (S89)))) else ((spec_pzGood.f k t144 ([] : List (S89))).bind fun t166 => (if t166 = true then ((spec_pzText.f k t144 ([] : List (S89))).bind fun t167 => (some (t144, ([] : List (S89)), (t167.toList == a0.toList)))) else (some (t144, ([] : List (S89)), false))))) else (none))) else (none)) else (some (0, ([] : List (S89)), false))))) = some (r1, r2, r3) := h
 clear h
 by_cases c2 : (a0.size : Int) > 100
 ·rw [if_pos c2] at H
  have c2b0 : decide (100 < (a0.size : Int)) = true := decide_eq_true c2
  have c2b1 : decide (100 < a0.size) = true := decide_eq_true (by omega)
  clear c2
  simp only [Option.some.injEq, Prod.mk.injEq] at H
  obtain ⟨rfl, rfl, rfl⟩ := H
  go_enter Tryd.func55, Tryd.ntmps55
  go_wp2_with (first | ((with_reducible refine gate_dst (N := 2) rfl ?_); refine bxE 2 #[.int .i64 0, .slice none 0 0] 53 rfl ?_; intro gb139 hg w3 hbox hb; have BK139 := Aside0.mk (hbox); have GW139 := gS HB hg; have GE139 := gS HB hg; replace HB := hS HB hb; clear hb hbox hg; have hcz4_0 := cz BK139 0; have hcz4_1 := cz BK139 1; have hfz4_0 := fz BK139 0; have hfz4_1 := fz BK139 1))
  refine bodyPost_ret (results_ct rfl _ _ gb139 53 #[.int .i64 0, .slice none 0 0] (0, 0) _ rfl (by (with_reducible repeat (first | refine blk_drewN ?_ _ | refine blk_drew ?_ | refine blk_alloc ?_ _)); refine blk_put (cs := #[.int .i64 0, .slice none 0 0]) ?_ 1 _ rfl; (with_reducible repeat (first | refine blk_drewN ?_ _ | refine blk_drew ?_ | refine blk_alloc ?_ _)); refine blk_put (cs := #[.int .i64 0, .slice none 0 0]) ?_ 0 _ rfl; (with_reducible repeat (first | refine blk_drewN ?_ _ | refine blk_drew ?_ | refine blk_alloc ?_ _)); exact BK139.out) Tryd.underlying53 rfl (by kernel_rfl)) rfl ?_
  exact ⟨_, by first | rfl | (simp [errW_none, errW_some] <;> rfl) | (simp [*, errW_none, errW_some] <;> rfl), by first | exact Kd.R_nil _ _ _ _ _ | exact Kd.N_nil _ _ _ _ _ | exact Kd.V_nil _ _ _ _ _ | exact Kd.Q_nil _ _ _ _ _ | exact Kd.S_nil _ _ _ _ _, hB⟩
 ·rw [if_neg c2] at H
  have c2b0 : decide (100 < (a0.size : Int)) = false := decide_eq_false c2
  have c2b1 : decide (100 < a0.size) = false := decide_eq_false (by omega)
  clear c2
  replace H := Option.bind_eq_some_iff.mp H
  obtain ⟨t140, A50, H⟩ := H
  try dsimp only at H
  have A5 := Aside0.mk A50
  clear A50
  by_cases c6 : (t140.length : Int) = 2
  ·rw [if_pos c6] at H
   have c6b0 : ((t140.length : Int) == 2) = true := beq_iff_eq.mpr c6
   have c6b1 : ((t140.length : Int) != 2) = false := bne_eq_false_iff_eq.mpr c6
   clear c6
   by_cases c7 : 0 < (t140.length : Int)
   ·rw [if_pos c7] at H
    have c7b0 : decide (0 < (t140.length : Int)) = true := decide_eq_true c7
    have c7b1 : decide (0 < t140.length) = true := decide_eq_true (by omega)
    clear c7
    replace H := Option.bind_eq_some_iff.mp H
    obtain ⟨t144, A80, H⟩ := H
    try dsimp only at H
    have A8 := Aside0.mk A80
    clear A80
    by_cases c9 : 1 < (t140.length : Int)
    ·rw [if_pos c9] at H
     have c9b0 : decide (1 < (t140.length : Int)) = true := decide_eq_true c9
     have c9b1 : decide (1 < t140.length) = true := decide_eq_true (by omega)
     clear c9
     by_cases c10 : ((rdOf ByteArray.empty t140 1).size : Int) > 0
     ·rw [if_pos c10] at H
      have c10b0 : decide (0 < ((rdOf ByteArray.empty t140 1).size : Int)) = true := decide_eq_true c10
      have c10b1 : decide (0 < (rdOf ByteArray.empty t140 1).size) = true := decide_eq_true (by omega)
      clear c10
      replace H := Option.bind_eq_some_iff.mp H
      obtain ⟨t148, A110, H⟩ := H
      try dsimp only at H
      have A11 := Aside0.mk A110
      clear A110
      have H' := Aside0.mk H
      clear H
      go_enter Tryd.func55, Tryd.ntmps55
      go_wp2_with (first | ((with_reducible refine gate_dst (N := 2) rfl ?_); refine bxE 2 #[.int .i64 0, .slice none 0 0] 53 rfl ?_; intro gb139 hg w12 hbox hb; have BK139 := Aside0.mk (hbox); have GW139 := gS HB hg; have GE139 := gS HB hg; replace HB := hS HB hb; clear hb hbox hg) | ((with_reducible refine gate_callee (f := 83) rfl ?_); refine goC (N := some 14) Tryd.func83 #[.string a0, .int .u8 58] rfl ?_; (with_reducible refine (spec_l1Split.calls k a0 58 t140 _ A5.out).mono ?_); rintro e w13 ⟨v141, rfl, ho0, hb⟩; refine ⟨_, rfl, ?_⟩; have HO142 := Aside0.mk (Kd.R_lower ho0 (below_size hB)); replace BK139 := bS BK139 hb; replace HB := hS HB hb; (try clear hb); (try clear hb2); (try clear hk); (try clear hi); (try clear ho0); obtain ⟨Ao14, co14, eo14⟩ := Kd.R_slice HO142.out; subst eo14; have p143 : 0 ≤ (0 : Int) := (by omega); have q143 : 0 < (t140.length : Int) := of_decide_eq_true (by first | (with_reducible assumption) | assumption); obtain ⟨ad143, e143, hx143_0⟩ := Kd.at_string (Kd.R_reads' HO142.out).2.2 0 p143 q143; cases e143; have qi143 : (0 < t140.length) = True := eq_true (by omega); (try rw [show ((0 : Int)).toNat = 0 from rfl] at hx143_0); (try rw [Addr.add_zero'] at hx143_0); replace p143 := eq_true p143; replace q143 := eq_true q143) | ((with_reducible refine gate_callee (f := 84) rfl ?_); refine goC (N := some 22) Tryd.func84 #[.string (rdOf ByteArray.empty t140 0)] rfl ?_; (with_reducible refine (spec_l1Read.calls k (rdOf ByteArray.empty t140 0) t144 _ A8.out).mono ?_); rintro e w' ⟨rfl, ⟨nd, rfl⟩⟩; refine ⟨_, rfl, ?_⟩; (try (rw [drewN_self w13]; generalize hq_ : World.drewN w13 _ = w13; have n0_ : Aside0 (Kd.R Kd.string 9 w13 w.heap.size (fun _ => True) (.slice (some ad143) t140.length co14) t140) := ⟨by rw [← hq_]; exact (rU HO142)⟩; have n1_ : Aside0 (w13.heap[gb139]? = some (.cells #[.int .i64 0, .slice none 0 0] 53 (0, 0))) := ⟨by rw [← hq_]; exact bK⟩; have n2_ : Aside0 (Below w.heap.size w w13) := ⟨by rw [← hq_]; exact hB⟩; clear HO142 BK139 HB hq_; have HO142 := n0_; have BK139 := n1_; have HB := n2_; clear n0_ n1_ n2_))) | ((with_reducible refine gate_dst (N := 5) rfl ?_); refine bxE 5 #[.int .i64 0, .slice none 0 0] 53 rfl ?_; intro gb145 hg w15 hbox hb; have BK145 := Aside0.mk (hbox); have GW145 := gS HB hg; have GE145 := gS HB hg; have NB139_145 := nL BK139 hg; have NB145_139 := nG BK139 hg; replace HO142 := Aside0.mk (Kd.R_below (rU HO142) hb); replace BK139 := bS BK139 hb; replace HB := hS HB hb; clear hb hbox hg; have hnb16 := NB145_139.out; have hnc16 := NB139_145.out; have hcz17_0 := cz BK145 0; have hcz17_1 := cz BK145 1; have hfz17_0 := fz BK145 0; have hfz17_1 := fz BK145 1; have p146 : 0 ≤ (1 : Int) := (by omega); have q146 : 1 < (t140.length : Int) := of_decide_eq_true (by first | (with_reducible assumption) | assumption); obtain ⟨ad146, e146, hx146_0⟩ := Kd.at_string (Kd.R_reads' HO142.out).2.2 1 p146 q146; obtain rfl : ad143 = ad146 := (by injection e146); (try simp only [show (1 : Int).toNat = 1 from rfl, Nat.reduceMul, Nat.reduceEqDiff, Go.Addr.add, ↓reduceIte] at hx146_0); have qi146 : (1 < t140.length) = True := eq_true (by omega); (try rw [show ((1 : Int)).toNat = 1 from rfl] at hx146_0); have hn146_0 : ad143.block ≠ gb145 := Kd.own_blk (Kd.R_ne HO142.out BK145.out (by decide)); have hn146_1 : ad143.block ≠ gb145 := Kd.own_blk (Kd.R_ne HO142.out BK145.out (by decide)); replace hx146_0 := (cell_far (p := ⟨gb145, 0, none⟩) (by first | (rw [add_block]; exact hn146_0) | (show (Addr.add _ _).block ≠ _; rw [add_block]; exact hn146_0) | exact hn146_0) (.int .i64 t144)).trans hx146_0; replace hx146_0 := (cell_far (p := ⟨gb145, 1, none⟩) (by first | (rw [add_block]; exact hn146_1) | (show (Addr.add _ _).block ≠ _; rw [add_block]; exact hn146_1) | exact hn146_1) (.slice none 0 0)).trans hx146_0; clear hn146_0; clear hn146_1; replace p146 := eq_true p146; replace q146 := eq_true q146; have p147 : 0 ≤ (1 : Int) := (by omega); have q147 : 1 < (t140.length : Int) := of_decide_eq_true (by first | (with_reducible assumption) | assumption); obtain ⟨ad147, e147, hx147_0⟩ := Kd.at_string (Kd.R_reads' HO142.out).2.2 1 p147 q147; obtain rfl : ad143 = ad147 := (by injection e147); (try simp only [show (1 : Int).toNat = 1 from rfl, Nat.reduceMul, Nat.reduceEqDiff, Go.Addr.add, ↓reduceIte] at hx147_0); have qi147 : (1 < t140.length) = True := eq_true (by omega); (try rw [show ((1 : Int)).toNat = 1 from rfl] at hx147_0); have hn147_0 : ad143.block ≠ gb145 := Kd.own_blk (Kd.R_ne HO142.out BK145.out (by decide)); have hn147_1 : ad143.block ≠ gb145 := Kd.own_blk (Kd.R_ne HO142.out BK145.out (by decide)); replace hx147_0 := (cell_far (p := ⟨gb145, 0, none⟩) (by first | (rw [add_block]; exact hn147_0) | (show (Addr.add _ _).block ≠ _; rw [add_block]; exact hn147_0) | exact hn147_0) (.int .i64 t144)).trans hx147_0; replace hx147_0 := (cell_far (p := ⟨gb145, 1, none⟩) (by first | (rw [add_block]; exact hn147_1) | (show (Addr.add _ _).block ≠ _; rw [add_block]; exact hn147_1) | exact hn147_1) (.slice none 0 0)).trans hx147_0; clear hn147_0; clear hn147_1; replace p147 := eq_true p147; replace q147 := eq_true q147) | ((with_reducible refine gate_callee (f := 83) rfl ?_); refine goC (N := some 32) Tryd.func83 #[.string (rdOf ByteArray.empty t140 1), .int .u8 44] rfl ?_; (with_reducible refine (spec_l1Split.calls k (rdOf ByteArray.empty t140 1) 44 t148 _ A11.out).mono ?_); rintro e w18 ⟨v149, rfl, ho0, hb⟩; refine ⟨_, rfl, ?_⟩; have HO150 := Aside0.mk (Kd.R_lower (Kd.R_new' ho0 (Kd.R_lt (by (with_reducible repeat (first | apply Kd.R_alloc | apply Kd.R_drewN | apply Kd.R_drew)); exact (Kd.R_mono (Kd.R_far (p := ⟨gb145, 1, none⟩) (Kd.R_far (p := ⟨gb145, 0, none⟩) (Kd.R_types HO142.out BK145.out (by decide)) (fun _ hk => hk.2) (.int .i64 t144)) (fun _ hk => hk.2) (.slice none 0 0)) (fun _ h_ => h_.1))))) (below_size hB)); replace HO142 := Aside0.mk (Kd.R_elder' (by (with_reducible repeat (first | apply Kd.R_alloc | apply Kd.R_drewN | apply Kd.R_drew)); exact (Kd.R_mono (Kd.R_far (p := ⟨gb145, 1, none⟩) (Kd.R_far (p := ⟨gb145, 0, none⟩) (Kd.R_types HO142.out BK145.out (by decide)) (fun _ hk => hk.2) (.int .i64 t144)) (fun _ hk => hk.2) (.slice none 0 0)) (fun _ h_ => h_.1))) (Kd.R_base ho0) hb); replace BK139 := Aside0.mk (blk_below (g := gb139) (o := .cells #[.int .i64 0, .slice none 0 0] 53 (0, 0)) (by (with_reducible repeat (first | refine blk_drewN ?_ _ | refine blk_drew ?_ | refine blk_alloc ?_ _)); refine blk_far ?_ NB139_145.out _; (with_reducible repeat (first | refine blk_drewN ?_ _ | refine blk_drew ?_ | refine blk_alloc ?_ _)); refine blk_far ?_ NB139_145.out _; (with_reducible repeat (first | refine blk_drewN ?_ _ | refine blk_drew ?_ | refine blk_alloc ?_ _)); exact BK139.out) hb); replace BK145 := Aside0.mk (blk_below (g := gb145) (o := .cells #[.int .i64 t144, .slice none 0 0] 53 (0, 0)) (by (with_reducible repeat (first | refine blk_drewN ?_ _ | refine blk_drew ?_ | refine blk_alloc ?_ _)); refine blk_put (cs := #[.int .i64 t144, .slice none 0 0]) ?_ 1 _ rfl; (with_reducible repeat (first | refine blk_drewN ?_ _ | refine blk_drew ?_ | refine blk_alloc ?_ _)); refine blk_put (cs := #[.int .i64 0, .slice none 0 0]) ?_ 0 _ rfl; (with_reducible repeat (first | refine blk_drewN ?_ _ | refine blk_drew ?_ | refine blk_alloc ?_ _)); exact BK145.out) hb); replace HB := hS HB hb; (try clear hb); (try clear hb2); (try clear hk); (try clear hi); (try clear ho0); obtain ⟨Ao19, co19, eo19⟩ := Kd.R_slice HO150.out; subst eo19))
      go_loopg [34] k (fun kq v34 w' => ∃ (x34_1 : Int) (x140000_1 : Int) (x146001_1 : List (S89)) (u146001 : Value), v34 = .int .i64 x34_1 ∧ Aside0 (spec_pzParse.l0 kq a0 t148 (t148.length : Int) x34_1 t144 x146001_1 = some (r1, r2, r3)) ∧ Aside0 (kq ≤ k) ∧ Aside0 (Kd.R Kd.string 9 w' w.heap.size (fun _ => True) (.slice Ao19 t148.length co19) t148) ∧ Aside0 (Kd.R k89 89 w' w.heap.size (fun _ => True) u146001 x146001_1) ∧ Aside0 (w'.heap[gb139]? = some (.cells #[.int .i64 x140000_1, (.slice none 0 0)] 53 (0, 0))) ∧ Aside0 (w'.heap[gb145]? = some (.cells #[.int .i64 t144, u146001] 53 (0, 0))) ∧ Aside0 (Below w.heap.size w w'))
      case atStart => exact ⟨(0), (0), (([] : List (S89))), (.slice none 0 0), (by first | rfl | (simp; done) | (simp [*]; done)), H', ⟨Nat.le_refl _⟩, ⟨by (with_reducible repeat (first | apply Kd.R_alloc | apply Kd.R_drewN | apply Kd.R_drew)); exact Kd.R_mono HO150.out (fun _ hk => trivial)⟩, ⟨by first | exact Kd.R_nil _ _ _ _ _ | exact Kd.N_nil _ _ _ _ _ | exact Kd.V_nil _ _ _ _ _ | exact Kd.Q_nil _ _ _ _ _ | exact Kd.S_nil _ _ _ _ _⟩, ⟨bK⟩, ⟨bK⟩, ⟨hB⟩⟩
      case round =>
       clear H'
       try clear c1
       try clear p1
       try clear q1
       try clear hx1
       try clear qi1
       try clear c2
       try clear c2b0
       try clear c2b1
       try clear p2
       try clear c5
       try clear c6
       try clear c6b0
       try clear c6b1
       try clear c7
       try clear c7b0
       try clear c7b1
       try clear c8
       try clear c9
       try clear c9b0
       try clear c9b1
       try clear c10
       try clear c10b0
       try clear c10b1
       try clear p14
       try clear q14
       try clear hx14
       try clear qi14
       try clear c16
       try clear hcz17_0
       try clear hcz17_1
       try clear hcz4_0
       try clear hcz4_1
       try clear hfz17_0
       try clear hfz17_1
       try clear hfz4_0
       try clear hfz4_1
       try clear hx143_0
       try clear hx146_0
       try clear hx147_0
       try clear p143
       try clear p146
       try clear p147
       try clear q143
       try clear q146
       try clear q147
       obtain ⟨x34_1, x140000_1, x146001_1, u146001, rfl, HA, HK1, HO_32, HO_146001, BK139, BK145, HB⟩ := hrel
       cases gk with
       | zero => exact absurd HA.out (by simp [spec_pzParse.l0])
       | succ k1 =>
        have H := HA.out
        clear HA
        simp only [spec_pzParse.l0] at H
        by_cases c20 : x34_1 < (t148.length : Int)
        ·rw [if_pos c20] at H
         have c20b0 : decide (x34_1 < (t148.length : Int)) = true := decide_eq_true c20
         clear c20
         by_cases c21 : 0 ≤ x34_1
         ·rw [if_pos c21] at H
          have c21b0 : decide (0 ≤ x34_1) = true := decide_eq_true c21
          clear c21
          by_cases c22 : x34_1 < (t148.length : Int)
          ·rw [if_pos c22] at H
           have c22b0 : decide (x34_1 < (t148.length : Int)) = true := decide_eq_true c22
           clear c22
           replace H := Option.bind_eq_some_iff.mp H
           obtain ⟨t154, A230, H⟩ := H
           try dsimp only at H
           have A23 := Aside0.mk A230
           clear A230
           by_cases c24 : (t154.length : Int) = 3
           ·rw [if_pos c24] at H
            have c24b0 : ((t154.length : Int) == 3) = true := beq_iff_eq.mpr c24
            have c24b1 : ((t154.length : Int) != 3) = false := bne_eq_false_iff_eq.mpr c24
            clear c24
            by_cases c25 : 0 < (t154.length : Int)
            ·rw [if_pos c25] at H
             have c25b0 : decide (0 < (t154.length : Int)) = true := decide_eq_true c25
             have c25b1 : decide (0 < t154.length) = true := decide_eq_true (by omega)
             clear c25
             replace H := Option.bind_eq_some_iff.mp H
             obtain ⟨t158, A260, H⟩ := H
             try dsimp only at H
             have A26 := Aside0.mk A260
             clear A260
             by_cases c27 : 1 < (t154.length : Int)
             ·rw [if_pos c27] at H
              have c27b0 : decide (1 < (t154.length : Int)) = true := decide_eq_true c27
              have c27b1 : decide (1 < t154.length) = true := decide_eq_true (by omega)
              clear c27
              replace H := Option.bind_eq_some_iff.mp H
              obtain ⟨t160, A280, H⟩ := H
              try dsimp only at H
              have A28 := Aside0.mk A280
              clear A280
              by_cases c29 : 2 < (t154.length : Int)
              ·rw [if_pos c29] at H
               have c29b0 : decide (2 < (t154.length : Int)) = true := decide_eq_true c29
               have c29b1 : decide (2 < t154.length) = true := decide_eq_true (by omega)
               clear c29
               replace H := Option.bind_eq_some_iff.mp H
               obtain ⟨t162, A300, H⟩ := H
               try dsimp only at H
               have A30 := Aside0.mk A300
               clear A300
               by_cases c31 : x146001_1.length < 5864062014805
               ·rw [if_pos c31] at H
                have LMc31 := Aside0.mk c31
                clear c31
                obtain ⟨y163, hy163⟩ : ∃ y_ : List (S89), y_ = (x146001_1 ++ [(⟨t158, t160, t162⟩ : S89)]) := ⟨_, rfl⟩
                replace H : (spec_pzParse.l0 k1 a0 t148 (t148.length : Int) (wrap64 (x34_1 + 1)) t144 y163) = some (r1, r2, r3) := by first | (rw [hy163]; with_reducible exact H) | (have H2_ := (Option.bind_some _ _).symm.trans H; rw [hy163]; with_reducible exact H2_) | (have H2_ := (Option.bind_some _ _).symm.trans H; with_reducible exact H2_) | with_reducible exact H | (rw [hy163]; exact H) | exact H
                have Ny163 := Aside0.mk hy163
                clear hy163
                have H' := Aside0.mk H
                clear H
                have p153 : 0 ≤ (x34_1 : Int) := of_decide_eq_true (by first | (with_reducible assumption) | assumption)
                have q153 : x34_1 < (t148.length : Int) := of_decide_eq_true (by first | (with_reducible assumption) | assumption)
                obtain ⟨ad153, e153, hx153_0⟩ := Kd.at_string (Kd.R_reads' HO_32.out).2.2 x34_1 p153 q153
                cases e153
                replace p153 := eq_true p153
                replace q153 := eq_true q153
                try go_wp2_with (first | ((with_reducible refine gate_callee (f := 83) rfl ?_); refine goC (N := some 39) Tryd.func83 #[.string (rdOf ByteArray.empty t148 x34_1), .int .u8 46] rfl ?_; (with_reducible refine (spec_l1Split.calls k1 (rdOf ByteArray.empty t148 x34_1) 46 t154 _ A23.out).mono ?_); rintro e w32 ⟨v155, rfl, ho0, hb⟩; refine ⟨_, rfl, ?_⟩; have HO156 := Aside0.mk (Kd.R_lower (Kd.R_new' ho0 (Kd.R_lt (rU HO_32))) (below_size hB)); replace HO_32 := Aside0.mk (Kd.R_elder' (rU HO_32) (Kd.R_base ho0) hb); replace HO_146001 := Aside0.mk (Kd.R_below (rU HO_146001) hb); replace BK139 := bS BK139 hb; replace BK145 := bS BK145 hb; replace HB := hS HB hb; (try clear hb); (try clear hb2); (try clear hk); (try clear hi); (try clear ho0); obtain ⟨Ao33, co33, eo33⟩ := Kd.R_slice HO156.out; subst eo33))
                replace HO_32 := Aside0.mk (Kd.R_drew HO_32.out)
                replace HO_146001 := Aside0.mk (Kd.R_drew HO_146001.out)
                replace HO156 := Aside0.mk (Kd.R_drew HO156.out)
                replace BK139 := Aside0.mk (blk_drew BK139.out)
                replace BK145 := Aside0.mk (blk_drew BK145.out)
                replace HB := Aside0.mk (below_drew1 HB.out)
                have p157 : 0 ≤ (0 : Int) := (by omega)
                have q157 : 0 < (t154.length : Int) := of_decide_eq_true (by first | (with_reducible assumption) | assumption)
                obtain ⟨ad157, e157, hx157_0⟩ := Kd.at_string (Kd.R_reads' HO156.out).2.2 0 p157 q157
                cases e157
                have qi157 : (0 < t154.length) = True := eq_true (by omega)
                (try rw [show ((0 : Int)).toNat = 0 from rfl] at hx157_0)
                (try rw [Addr.add_zero'] at hx157_0)
                replace p157 := eq_true p157
                replace q157 := eq_true q157
                have p159 : 0 ≤ (1 : Int) := (by omega)
                have q159 : 1 < (t154.length : Int) := of_decide_eq_true (by first | (with_reducible assumption) | assumption)
                obtain ⟨ad159, e159, hx159_0⟩ := Kd.at_string (Kd.R_reads' HO156.out).2.2 1 p159 q159
                obtain rfl : ad157 = ad159 := (by injection e159)
                (try simp only [show (1 : Int).toNat = 1 from rfl, Nat.reduceMul, Nat.reduceEqDiff, Go.Addr.add, ↓reduceIte] at hx159_0)
                have qi159 : (1 < t154.length) = True := eq_true (by omega)
                (try rw [show ((1 : Int)).toNat = 1 from rfl] at hx159_0)
                replace p159 := eq_true p159
                replace q159 := eq_true q159
                have p161 : 0 ≤ (2 : Int) := (by omega)
                have q161 : 2 < (t154.length : Int) := of_decide_eq_true (by first | (with_reducible assumption) | assumption)
                obtain ⟨ad161, e161, hx161_0⟩ := Kd.at_string (Kd.R_reads' HO156.out).2.2 2 p161 q161
                obtain rfl : ad157 = ad161 := (by injection e161)
                (try simp only [show (2 : Int).toNat = 2 from rfl, Nat.reduceMul, Nat.reduceEqDiff, Go.Addr.add, ↓reduceIte] at hx161_0)
                have qi161 : (2 < t154.length) = True := eq_true (by omega)
                (try rw [show ((2 : Int)).toNat = 2 from rfl] at hx161_0)
                replace p161 := eq_true p161
                replace q161 := eq_true q161
                refine start_ (n := 19) (S := fun w' => w'.cell? ⟨gb145, 0, none⟩ = some (.int .i64 t144) ∧ w'.cell? ⟨gb145, 1, none⟩ = some (u146001) ∧ w'.cell? ad157 = some (.string (rdOf ByteArray.empty t154 0)) ∧ w'.cell? ⟨ad157.block, ad157.off + 1, none⟩ = some (.string (rdOf ByteArray.empty t154 1)) ∧ w'.cell? ⟨ad157.block, ad157.off + 2, none⟩ = some (.string (rdOf ByteArray.empty t154 2))) (ds := [16, 18]) (bz 19 0) (by kernel_rfl) rfl rfl ⟨(blk_cell BK145.out 0).trans rfl, (blk_cell BK145.out 1).trans rfl, hx157_0, hx159_0, hx161_0⟩ (fun hHeld => ?_); refine with_tabW spec_pzParse.tab14 spec_pzParse.bits14 (fun HT_ HW_ => ?_)
                generalize w32.drew = w34 at HO_32 HO_146001 HO156 BK139 BK145 HB hx157_0 hx159_0 hx161_0 hHeld ⊢
                refine run_ [(0, 0, 1, some 44), (0, 2, 5, some 46), (0, 3, 13, some 47), (0, 6, 77, some 50), (0, 7, 205, some 51), (0, 10, 1229, some 54), (0, 11, 3277, some 55), (1, 1, 3279, some 45), (1, 4, 3295, some 48), (1, 8, 3551, some 52), (1, 12, 7647, some 56)] ?_
                repeat (first | (apply tag0; refine run_p (v := ?_) (a' := ?_) rfl rfl (any_of HT_.out (by kernel_rfl)) (fun _ _ _ h => h) (by rfl) ?_ ?_ ?_; rotate_left 2; (intro w'; go_simp; with_reducible rfl); (first | (simp only [Act.put, List.setIfInBounds_toArray, List.set_cons_zero, List.set_cons_succ, i64_w, i32_w]; rfl) | rfl)) | (apply tag1; refine run_t (v := ?_) (a' := ?_) rfl rfl (take_ofW HT_.out HW_.out (by kernel_rfl)) (fun _ _ _ h => h) (by rfl) ?_ hHeld ?_ ?_; rotate_left 2; (rintro w' ⟨s0, s1, s2, s3, s4⟩; go_simp; with_reducible rfl); (first | (simp only [Act.put, List.setIfInBounds_toArray, List.set_cons_zero, List.set_cons_succ, i64_w, i32_w]; rfl) | rfl)))
                refine run_nil ?_
                refine one_ (i := 5) (N := some 49) (bz 19 7679) rfl rfl (one_of HT_.out (by kernel_rfl)) (by decide) (fun K hK => ?_)
                refine goes_ Tryd.func84 (by kernel_rfl) rfl #[.string (rdOf ByteArray.empty t154 0)] (by rfl) rfl rfl mapT ?_
                with_reducible refine (spec_l1Read.calls k1 (rdOf ByteArray.empty t154 0) t158 _ A26.out).mono ?_
                rintro e w' ⟨rfl, ⟨nd, rfl⟩⟩
                refine ⟨_, rfl, ?_⟩
                refine hK.out _ _ ⟨(blk_cell BK145.out 0).trans rfl, (blk_cell BK145.out 1).trans rfl, hHeld.2.2.1, hHeld.2.2.2.1, hHeld.2.2.2.2⟩ (fun hHeld => ?_)
                clear hK K
                refine norm_ (a' := ?_) ?_ ?_
                rotate_left
                ·show Act.put _ (some 49) _ = _
                 simp only [Act.put, List.setIfInBounds_toArray, List.set_cons_zero, List.set_cons_succ, i64_w, i32_w]
                 rfl
                refine one_ (i := 9) (N := some 53) (bz 19 8191) rfl rfl (one_of HT_.out (by kernel_rfl)) (by decide) (fun K hK => ?_)
                refine goes_ Tryd.func84 (by kernel_rfl) rfl #[.string (rdOf ByteArray.empty t154 1)] (by rfl) rfl rfl mapT ?_
                with_reducible refine (spec_l1Read.calls k1 (rdOf ByteArray.empty t154 1) t160 _ A28.out).mono ?_
                rintro e w' ⟨rfl, ⟨nd, rfl⟩⟩
                refine ⟨_, rfl, ?_⟩
                refine hK.out _ _ ⟨(blk_cell BK145.out 0).trans rfl, (blk_cell BK145.out 1).trans rfl, hHeld.2.2.1, hHeld.2.2.2.1, hHeld.2.2.2.2⟩ (fun hHeld => ?_)
                clear hK K
                refine norm_ (a' := ?_) ?_ ?_
                rotate_left
                ·show Act.put _ (some 53) _ = _
                 simp only [Act.put, List.setIfInBounds_toArray, List.set_cons_zero, List.set_cons_succ, i64_w, i32_w]
                 rfl
                refine one_ (i := 13) (N := some 57) (bz 19 16383) rfl rfl (one_of HT_.out (by kernel_rfl)) (by decide) (fun K hK => ?_)
                refine goes_ Tryd.func84 (by kernel_rfl) rfl #[.string (rdOf ByteArray.empty t154 2)] (by rfl) rfl rfl mapT ?_
                with_reducible refine (spec_l1Read.calls k1 (rdOf ByteArray.empty t154 2) t162 _ A30.out).mono ?_
                rintro e w' ⟨rfl, ⟨nd, rfl⟩⟩
                refine ⟨_, rfl, ?_⟩
                refine hK.out _ _ ⟨(blk_cell BK145.out 0).trans rfl, (blk_cell BK145.out 1).trans rfl, hHeld.2.2.1, hHeld.2.2.2.1, hHeld.2.2.2.2⟩ (fun hHeld => ?_)
                clear hK K
                refine norm_ (a' := ?_) ?_ ?_
                rotate_left
                ·show Act.put _ (some 57) _ = _
                 simp only [Act.put, List.setIfInBounds_toArray, List.set_cons_zero, List.set_cons_succ, i64_w, i32_w]
                 rfl
                refine run_ [(0, 14, 32767, some 58)] ?_
                repeat ((apply tag0; refine run_p (v := ?_) (a' := ?_) rfl rfl (any_of HT_.out (by kernel_rfl)) (fun _ _ _ h => h) (by rfl) ?_ ?_ ?_; rotate_left 2; (intro w'; go_simp; with_reducible rfl); (first | (simp only [Act.put, List.setIfInBounds_toArray, List.set_cons_zero, List.set_cons_succ, i64_w, i32_w]; rfl) | rfl)))
                refine run_nil ?_
                refine one_ (i := 15) (N := some 59) (bz 19 65535) rfl rfl (one_of HT_.out (by kernel_rfl)) (by decide) (fun K hK => ?_)
                refine value_ (w1 := ?_) (v := ?_) (by rfl) rfl ?_ ?_
                rotate_left 2
                ·go_simp
                 constructor
                 ·rfl
                 ·rfl
                refine hK.out _ _ ⟨(blk_cell (blk_alloc BK145.out _) 0).trans rfl, (blk_cell (blk_alloc BK145.out _) 1).trans rfl, (World.cell?_alloc_lt _ _ _ (World.block_lt_of_cell? _ _ (hHeld.2.2.1))).trans (hHeld.2.2.1), (World.cell?_alloc_lt _ _ _ (World.block_lt_of_cell? _ _ (hHeld.2.2.2.1))).trans (hHeld.2.2.2.1), (World.cell?_alloc_lt _ _ _ (World.block_lt_of_cell? _ _ (hHeld.2.2.2.2))).trans (hHeld.2.2.2.2)⟩ (fun hHeld => ?_)
                clear hK K
                refine norm_ (a' := ?_) ?_ ?_
                rotate_left
                ·show Act.put _ (some 59) _ = _
                 simp only [Act.put, List.setIfInBounds_toArray, List.set_cons_zero, List.set_cons_succ, i64_w, i32_w]
                 rfl
                refine last_ (i := 16) (N := some 60) (bz 19 131071) rfl rfl (one_of HT_.out (by kernel_rfl)) (by decide) (fun K hK => ?_)
                refine Kd.R_append_step k89 (w0 := w) w.heap.size (by rfl) (.tmp 45) (.tmp 59) 51 89 (.agg #[(.int .i64 0), (.int .i64 0), (.int .i64 0)]) 24 rfl Tryd.underlying51 info89 rfl (by decide) (by omega) u146001 x146001_1 (⟨t158, t160, t162⟩ : S89) [.int .i64 t158, .int .i64 t160, .int .i64 t162] (fun _ => True) (fun _ => False) rfl rfl ?aP (fun _ hk => hk.elim) ?aF ?aO ?aB ?aS ?aL ?_
                (case aP => exact k89_mkM _ _ _ (⟨t158, t160, t162⟩ : S89))
                (case aB => exact hB)
                (case aF => exact (fun _ _ => trivial))
                (case aO => exact (rU HO_146001))
                (case aS => exact (below_size hB))
                (case aL => have := LMc31.out; omega)
                intro v164 w35 ho hb hg hat
                rw [← Ny163.out] at ho
                have n0_ := Aside0.mk (Kd.R_over' (rU HO_32) (Kd.R_typed (rU HO_146001)) (by decide) hg)
                have n1_ := Aside0.mk (blk_grown (g := gb139) (o := .cells #[.int .i64 x140000_1, .slice none 0 0] 53 (0, 0)) bK hg (Kd.R_ne HO_146001.out BK139.out (by decide)))
                have n2_ := Aside0.mk (blk_grown (g := gb145) (o := .cells #[.int .i64 t144, u146001] 53 (0, 0)) bK hg (Kd.R_ne HO_146001.out BK145.out (by decide)))
                have n3_ := Aside0.mk (Kd.R_over' (rU HO156) (Kd.R_typed (rU HO_146001)) (by decide) hg)
                have n4_ := Aside0.mk (hb)
                have n5_ := Aside0.mk (ho)
                clear HO_32
                clear BK139
                clear BK145
                clear HO156
                clear HB
                clear HO_146001
                have HO_32 := n0_
                have BK139 := n1_
                have BK145 := n2_
                have HO156 := n3_
                have HB := n4_
                have HO165 := n5_
                clear n0_ n1_ n2_ n3_ n4_ n5_
                clear ho hb hg hat
                obtain ⟨Ao36, co36, eo36⟩ := Kd.R_slice HO165.out
                (first | subst eo36 | (injection eo36 with f1_ f2_ f3_; have f4_ := f1_.symm; have f5_ := f3_.symm; clear f1_ f2_ f3_; subst f4_; subst f5_))
                refine hK.out _ _ ?_
                clear hK K
                refine norm_ (a' := ?_) ?_ ?_
                rotate_left
                ·show Act.put _ (some 60) _ = _
                 simp only [Act.put, List.setIfInBounds_toArray, List.set_cons_zero, List.set_cons_succ, i64_w, i32_w]
                 rfl
                refine run_ [(0, 17, 262143, some 61)] ?_
                repeat ((apply tag0; refine run_p (v := ?_) (a' := ?_) rfl rfl (any_of HT_.out (by kernel_rfl)) (fun _ _ _ h => h) (by rfl) ?_ ?_ ?_; rotate_left 2; (intro w'; go_simp; with_reducible rfl); (first | (simp only [Act.put, List.setIfInBounds_toArray, List.set_cons_zero, List.set_cons_succ, i64_w, i32_w]; rfl) | rfl)))
                refine run_nil ?_
                refine last_ (i := 18) (N := none) (bz 19 524287) rfl rfl (one_of HT_.out (by kernel_rfl)) (by decide) (fun K hK => ?_)
                have hs37 : w35.cell? ⟨gb145, 1, none⟩ = some (u146001) := (blk_cell BK145.out 1).trans rfl
                have hfs37 := fz BK145 1
                have hns37_0 := NB139_145.out
                have hms37_0 := NB145_139.out
                refine skip_ (w1 := ?_) (by rfl) rfl ?_ ?_
                rotate_left
                ·go_simp
                 rfl
                refine hK.out _ _ ?_
                clear hK K
                refine done_ (done_of HT_.out (by kernel_rfl)) ?_
                try go_wp2
                go_roundg k1
                case measure => have := HK1.out; omega
                case rel => exact ⟨(wrap64 (x34_1 + 1)), (x140000_1), (y163), (.slice Ao36 y163.length co36), (by first | rfl | (simp; done) | (simp [*]; done)), H', ⟨by have := HK1.out; omega⟩, ⟨by (with_reducible repeat (first | apply Kd.R_alloc | apply Kd.R_drewN | apply Kd.R_drew)); exact Kd.R_mono (Kd.R_far (p := ⟨gb145, 1, none⟩) (Kd.R_types HO_32.out BK145.out (by decide)) (fun _ hk => hk.2) (.slice Ao36 y163.length co36)) (fun _ hk => trivial)⟩, ⟨by (with_reducible repeat (first | apply Kd.R_alloc | apply Kd.R_drewN | apply Kd.R_drew)); exact Kd.R_mono (Kd.R_far (p := ⟨gb145, 1, none⟩) (Kd.R_types HO165.out BK145.out (by decide)) (fun _ hk => hk.2) (.slice Ao36 y163.length co36)) (fun _ hk => trivial)⟩, ⟨by (with_reducible repeat (first | refine blk_drewN ?_ _ | refine blk_drew ?_ | refine blk_alloc ?_ _)); refine blk_far ?_ NB139_145.out _; (with_reducible repeat (first | refine blk_drewN ?_ _ | refine blk_drew ?_ | refine blk_alloc ?_ _)); exact BK139.out⟩, ⟨by (with_reducible repeat (first | refine blk_drewN ?_ _ | refine blk_drew ?_ | refine blk_alloc ?_ _)); refine blk_put (cs := #[.int .i64 t144, u146001]) ?_ 1 _ rfl; (with_reducible repeat (first | refine blk_drewN ?_ _ | refine blk_drew ?_ | refine blk_alloc ?_ _)); exact BK145.out⟩, ⟨hB⟩⟩
               ·rw [if_neg c31] at H
                exact absurd H (by simp)
              ·rw [if_neg c29] at H
               exact absurd H (by simp)
             ·rw [if_neg c27] at H
              exact absurd H (by simp)
            ·rw [if_neg c25] at H
             exact absurd H (by simp)
           ·rw [if_neg c24] at H
            have c24b0 : ((t154.length : Int) == 3) = false := beq_eq_false_iff_ne.mpr c24
            have c24b1 : ((t154.length : Int) != 3) = true := bne_iff_ne.mpr c24
            simp only [Option.some.injEq, Prod.mk.injEq] at H
            obtain ⟨rfl, rfl, rfl⟩ := H
            have p153 : 0 ≤ (x34_1 : Int) := of_decide_eq_true (by first | (with_reducible assumption) | assumption)
            have q153 : x34_1 < (t148.length : Int) := of_decide_eq_true (by first | (with_reducible assumption) | assumption)
            obtain ⟨ad153, e153, hx153_0⟩ := Kd.at_string (Kd.R_reads' HO_32.out).2.2 x34_1 p153 q153
            cases e153
            replace p153 := eq_true p153
            replace q153 := eq_true q153
            go_wp2_with (first | ((with_reducible refine gate_callee (f := 83) rfl ?_); refine goC (N := some 39) Tryd.func83 #[.string (rdOf ByteArray.empty t148 x34_1), .int .u8 46] rfl ?_; (with_reducible refine (spec_l1Split.calls k1 (rdOf ByteArray.empty t148 x34_1) 46 t154 _ A23.out).mono ?_); rintro e w38 ⟨v155, rfl, ho0, hb⟩; refine ⟨_, rfl, ?_⟩; have HO156 := Aside0.mk (Kd.R_lower (Kd.R_new' ho0 (Kd.R_lt (rU HO_32))) (below_size hB)); replace HO_32 := Aside0.mk (Kd.R_elder' (rU HO_32) (Kd.R_base ho0) hb); replace HO_146001 := Aside0.mk (Kd.R_below (rU HO_146001) hb); replace BK139 := bS BK139 hb; replace BK145 := bS BK145 hb; replace HB := hS HB hb; (try clear hb); (try clear hb2); (try clear hk); (try clear hi); (try clear ho0); obtain ⟨Ao39, co39, eo39⟩ := Kd.R_slice HO156.out; subst eo39; have hnb40 := NB139_145.out; have hnc40 := NB145_139.out; have hcz41_0 := cz BK139 0; have hcz41_1 := cz BK139 1; have hfz41_0 := fz BK139 0; have hfz41_1 := fz BK139 1))
            refine bodyPost_ret (results_ct rfl _ _ gb139 53 #[.int .i64 0, .slice none 0 0] (0, 0) _ rfl (by (with_reducible repeat (first | refine blk_drewN ?_ _ | refine blk_drew ?_ | refine blk_alloc ?_ _)); refine blk_put (cs := #[.int .i64 0, .slice none 0 0]) ?_ 1 _ rfl; (with_reducible repeat (first | refine blk_drewN ?_ _ | refine blk_drew ?_ | refine blk_alloc ?_ _)); refine blk_put (cs := #[.int .i64 x140000_1, .slice none 0 0]) ?_ 0 _ rfl; (with_reducible repeat (first | refine blk_drewN ?_ _ | refine blk_drew ?_ | refine blk_alloc ?_ _)); exact BK139.out) Tryd.underlying53 rfl (by kernel_rfl)) rfl ?_
            exact ⟨_, by first | rfl | (simp [errW_none, errW_some] <;> rfl) | (simp [*, errW_none, errW_some] <;> rfl), by first | exact Kd.R_nil _ _ _ _ _ | exact Kd.N_nil _ _ _ _ _ | exact Kd.V_nil _ _ _ _ _ | exact Kd.Q_nil _ _ _ _ _ | exact Kd.S_nil _ _ _ _ _, hB⟩
          ·rw [if_neg c22] at H
           exact absurd H (by simp)
         ·rw [if_neg c21] at H
          exact absurd H (by simp)
        ·rw [if_neg c20] at H
         have c20b0 : decide (x34_1 < (t148.length : Int)) = false := decide_eq_false c20
         clear c20
         replace H := Option.bind_eq_some_iff.mp H
         obtain ⟨t151, A420, H⟩ := H
         try dsimp only at H
         have A42 := Aside0.mk A420
         clear A420
         by_cases c43 : t151 = true
         ·subst c43
          rw [if_pos rfl] at H
          replace H := Option.bind_eq_some_iff.mp H
          obtain ⟨t152, A440, H⟩ := H
          try dsimp only at H
          have A44 := Aside0.mk A440
          clear A440
          simp only [Option.some.injEq, Prod.mk.injEq] at H
          obtain ⟨rfl, rfl, rfl⟩ := H
          try go_wp2
          replace HO_32 := Aside0.mk (Kd.R_drew HO_32.out)
          replace HO_146001 := Aside0.mk (Kd.R_drew HO_146001.out)
          replace BK139 := Aside0.mk (blk_drew BK139.out)
          replace BK145 := Aside0.mk (blk_drew BK145.out)
          replace HB := Aside0.mk (below_drew1 HB.out)
          obtain ⟨Ao46, co46, eo46⟩ := Kd.R_slice HO_146001.out
          (first | subst eo46 | (injection eo46 with f1_ f2_ f3_; have f4_ := f1_.symm; have f5_ := f3_.symm; clear f1_ f2_ f3_; subst f4_; subst f5_))
          refine start_ (n := 11) (S := fun w' => w'.cell? ⟨gb145, 0, none⟩ = some (.int .i64 t144) ∧ w'.cell? ⟨gb145, 1, none⟩ = some (.slice Ao46 x146001_1.length co46)) (ds := []) (bz 11 0) (by kernel_rfl) rfl rfl ⟨(blk_cell BK145.out 0).trans rfl, (blk_cell BK145.out 1).trans rfl⟩ (fun hHeld => ?_); refine with_tabW spec_pzParse.tab16 spec_pzParse.bits16 (fun HT_ HW_ => ?_)
          generalize wr.drew = w45 at HO_32 HO_146001 BK139 BK145 HB hHeld ⊢
          refine run_ [(1, 0, 1, some 63), (1, 1, 3, some 64)] ?_
          repeat ((apply tag1; refine run_t (v := ?_) (a' := ?_) rfl rfl (take_ofW HT_.out HW_.out (by kernel_rfl)) (fun _ _ _ h => h) (by rfl) ?_ hHeld ?_ ?_; rotate_left 2; (rintro w' ⟨s0, s1⟩; go_simp; with_reducible rfl); (first | (simp only [Act.put, List.setIfInBounds_toArray, List.set_cons_zero, List.set_cons_succ, i64_w, i32_w]; rfl) | rfl)))
          refine run_nil ?_
          refine one_ (i := 2) (N := some 65) (bz 11 7) rfl rfl (one_of HT_.out (by kernel_rfl)) (by decide) (fun K hK => ?_)
          refine goes_ Tryd.func85 (by kernel_rfl) rfl #[.agg #[.int .i64 t144, .slice Ao46 x146001_1.length co46]] (by rfl) rfl rfl mapT ?_
          with_reducible refine (spec_pzGood.calls k1 t144 _ _ x146001_1 true _ ?side1 ?side2 A42.out).mono ?_
          (case side1 => exact cS (Kd.R_reads' HO_146001.out).2.2)
          (case side2 => exact (Kd.R_reads' HO_146001.out).2.1)
          rintro e w47 ⟨rfl, hb⟩
          refine ⟨_, rfl, ?_⟩
          replace HO_32 := Aside0.mk (Kd.R_below (rU HO_32) hb)
          replace HO_146001 := Aside0.mk (Kd.R_below (rU HO_146001) hb)
          replace BK139 := bS BK139 hb
          replace BK145 := bS BK145 hb
          replace HB := hS HB hb
          (try clear hb)
          (try clear hb2)
          (try clear hk)
          (try clear hi)
          refine hK.out _ _ ⟨(blk_cell BK145.out 0).trans rfl, (blk_cell BK145.out 1).trans rfl⟩ (fun hHeld => ?_)
          clear hK K
          refine norm_ (a' := ?_) ?_ ?_
          rotate_left
          ·show Act.put _ (some 65) _ = _
           simp only [Act.put, List.setIfInBounds_toArray, List.set_cons_zero, List.set_cons_succ, i64_w, i32_w]
           rfl
          refine run_ [(0, 3, 15, some 66), (0, 6, 79, some 69), (1, 4, 95, some 67)] ?_
          repeat (first | (apply tag0; refine run_p (v := ?_) (a' := ?_) rfl rfl (any_of HT_.out (by kernel_rfl)) (fun _ _ _ h => h) (by rfl) ?_ ?_ ?_; rotate_left 2; (intro w'; go_simp; with_reducible rfl); (first | (simp only [Act.put, List.setIfInBounds_toArray, List.set_cons_zero, List.set_cons_succ, i64_w, i32_w]; rfl) | rfl)) | (apply tag1; refine run_t (v := ?_) (a' := ?_) rfl rfl (take_ofW HT_.out HW_.out (by kernel_rfl)) (fun _ _ _ h => h) (by rfl) ?_ hHeld ?_ ?_; rotate_left 2; (rintro w' ⟨s0, s1⟩; go_simp; with_reducible rfl); (first | (simp only [Act.put, List.setIfInBounds_toArray, List.set_cons_zero, List.set_cons_succ, i64_w, i32_w]; rfl) | rfl)))
          refine run_nil ?_
          refine one_ (i := 5) (N := some 68) (bz 11 127) rfl rfl (one_of HT_.out (by kernel_rfl)) (by decide) (fun K hK => ?_)
          refine goes_ Tryd.func86 (by kernel_rfl) rfl #[.agg #[.int .i64 t144, .slice Ao46 x146001_1.length co46]] (by rfl) rfl rfl mapT ?_
          with_reducible refine (spec_pzText.calls k1 t144 _ _ x146001_1 t152 _ ?side1 ?side2 A44.out).mono ?_
          (case side1 => exact cS (Kd.R_reads' HO_146001.out).2.2)
          (case side2 => exact (Kd.R_reads' HO_146001.out).2.1)
          rintro e w48 ⟨rfl, hb⟩
          refine ⟨_, rfl, ?_⟩
          replace HO_32 := Aside0.mk (Kd.R_below (rU HO_32) hb)
          replace HO_146001 := Aside0.mk (Kd.R_below (rU HO_146001) hb)
          replace BK139 := bS BK139 hb
          replace BK145 := bS BK145 hb
          replace HB := hS HB hb
          (try clear hb)
          (try clear hb2)
          (try clear hk)
          (try clear hi)
          refine hK.out _ _ ⟨(blk_cell BK145.out 0).trans rfl, (blk_cell BK145.out 1).trans rfl⟩ (fun hHeld => ?_)
          clear hK K
          refine norm_ (a' := ?_) ?_ ?_
          rotate_left
          ·show Act.put _ (some 68) _ = _
           simp only [Act.put, List.setIfInBounds_toArray, List.set_cons_zero, List.set_cons_succ, i64_w, i32_w]
           rfl
          refine run_ [(0, 7, 255, some 70), (0, 8, 511, some 71)] ?_
          repeat ((apply tag0; refine run_p (v := ?_) (a' := ?_) rfl rfl (any_of HT_.out (by kernel_rfl)) (fun _ _ _ h => h) (by rfl) ?_ ?_ ?_; rotate_left 2; (intro w'; go_simp; with_reducible rfl); (first | (simp only [Act.put, List.setIfInBounds_toArray, List.set_cons_zero, List.set_cons_succ, i64_w, i32_w]; rfl) | rfl)))
          refine run_nil ?_
          refine one_ (i := 9) (N := none) (bz 11 1023) rfl rfl (one_of HT_.out (by kernel_rfl)) (by decide) (fun K hK => ?_)
          have hs49 : w48.cell? ⟨gb139, 0, none⟩ = some (.int .i64 x140000_1) := (blk_cell BK139.out 0).trans rfl
          have hfs49 := fz BK139 0
          have hns49_1 := NB145_139.out
          have hms49_1 := NB139_145.out
          have hs50 : w48.cell? ⟨gb139, 1, none⟩ = some (.slice none 0 0) := (blk_cell BK139.out 1).trans rfl
          have hfs50 := fz BK139 1
          have hns50_1 := NB145_139.out
          have hms50_1 := NB139_145.out
          refine skip_ (w1 := ?_) (by rfl) rfl ?_ ?_
          rotate_left
          ·go_simp
           rfl
          refine hK.out _ _ ⟨((cell_far (p := ⟨gb139, _, none⟩) NB145_139.out _).trans (((cell_far (p := ⟨gb139, _, none⟩) NB145_139.out _).trans (hHeld.1)))), ((cell_far (p := ⟨gb139, _, none⟩) NB145_139.out _).trans (((cell_far (p := ⟨gb139, _, none⟩) NB145_139.out _).trans (hHeld.2))))⟩ (fun hHeld => ?_)
          clear hK K
          refine run_ [(0, 10, 2047, some 3)] ?_
          repeat ((apply tag0; refine run_p (v := ?_) (a' := ?_) rfl rfl (any_of HT_.out (by kernel_rfl)) (fun _ _ _ h => h) (by rfl) ?_ ?_ ?_; rotate_left 2; (intro w'; go_simp; with_reducible rfl); (first | (simp only [Act.put, List.setIfInBounds_toArray, List.set_cons_zero, List.set_cons_succ, i64_w, i32_w]; rfl) | rfl)))
          refine run_nil ?_
          refine done_ (done_of HT_.out (by kernel_rfl)) ?_
          try go_wp2
          refine bodyPost_ret (results_ct rfl _ _ gb139 53 #[.int .i64 t144, .slice Ao46 x146001_1.length co46] (0, 0) _ rfl (by (with_reducible repeat (first | refine blk_drewN ?_ _ | refine blk_drew ?_ | refine blk_alloc ?_ _)); refine blk_put (cs := #[.int .i64 t144, .slice none 0 0]) ?_ 1 _ rfl; (with_reducible repeat (first | refine blk_drewN ?_ _ | refine blk_drew ?_ | refine blk_alloc ?_ _)); refine blk_put (cs := #[.int .i64 x140000_1, .slice none 0 0]) ?_ 0 _ rfl; (with_reducible repeat (first | refine blk_drewN ?_ _ | refine blk_drew ?_ | refine blk_alloc ?_ _)); exact BK139.out) Tryd.underlying53 rfl (by kernel_rfl)) rfl ?_
          exact ⟨_, by first | rfl | (simp [errW_none, errW_some] <;> rfl) | (simp [*, errW_none, errW_some] <;> rfl), by (with_reducible repeat (first | apply Kd.R_alloc | apply Kd.R_drewN | apply Kd.R_drew)); exact Kd.R_mono (Kd.R_far (p := ⟨gb139, 1, none⟩) (Kd.R_far (p := ⟨gb139, 0, none⟩) (Kd.R_types HO_146001.out BK139.out (by decide)) (fun _ hk => hk.2) (.int .i64 t144)) (fun _ hk => hk.2) (.slice Ao46 x146001_1.length co46)) (fun _ hk => trivial), hB⟩
         ·replace c43 := Bool.eq_false_iff.mpr c43
          subst c43
          rw [if_neg (show ¬ (false = true) by decide)] at H
          simp only [Option.some.injEq, Prod.mk.injEq] at H
          obtain ⟨rfl, rfl, rfl⟩ := H
          try go_wp2
          replace HO_32 := Aside0.mk (Kd.R_drew HO_32.out)
          replace HO_146001 := Aside0.mk (Kd.R_drew HO_146001.out)
          replace BK139 := Aside0.mk (blk_drew BK139.out)
          replace BK145 := Aside0.mk (blk_drew BK145.out)
          replace HB := Aside0.mk (below_drew1 HB.out)
          obtain ⟨Ao52, co52, eo52⟩ := Kd.R_slice HO_146001.out
          (first | subst eo52 | (injection eo52 with f1_ f2_ f3_; have f4_ := f1_.symm; have f5_ := f3_.symm; clear f1_ f2_ f3_; subst f4_; subst f5_))
          refine start_ (n := 11) (S := fun w' => w'.cell? ⟨gb145, 0, none⟩ = some (.int .i64 t144) ∧ w'.cell? ⟨gb145, 1, none⟩ = some (.slice Ao52 x146001_1.length co52)) (ds := []) (bz 11 0) (by kernel_rfl) rfl rfl ⟨(blk_cell BK145.out 0).trans rfl, (blk_cell BK145.out 1).trans rfl⟩ (fun hHeld => ?_); refine with_tabW spec_pzParse.tab16 spec_pzParse.bits16 (fun HT_ HW_ => ?_)
          generalize wr.drew = w51 at HO_32 HO_146001 BK139 BK145 HB hHeld ⊢
          refine run_ [(1, 0, 1, some 63), (1, 1, 3, some 64)] ?_
          repeat ((apply tag1; refine run_t (v := ?_) (a' := ?_) rfl rfl (take_ofW HT_.out HW_.out (by kernel_rfl)) (fun _ _ _ h => h) (by rfl) ?_ hHeld ?_ ?_; rotate_left 2; (rintro w' ⟨s0, s1⟩; go_simp; with_reducible rfl); (first | (simp only [Act.put, List.setIfInBounds_toArray, List.set_cons_zero, List.set_cons_succ, i64_w, i32_w]; rfl) | rfl)))
          refine run_nil ?_
          refine one_ (i := 2) (N := some 65) (bz 11 7) rfl rfl (one_of HT_.out (by kernel_rfl)) (by decide) (fun K hK => ?_)
          refine goes_ Tryd.func85 (by kernel_rfl) rfl #[.agg #[.int .i64 t144, .slice Ao52 x146001_1.length co52]] (by rfl) rfl rfl mapT ?_
          with_reducible refine (spec_pzGood.calls k1 t144 _ _ x146001_1 false _ ?side1 ?side2 A42.out).mono ?_
          (case side1 => exact cS (Kd.R_reads' HO_146001.out).2.2)
          (case side2 => exact (Kd.R_reads' HO_146001.out).2.1)
          rintro e w53 ⟨rfl, hb⟩
          refine ⟨_, rfl, ?_⟩
          replace HO_32 := Aside0.mk (Kd.R_below (rU HO_32) hb)
          replace HO_146001 := Aside0.mk (Kd.R_below (rU HO_146001) hb)
          replace BK139 := bS BK139 hb
          replace BK145 := bS BK145 hb
          replace HB := hS HB hb
          (try clear hb)
          (try clear hb2)
          (try clear hk)
          (try clear hi)
          refine hK.out _ _ ⟨(blk_cell BK145.out 0).trans rfl, (blk_cell BK145.out 1).trans rfl⟩ (fun hHeld => ?_)
          clear hK K
          refine norm_ (a' := ?_) ?_ ?_
          rotate_left
          ·show Act.put _ (some 65) _ = _
           simp only [Act.put, List.setIfInBounds_toArray, List.set_cons_zero, List.set_cons_succ, i64_w, i32_w]
           rfl
          refine run_ [(0, 3, 15, some 66), (2, 4, 31, some 67), (2, 5, 63, some 68), (2, 6, 127, some 69), (2, 7, 255, some 70), (0, 8, 511, some 71)] ?_
          repeat (first | (apply tag0; refine run_p (v := ?_) (a' := ?_) rfl rfl (any_of HT_.out (by kernel_rfl)) (fun _ _ _ h => h) (by rfl) ?_ ?_ ?_; rotate_left 2; (intro w'; go_simp; with_reducible rfl); (first | (simp only [Act.put, List.setIfInBounds_toArray, List.set_cons_zero, List.set_cons_succ, i64_w, i32_w]; rfl) | rfl)) | (apply tag2; refine run_o (a' := ?_) rfl rfl (any_of HT_.out (by kernel_rfl)) (fun _ _ _ h => h) (by rfl) ?_ ?_; rotate_left; (first | (simp only [Act.put, List.setIfInBounds_toArray, List.set_cons_zero, List.set_cons_succ, i64_w, i32_w]; rfl) | rfl)))
          refine run_nil ?_
          refine one_ (i := 9) (N := none) (bz 11 1023) rfl rfl (one_of HT_.out (by kernel_rfl)) (by decide) (fun K hK => ?_)
          have hs54 : w53.cell? ⟨gb139, 0, none⟩ = some (.int .i64 x140000_1) := (blk_cell BK139.out 0).trans rfl
          have hfs54 := fz BK139 0
          have hns54_1 := NB145_139.out
          have hms54_1 := NB139_145.out
          have hs55 : w53.cell? ⟨gb139, 1, none⟩ = some (.slice none 0 0) := (blk_cell BK139.out 1).trans rfl
          have hfs55 := fz BK139 1
          have hns55_1 := NB145_139.out
          have hms55_1 := NB139_145.out
          refine skip_ (w1 := ?_) (by rfl) rfl ?_ ?_
          rotate_left
          ·go_simp
           rfl
          refine hK.out _ _ ⟨((cell_far (p := ⟨gb139, _, none⟩) NB145_139.out _).trans (((cell_far (p := ⟨gb139, _, none⟩) NB145_139.out _).trans (hHeld.1)))), ((cell_far (p := ⟨gb139, _, none⟩) NB145_139.out _).trans (((cell_far (p := ⟨gb139, _, none⟩) NB145_139.out _).trans (hHeld.2))))⟩ (fun hHeld => ?_)
          clear hK K
          refine run_ [(0, 10, 2047, some 3)] ?_
          repeat ((apply tag0; refine run_p (v := ?_) (a' := ?_) rfl rfl (any_of HT_.out (by kernel_rfl)) (fun _ _ _ h => h) (by rfl) ?_ ?_ ?_; rotate_left 2; (intro w'; go_simp; with_reducible rfl); (first | (simp only [Act.put, List.setIfInBounds_toArray, List.set_cons_zero, List.set_cons_succ, i64_w, i32_w]; rfl) | rfl)))
          refine run_nil ?_
          refine done_ (done_of HT_.out (by kernel_rfl)) ?_
          try go_wp2
          refine bodyPost_ret (results_ct rfl _ _ gb139 53 #[.int .i64 t144, .slice Ao52 x146001_1.length co52] (0, 0) _ rfl (by (with_reducible repeat (first | refine blk_drewN ?_ _ | refine blk_drew ?_ | refine blk_alloc ?_ _)); refine blk_put (cs := #[.int .i64 t144, .slice none 0 0]) ?_ 1 _ rfl; (with_reducible repeat (first | refine blk_drewN ?_ _ | refine blk_drew ?_ | refine blk_alloc ?_ _)); refine blk_put (cs := #[.int .i64 x140000_1, .slice none 0 0]) ?_ 0 _ rfl; (with_reducible repeat (first | refine blk_drewN ?_ _ | refine blk_drew ?_ | refine blk_alloc ?_ _)); exact BK139.out) Tryd.underlying53 rfl (by kernel_rfl)) rfl ?_
          exact ⟨_, by first | rfl | (simp [errW_none, errW_some] <;> rfl) | (simp [*, errW_none, errW_some] <;> rfl), by (with_reducible repeat (first | apply Kd.R_alloc | apply Kd.R_drewN | apply Kd.R_drew)); exact Kd.R_mono (Kd.R_far (p := ⟨gb139, 1, none⟩) (Kd.R_far (p := ⟨gb139, 0, none⟩) (Kd.R_types HO_146001.out BK139.out (by decide)) (fun _ hk => hk.2) (.int .i64 t144)) (fun _ hk => hk.2) (.slice Ao52 x146001_1.length co52)) (fun _ hk => trivial), hB⟩
     ·rw [if_neg c10] at H
      have c10b0 : decide (0 < ((rdOf ByteArray.empty t140 1).size : Int)) = false := decide_eq_false c10
      have c10b1 : decide (0 < (rdOf ByteArray.empty t140 1).size) = false := decide_eq_false (by omega)
      clear c10
      replace H := Option.bind_eq_some_iff.mp H
      obtain ⟨t166, A560, H⟩ := H
      try dsimp only at H
      have A56 := Aside0.mk A560
      clear A560
      by_cases c57 : t166 = true
      ·subst c57
       rw [if_pos rfl] at H
       replace H := Option.bind_eq_some_iff.mp H
       obtain ⟨t167, A580, H⟩ := H
       try dsimp only at H
       have A58 := Aside0.mk A580
       clear A580
       simp only [Option.some.injEq, Prod.mk.injEq] at H
       obtain ⟨rfl, rfl, rfl⟩ := H
       go_enter Tryd.func55, Tryd.ntmps55
       try go_wp2_with (first | ((with_reducible refine gate_dst (N := 2) rfl ?_); refine bxE 2 #[.int .i64 0, .slice none 0 0] 53 rfl ?_; intro gb139 hg w59 hbox hb; have BK139 := Aside0.mk (hbox); have GW139 := gS HB hg; have GE139 := gS HB hg; replace HB := hS HB hb; clear hb hbox hg) | ((with_reducible refine gate_callee (f := 83) rfl ?_); refine goC (N := some 14) Tryd.func83 #[.string a0, .int .u8 58] rfl ?_; (with_reducible refine (spec_l1Split.calls k a0 58 t140 _ A5.out).mono ?_); rintro e w60 ⟨v141, rfl, ho0, hb⟩; refine ⟨_, rfl, ?_⟩; have HO142 := Aside0.mk (Kd.R_lower ho0 (below_size hB)); replace BK139 := bS BK139 hb; replace HB := hS HB hb; (try clear hb); (try clear hb2); (try clear hk); (try clear hi); (try clear ho0); obtain ⟨Ao61, co61, eo61⟩ := Kd.R_slice HO142.out; subst eo61; have p143 : 0 ≤ (0 : Int) := (by omega); have q143 : 0 < (t140.length : Int) := of_decide_eq_true (by first | (with_reducible assumption) | assumption); obtain ⟨ad143, e143, hx143_0⟩ := Kd.at_string (Kd.R_reads' HO142.out).2.2 0 p143 q143; cases e143; have qi143 : (0 < t140.length) = True := eq_true (by omega); (try rw [show ((0 : Int)).toNat = 0 from rfl] at hx143_0); (try rw [Addr.add_zero'] at hx143_0); replace p143 := eq_true p143; replace q143 := eq_true q143) | ((with_reducible refine gate_callee (f := 84) rfl ?_); refine goC (N := some 22) Tryd.func84 #[.string (rdOf ByteArray.empty t140 0)] rfl ?_; (with_reducible refine (spec_l1Read.calls k (rdOf ByteArray.empty t140 0) t144 _ A8.out).mono ?_); rintro e w' ⟨rfl, ⟨nd, rfl⟩⟩; refine ⟨_, rfl, ?_⟩; (try (rw [drewN_self w60]; generalize hq_ : World.drewN w60 _ = w60; have n0_ : Aside0 (Kd.R Kd.string 9 w60 w.heap.size (fun _ => True) (.slice (some ad143) t140.length co61) t140) := ⟨by rw [← hq_]; exact (rU HO142)⟩; have n1_ : Aside0 (w60.heap[gb139]? = some (.cells #[.int .i64 0, .slice none 0 0] 53 (0, 0))) := ⟨by rw [← hq_]; exact bK⟩; have n2_ : Aside0 (Below w.heap.size w w60) := ⟨by rw [← hq_]; exact hB⟩; clear HO142 BK139 HB hq_; have HO142 := n0_; have BK139 := n1_; have HB := n2_; clear n0_ n1_ n2_))) | ((with_reducible refine gate_dst (N := 5) rfl ?_); refine bxE 5 #[.int .i64 0, .slice none 0 0] 53 rfl ?_; intro gb145 hg w62 hbox hb; have BK145 := Aside0.mk (hbox); have GW145 := gS HB hg; have GE145 := gS HB hg; have NB139_145 := nL BK139 hg; have NB145_139 := nG BK139 hg; replace HO142 := Aside0.mk (Kd.R_below (rU HO142) hb); replace BK139 := bS BK139 hb; replace HB := hS HB hb; clear hb hbox hg; have hnb63 := NB145_139.out; have hnc63 := NB139_145.out; have hcz64_0 := cz BK145 0; have hcz64_1 := cz BK145 1; have hfz64_0 := fz BK145 0; have hfz64_1 := fz BK145 1; have p146 : 0 ≤ (1 : Int) := (by omega); have q146 : 1 < (t140.length : Int) := of_decide_eq_true (by first | (with_reducible assumption) | assumption); obtain ⟨ad146, e146, hx146_0⟩ := Kd.at_string (Kd.R_reads' HO142.out).2.2 1 p146 q146; obtain rfl : ad143 = ad146 := (by injection e146); (try simp only [show (1 : Int).toNat = 1 from rfl, Nat.reduceMul, Nat.reduceEqDiff, Go.Addr.add, ↓reduceIte] at hx146_0); have qi146 : (1 < t140.length) = True := eq_true (by omega); (try rw [show ((1 : Int)).toNat = 1 from rfl] at hx146_0); have hn146_0 : ad143.block ≠ gb145 := Kd.own_blk (Kd.R_ne HO142.out BK145.out (by decide)); have hn146_1 : ad143.block ≠ gb145 := Kd.own_blk (Kd.R_ne HO142.out BK145.out (by decide)); replace hx146_0 := (cell_far (p := ⟨gb145, 0, none⟩) (by first | (rw [add_block]; exact hn146_0) | (show (Addr.add _ _).block ≠ _; rw [add_block]; exact hn146_0) | exact hn146_0) (.int .i64 t144)).trans hx146_0; replace hx146_0 := (cell_far (p := ⟨gb145, 1, none⟩) (by first | (rw [add_block]; exact hn146_1) | (show (Addr.add _ _).block ≠ _; rw [add_block]; exact hn146_1) | exact hn146_1) (.slice none 0 0)).trans hx146_0; clear hn146_0; clear hn146_1; replace p146 := eq_true p146; replace q146 := eq_true q146))
       have n0_ : Aside0 (Kd.R Kd.string 9 ((w62.setCell ⟨gb145, 0, none⟩ (.int .i64 t144)).setCell ⟨gb145, 1, none⟩ (.slice none 0 0)) w.heap.size (fun _ => True) (.slice (some ad143) t140.length co61) t140) := ⟨by (with_reducible repeat (first | apply Kd.R_alloc | apply Kd.R_drewN | apply Kd.R_drew)); exact Kd.R_mono (Kd.R_far (p := ⟨gb145, 1, none⟩) (Kd.R_far (p := ⟨gb145, 0, none⟩) (Kd.R_types HO142.out BK145.out (by decide)) (fun _ hk => hk.2) (.int .i64 t144)) (fun _ hk => hk.2) (.slice none 0 0)) (fun _ hk => trivial)⟩
       have n1_ : Aside0 (((w62.setCell ⟨gb145, 0, none⟩ (.int .i64 t144)).setCell ⟨gb145, 1, none⟩ (.slice none 0 0)).heap[gb139]? = some (.cells #[.int .i64 0, .slice none 0 0] 53 (0, 0))) := ⟨by (with_reducible repeat (first | refine blk_drewN ?_ _ | refine blk_drew ?_ | refine blk_alloc ?_ _)); refine blk_far ?_ NB139_145.out _; (with_reducible repeat (first | refine blk_drewN ?_ _ | refine blk_drew ?_ | refine blk_alloc ?_ _)); refine blk_far ?_ NB139_145.out _; (with_reducible repeat (first | refine blk_drewN ?_ _ | refine blk_drew ?_ | refine blk_alloc ?_ _)); exact BK139.out⟩
       have n2_ : Aside0 (((w62.setCell ⟨gb145, 0, none⟩ (.int .i64 t144)).setCell ⟨gb145, 1, none⟩ (.slice none 0 0)).heap[gb145]? = some (.cells #[.int .i64 t144, .slice none 0 0] 53 (0, 0))) := ⟨by (with_reducible repeat (first | refine blk_drewN ?_ _ | refine blk_drew ?_ | refine blk_alloc ?_ _)); refine blk_put (cs := #[.int .i64 t144, .slice none 0 0]) ?_ 1 _ rfl; (with_reducible repeat (first | refine blk_drewN ?_ _ | refine blk_drew ?_ | refine blk_alloc ?_ _)); refine blk_put (cs := #[.int .i64 0, .slice none 0 0]) ?_ 0 _ rfl; (with_reducible repeat (first | refine blk_drewN ?_ _ | refine blk_drew ?_ | refine blk_alloc ?_ _)); exact BK145.out⟩
       have n3_ : Aside0 (Below w.heap.size w ((w62.setCell ⟨gb145, 0, none⟩ (.int .i64 t144)).setCell ⟨gb145, 1, none⟩ (.slice none 0 0))) := ⟨hB⟩
       (try clear HO142)
       (try clear BK139)
       (try clear BK145)
       (try clear HB)
       generalize ((w62.setCell ⟨gb145, 0, none⟩ (.int .i64 t144)).setCell ⟨gb145, 1, none⟩ (.slice none 0 0)) = w65 at n0_ n1_ n2_ n3_ ⊢
       have HO142 := n0_
       have BK139 := n1_
       have BK145 := n2_
       have HB := n3_
       clear n0_ n1_ n2_ n3_
       replace HO142 := Aside0.mk (Kd.R_drew HO142.out)
       replace BK139 := Aside0.mk (blk_drew BK139.out)
       replace BK145 := Aside0.mk (blk_drew BK145.out)
       replace HB := Aside0.mk (below_drew1 HB.out)
       refine start_ (n := 11) (S := fun w' => w'.cell? ⟨gb145, 0, none⟩ = some (.int .i64 t144) ∧ w'.cell? ⟨gb145, 1, none⟩ = some (.slice none 0 0)) (ds := []) (bz 11 0) (by kernel_rfl) rfl rfl ⟨(blk_cell BK145.out 0).trans rfl, (blk_cell BK145.out 1).trans rfl⟩ (fun hHeld => ?_); refine with_tabW spec_pzParse.tab16 spec_pzParse.bits16 (fun HT_ HW_ => ?_)
       generalize w65.drew = w66 at HO142 BK139 BK145 HB hHeld ⊢
       refine run_ [(1, 0, 1, some 63), (1, 1, 3, some 64)] ?_
       repeat ((apply tag1; refine run_t (v := ?_) (a' := ?_) rfl rfl (take_ofW HT_.out HW_.out (by kernel_rfl)) (fun _ _ _ h => h) (by rfl) ?_ hHeld ?_ ?_; rotate_left 2; (rintro w' ⟨s0, s1⟩; go_simp; with_reducible rfl); (first | (simp only [Act.put, List.setIfInBounds_toArray, List.set_cons_zero, List.set_cons_succ, i64_w, i32_w]; rfl) | rfl)))
       refine run_nil ?_
       refine one_ (i := 2) (N := some 65) (bz 11 7) rfl rfl (one_of HT_.out (by kernel_rfl)) (by decide) (fun K hK => ?_)
       refine goes_ Tryd.func85 (by kernel_rfl) rfl #[.agg #[.int .i64 t144, .slice none 0 0]] (by rfl) rfl rfl mapT ?_
       refine (spec_pzGood.calls k t144 _ _ ([] : List (S89)) true _ ?side1 ?side2 A56.out).mono ?_
       (case side1 => exact Kd.C_nil _ _)
       (case side2 => exact Nat.le_refl _)
       rintro e w67 ⟨rfl, hb⟩
       refine ⟨_, rfl, ?_⟩
       replace HO142 := Aside0.mk (Kd.R_below (rU HO142) hb)
       replace BK139 := bS BK139 hb
       replace BK145 := bS BK145 hb
       replace HB := hS HB hb
       (try clear hb)
       (try clear hb2)
       (try clear hk)
       (try clear hi)
       refine hK.out _ _ ⟨(blk_cell BK145.out 0).trans rfl, (blk_cell BK145.out 1).trans rfl⟩ (fun hHeld => ?_)
       clear hK K
       refine norm_ (a' := ?_) ?_ ?_
       rotate_left
       ·show Act.put _ (some 65) _ = _
        simp only [Act.put, List.setIfInBounds_toArray, List.set_cons_zero, List.set_cons_succ, i64_w, i32_w]
        rfl
       refine run_ [(0, 3, 15, some 66), (0, 6, 79, some 69), (1, 4, 95, some 67)] ?_
       repeat (first | (apply tag0; refine run_p (v := ?_) (a' := ?_) rfl rfl (any_of HT_.out (by kernel_rfl)) (fun _ _ _ h => h) (by rfl) ?_ ?_ ?_; rotate_left 2; (intro w'; go_simp; with_reducible rfl); (first | (simp only [Act.put, List.setIfInBounds_toArray, List.set_cons_zero, List.set_cons_succ, i64_w, i32_w]; rfl) | rfl)) | (apply tag1; refine run_t (v := ?_) (a' := ?_) rfl rfl (take_ofW HT_.out HW_.out (by kernel_rfl)) (fun _ _ _ h => h) (by rfl) ?_ hHeld ?_ ?_; rotate_left 2; (rintro w' ⟨s0, s1⟩; go_simp; with_reducible rfl); (first | (simp only [Act.put, List.setIfInBounds_toArray, List.set_cons_zero, List.set_cons_succ, i64_w, i32_w]; rfl) | rfl)))
       refine run_nil ?_
       refine one_ (i := 5) (N := some 68) (bz 11 127) rfl rfl (one_of HT_.out (by kernel_rfl)) (by decide) (fun K hK => ?_)
       refine goes_ Tryd.func86 (by kernel_rfl) rfl #[.agg #[.int .i64 t144, .slice none 0 0]] (by rfl) rfl rfl mapT ?_
       refine (spec_pzText.calls k t144 _ _ ([] : List (S89)) t167 _ ?side1 ?side2 A58.out).mono ?_
       (case side1 => exact Kd.C_nil _ _)
       (case side2 => exact Nat.le_refl _)
       rintro e w68 ⟨rfl, hb⟩
       refine ⟨_, rfl, ?_⟩
       replace HO142 := Aside0.mk (Kd.R_below (rU HO142) hb)
       replace BK139 := bS BK139 hb
       replace BK145 := bS BK145 hb
       replace HB := hS HB hb
       (try clear hb)
       (try clear hb2)
       (try clear hk)
       (try clear hi)
       refine hK.out _ _ ⟨(blk_cell BK145.out 0).trans rfl, (blk_cell BK145.out 1).trans rfl⟩ (fun hHeld => ?_)
       clear hK K
       refine norm_ (a' := ?_) ?_ ?_
       rotate_left
       ·show Act.put _ (some 68) _ = _
        simp only [Act.put, List.setIfInBounds_toArray, List.set_cons_zero, List.set_cons_succ, i64_w, i32_w]
        rfl
       refine run_ [(0, 7, 255, some 70), (0, 8, 511, some 71)] ?_
       repeat ((apply tag0; refine run_p (v := ?_) (a' := ?_) rfl rfl (any_of HT_.out (by kernel_rfl)) (fun _ _ _ h => h) (by rfl) ?_ ?_ ?_; rotate_left 2; (intro w'; go_simp; with_reducible rfl); (first | (simp only [Act.put, List.setIfInBounds_toArray, List.set_cons_zero, List.set_cons_succ, i64_w, i32_w]; rfl) | rfl)))
       refine run_nil ?_
       refine one_ (i := 9) (N := none) (bz 11 1023) rfl rfl (one_of HT_.out (by kernel_rfl)) (by decide) (fun K hK => ?_)
       have hs69 : w68.cell? ⟨gb139, 0, none⟩ = some (.int .i64 0) := (blk_cell BK139.out 0).trans rfl
       have hfs69 := fz BK139 0
       have hns69_1 := NB145_139.out
       have hms69_1 := NB139_145.out
       have hs70 : w68.cell? ⟨gb139, 1, none⟩ = some (.slice none 0 0) := (blk_cell BK139.out 1).trans rfl
       have hfs70 := fz BK139 1
       have hns70_1 := NB145_139.out
       have hms70_1 := NB139_145.out
       refine skip_ (w1 := ?_) (by rfl) rfl ?_ ?_
       rotate_left
       ·go_simp
        rfl
       refine hK.out _ _ ⟨((cell_far (p := ⟨gb139, _, none⟩) NB145_139.out _).trans (((cell_far (p := ⟨gb139, _, none⟩) NB145_139.out _).trans (hHeld.1)))), ((cell_far (p := ⟨gb139, _, none⟩) NB145_139.out _).trans (((cell_far (p := ⟨gb139, _, none⟩) NB145_139.out _).trans (hHeld.2))))⟩ (fun hHeld => ?_)
       clear hK K
       refine run_ [(0, 10, 2047, some 3)] ?_
       repeat ((apply tag0; refine run_p (v := ?_) (a' := ?_) rfl rfl (any_of HT_.out (by kernel_rfl)) (fun _ _ _ h => h) (by rfl) ?_ ?_ ?_; rotate_left 2; (intro w'; go_simp; with_reducible rfl); (first | (simp only [Act.put, List.setIfInBounds_toArray, List.set_cons_zero, List.set_cons_succ, i64_w, i32_w]; rfl) | rfl)))
       refine run_nil ?_
       refine done_ (done_of HT_.out (by kernel_rfl)) ?_
       try go_wp2
       refine bodyPost_ret (results_ct rfl _ _ gb139 53 #[.int .i64 t144, .slice none 0 0] (0, 0) _ rfl (by (with_reducible repeat (first | refine blk_drewN ?_ _ | refine blk_drew ?_ | refine blk_alloc ?_ _)); refine blk_put (cs := #[.int .i64 t144, .slice none 0 0]) ?_ 1 _ rfl; (with_reducible repeat (first | refine blk_drewN ?_ _ | refine blk_drew ?_ | refine blk_alloc ?_ _)); refine blk_put (cs := #[.int .i64 0, .slice none 0 0]) ?_ 0 _ rfl; (with_reducible repeat (first | refine blk_drewN ?_ _ | refine blk_drew ?_ | refine blk_alloc ?_ _)); exact BK139.out) Tryd.underlying53 rfl (by kernel_rfl)) rfl ?_
       exact ⟨_, by first | rfl | (simp [errW_none, errW_some] <;> rfl) | (simp [*, errW_none, errW_some] <;> rfl), by first | exact Kd.R_nil _ _ _ _ _ | exact Kd.N_nil _ _ _ _ _ | exact Kd.V_nil _ _ _ _ _ | exact Kd.Q_nil _ _ _ _ _ | exact Kd.S_nil _ _ _ _ _, hB⟩
      ·replace c57 := Bool.eq_false_iff.mpr c57
       subst c57
       rw [if_neg (show ¬ (false = true) by decide)] at H
       simp only [Option.some.injEq, Prod.mk.injEq] at H
       obtain ⟨rfl, rfl, rfl⟩ := H
       go_enter Tryd.func55, Tryd.ntmps55
       try go_wp2_with (first | ((with_reducible refine gate_dst (N := 2) rfl ?_); refine bxE 2 #[.int .i64 0, .slice none 0 0] 53 rfl ?_; intro gb139 hg w71 hbox hb; have BK139 := Aside0.mk (hbox); have GW139 := gS HB hg; have GE139 := gS HB hg; replace HB := hS HB hb; clear hb hbox hg) | ((with_reducible refine gate_callee (f := 83) rfl ?_); refine goC (N := some 14) Tryd.func83 #[.string a0, .int .u8 58] rfl ?_; (with_reducible refine (spec_l1Split.calls k a0 58 t140 _ A5.out).mono ?_); rintro e w72 ⟨v141, rfl, ho0, hb⟩; refine ⟨_, rfl, ?_⟩; have HO142 := Aside0.mk (Kd.R_lower ho0 (below_size hB)); replace BK139 := bS BK139 hb; replace HB := hS HB hb; (try clear hb); (try clear hb2); (try clear hk); (try clear hi); (try clear ho0); obtain ⟨Ao73, co73, eo73⟩ := Kd.R_slice HO142.out; subst eo73; have p143 : 0 ≤ (0 : Int) := (by omega); have q143 : 0 < (t140.length : Int) := of_decide_eq_true (by first | (with_reducible assumption) | assumption); obtain ⟨ad143, e143, hx143_0⟩ := Kd.at_string (Kd.R_reads' HO142.out).2.2 0 p143 q143; cases e143; have qi143 : (0 < t140.length) = True := eq_true (by omega); (try rw [show ((0 : Int)).toNat = 0 from rfl] at hx143_0); (try rw [Addr.add_zero'] at hx143_0); replace p143 := eq_true p143; replace q143 := eq_true q143) | ((with_reducible refine gate_callee (f := 84) rfl ?_); refine goC (N := some 22) Tryd.func84 #[.string (rdOf ByteArray.empty t140 0)] rfl ?_; (with_reducible refine (spec_l1Read.calls k (rdOf ByteArray.empty t140 0) t144 _ A8.out).mono ?_); rintro e w' ⟨rfl, ⟨nd, rfl⟩⟩; refine ⟨_, rfl, ?_⟩; (try (rw [drewN_self w72]; generalize hq_ : World.drewN w72 _ = w72; have n0_ : Aside0 (Kd.R Kd.string 9 w72 w.heap.size (fun _ => True) (.slice (some ad143) t140.length co73) t140) := ⟨by rw [← hq_]; exact (rU HO142)⟩; have n1_ : Aside0 (w72.heap[gb139]? = some (.cells #[.int .i64 0, .slice none 0 0] 53 (0, 0))) := ⟨by rw [← hq_]; exact bK⟩; have n2_ : Aside0 (Below w.heap.size w w72) := ⟨by rw [← hq_]; exact hB⟩; clear HO142 BK139 HB hq_; have HO142 := n0_; have BK139 := n1_; have HB := n2_; clear n0_ n1_ n2_))) | ((with_reducible refine gate_dst (N := 5) rfl ?_); refine bxE 5 #[.int .i64 0, .slice none 0 0] 53 rfl ?_; intro gb145 hg w74 hbox hb; have BK145 := Aside0.mk (hbox); have GW145 := gS HB hg; have GE145 := gS HB hg; have NB139_145 := nL BK139 hg; have NB145_139 := nG BK139 hg; replace HO142 := Aside0.mk (Kd.R_below (rU HO142) hb); replace BK139 := bS BK139 hb; replace HB := hS HB hb; clear hb hbox hg; have hnb75 := NB145_139.out; have hnc75 := NB139_145.out; have hcz76_0 := cz BK145 0; have hcz76_1 := cz BK145 1; have hfz76_0 := fz BK145 0; have hfz76_1 := fz BK145 1; have p146 : 0 ≤ (1 : Int) := (by omega); have q146 : 1 < (t140.length : Int) := of_decide_eq_true (by first | (with_reducible assumption) | assumption); obtain ⟨ad146, e146, hx146_0⟩ := Kd.at_string (Kd.R_reads' HO142.out).2.2 1 p146 q146; obtain rfl : ad143 = ad146 := (by injection e146); (try simp only [show (1 : Int).toNat = 1 from rfl, Nat.reduceMul, Nat.reduceEqDiff, Go.Addr.add, ↓reduceIte] at hx146_0); have qi146 : (1 < t140.length) = True := eq_true (by omega); (try rw [show ((1 : Int)).toNat = 1 from rfl] at hx146_0); have hn146_0 : ad143.block ≠ gb145 := Kd.own_blk (Kd.R_ne HO142.out BK145.out (by decide)); have hn146_1 : ad143.block ≠ gb145 := Kd.own_blk (Kd.R_ne HO142.out BK145.out (by decide)); replace hx146_0 := (cell_far (p := ⟨gb145, 0, none⟩) (by first | (rw [add_block]; exact hn146_0) | (show (Addr.add _ _).block ≠ _; rw [add_block]; exact hn146_0) | exact hn146_0) (.int .i64 t144)).trans hx146_0; replace hx146_0 := (cell_far (p := ⟨gb145, 1, none⟩) (by first | (rw [add_block]; exact hn146_1) | (show (Addr.add _ _).block ≠ _; rw [add_block]; exact hn146_1) | exact hn146_1) (.slice none 0 0)).trans hx146_0; clear hn146_0; clear hn146_1; replace p146 := eq_true p146; replace q146 := eq_true q146))
       have n0_ : Aside0 (Kd.R Kd.string 9 ((w74.setCell ⟨gb145, 0, none⟩ (.int .i64 t144)).setCell ⟨gb145, 1, none⟩ (.slice none 0 0)) w.heap.size (fun _ => True) (.slice (some ad143) t140.length co73) t140) := ⟨by (with_reducible repeat (first | apply Kd.R_alloc | apply Kd.R_drewN | apply Kd.R_drew)); exact Kd.R_mono (Kd.R_far (p := ⟨gb145, 1, none⟩) (Kd.R_far (p := ⟨gb145, 0, none⟩) (Kd.R_types HO142.out BK145.out (by decide)) (fun _ hk => hk.2) (.int .i64 t144)) (fun _ hk => hk.2) (.slice none 0 0)) (fun _ hk => trivial)⟩
       have n1_ : Aside0 (((w74.setCell ⟨gb145, 0, none⟩ (.int .i64 t144)).setCell ⟨gb145, 1, none⟩ (.slice none 0 0)).heap[gb139]? = some (.cells #[.int .i64 0, .slice none 0 0] 53 (0, 0))) := ⟨by (with_reducible repeat (first | refine blk_drewN ?_ _ | refine blk_drew ?_ | refine blk_alloc ?_ _)); refine blk_far ?_ NB139_145.out _; (with_reducible repeat (first | refine blk_drewN ?_ _ | refine blk_drew ?_ | refine blk_alloc ?_ _)); refine blk_far ?_ NB139_145.out _; (with_reducible repeat (first | refine blk_drewN ?_ _ | refine blk_drew ?_ | refine blk_alloc ?_ _)); exact BK139.out⟩
       have n2_ : Aside0 (((w74.setCell ⟨gb145, 0, none⟩ (.int .i64 t144)).setCell ⟨gb145, 1, none⟩ (.slice none 0 0)).heap[gb145]? = some (.cells #[.int .i64 t144, .slice none 0 0] 53 (0, 0))) := ⟨by (with_reducible repeat (first | refine blk_drewN ?_ _ | refine blk_drew ?_ | refine blk_alloc ?_ _)); refine blk_put (cs := #[.int .i64 t144, .slice none 0 0]) ?_ 1 _ rfl; (with_reducible repeat (first | refine blk_drewN ?_ _ | refine blk_drew ?_ | refine blk_alloc ?_ _)); refine blk_put (cs := #[.int .i64 0, .slice none 0 0]) ?_ 0 _ rfl; (with_reducible repeat (first | refine blk_drewN ?_ _ | refine blk_drew ?_ | refine blk_alloc ?_ _)); exact BK145.out⟩
       have n3_ : Aside0 (Below w.heap.size w ((w74.setCell ⟨gb145, 0, none⟩ (.int .i64 t144)).setCell ⟨gb145, 1, none⟩ (.slice none 0 0))) := ⟨hB⟩
       (try clear HO142)
       (try clear BK139)
       (try clear BK145)
       (try clear HB)
       generalize ((w74.setCell ⟨gb145, 0, none⟩ (.int .i64 t144)).setCell ⟨gb145, 1, none⟩ (.slice none 0 0)) = w77 at n0_ n1_ n2_ n3_ ⊢
       have HO142 := n0_
       have BK139 := n1_
       have BK145 := n2_
       have HB := n3_
       clear n0_ n1_ n2_ n3_
       replace HO142 := Aside0.mk (Kd.R_drew HO142.out)
       replace BK139 := Aside0.mk (blk_drew BK139.out)
       replace BK145 := Aside0.mk (blk_drew BK145.out)
       replace HB := Aside0.mk (below_drew1 HB.out)
       refine start_ (n := 11) (S := fun w' => w'.cell? ⟨gb145, 0, none⟩ = some (.int .i64 t144) ∧ w'.cell? ⟨gb145, 1, none⟩ = some (.slice none 0 0)) (ds := []) (bz 11 0) (by kernel_rfl) rfl rfl ⟨(blk_cell BK145.out 0).trans rfl, (blk_cell BK145.out 1).trans rfl⟩ (fun hHeld => ?_); refine with_tabW spec_pzParse.tab16 spec_pzParse.bits16 (fun HT_ HW_ => ?_)
       generalize w77.drew = w78 at HO142 BK139 BK145 HB hHeld ⊢
       refine run_ [(1, 0, 1, some 63), (1, 1, 3, some 64)] ?_
       repeat ((apply tag1; refine run_t (v := ?_) (a' := ?_) rfl rfl (take_ofW HT_.out HW_.out (by kernel_rfl)) (fun _ _ _ h => h) (by rfl) ?_ hHeld ?_ ?_; rotate_left 2; (rintro w' ⟨s0, s1⟩; go_simp; with_reducible rfl); (first | (simp only [Act.put, List.setIfInBounds_toArray, List.set_cons_zero, List.set_cons_succ, i64_w, i32_w]; rfl) | rfl)))
       refine run_nil ?_
       refine one_ (i := 2) (N := some 65) (bz 11 7) rfl rfl (one_of HT_.out (by kernel_rfl)) (by decide) (fun K hK => ?_)
       refine goes_ Tryd.func85 (by kernel_rfl) rfl #[.agg #[.int .i64 t144, .slice none 0 0]] (by rfl) rfl rfl mapT ?_
       refine (spec_pzGood.calls k t144 _ _ ([] : List (S89)) false _ ?side1 ?side2 A56.out).mono ?_
       (case side1 => exact Kd.C_nil _ _)
       (case side2 => exact Nat.le_refl _)
       rintro e w79 ⟨rfl, hb⟩
       refine ⟨_, rfl, ?_⟩
       replace HO142 := Aside0.mk (Kd.R_below (rU HO142) hb)
       replace BK139 := bS BK139 hb
       replace BK145 := bS BK145 hb
       replace HB := hS HB hb
       (try clear hb)
       (try clear hb2)
       (try clear hk)
       (try clear hi)
       refine hK.out _ _ ⟨(blk_cell BK145.out 0).trans rfl, (blk_cell BK145.out 1).trans rfl⟩ (fun hHeld => ?_)
       clear hK K
       refine norm_ (a' := ?_) ?_ ?_
       rotate_left
       ·show Act.put _ (some 65) _ = _
        simp only [Act.put, List.setIfInBounds_toArray, List.set_cons_zero, List.set_cons_succ, i64_w, i32_w]
        rfl
       refine run_ [(0, 3, 15, some 66), (2, 4, 31, some 67), (2, 5, 63, some 68), (2, 6, 127, some 69), (2, 7, 255, some 70), (0, 8, 511, some 71)] ?_
       repeat (first | (apply tag0; refine run_p (v := ?_) (a' := ?_) rfl rfl (any_of HT_.out (by kernel_rfl)) (fun _ _ _ h => h) (by rfl) ?_ ?_ ?_; rotate_left 2; (intro w'; go_simp; with_reducible rfl); (first | (simp only [Act.put, List.setIfInBounds_toArray, List.set_cons_zero, List.set_cons_succ, i64_w, i32_w]; rfl) | rfl)) | (apply tag2; refine run_o (a' := ?_) rfl rfl (any_of HT_.out (by kernel_rfl)) (fun _ _ _ h => h) (by rfl) ?_ ?_; rotate_left; (first | (simp only [Act.put, List.setIfInBounds_toArray, List.set_cons_zero, List.set_cons_succ, i64_w, i32_w]; rfl) | rfl)))
       refine run_nil ?_
       refine one_ (i := 9) (N := none) (bz 11 1023) rfl rfl (one_of HT_.out (by kernel_rfl)) (by decide) (fun K hK => ?_)
       have hs80 : w79.cell? ⟨gb139, 0, none⟩ = some (.int .i64 0) := (blk_cell BK139.out 0).trans rfl
       have hfs80 := fz BK139 0
       have hns80_1 := NB145_139.out
       have hms80_1 := NB139_145.out
       have hs81 : w79.cell? ⟨gb139, 1, none⟩ = some (.slice none 0 0) := (blk_cell BK139.out 1).trans rfl
       have hfs81 := fz BK139 1
       have hns81_1 := NB145_139.out
       have hms81_1 := NB139_145.out
       refine skip_ (w1 := ?_) (by rfl) rfl ?_ ?_
       rotate_left
       ·go_simp
        rfl
       refine hK.out _ _ ⟨((cell_far (p := ⟨gb139, _, none⟩) NB145_139.out _).trans (((cell_far (p := ⟨gb139, _, none⟩) NB145_139.out _).trans (hHeld.1)))), ((cell_far (p := ⟨gb139, _, none⟩) NB145_139.out _).trans (((cell_far (p := ⟨gb139, _, none⟩) NB145_139.out _).trans (hHeld.2))))⟩ (fun hHeld => ?_)
       clear hK K
       refine run_ [(0, 10, 2047, some 3)] ?_
       repeat ((apply tag0; refine run_p (v := ?_) (a' := ?_) rfl rfl (any_of HT_.out (by kernel_rfl)) (fun _ _ _ h => h) (by rfl) ?_ ?_ ?_; rotate_left 2; (intro w'; go_simp; with_reducible rfl); (first | (simp only [Act.put, List.setIfInBounds_toArray, List.set_cons_zero, List.set_cons_succ, i64_w, i32_w]; rfl) | rfl)))
       refine run_nil ?_
       refine done_ (done_of HT_.out (by kernel_rfl)) ?_
       try go_wp2
       refine bodyPost_ret (results_ct rfl _ _ gb139 53 #[.int .i64 t144, .slice none 0 0] (0, 0) _ rfl (by (with_reducible repeat (first | refine blk_drewN ?_ _ | refine blk_drew ?_ | refine blk_alloc ?_ _)); refine blk_put (cs := #[.int .i64 t144, .slice none 0 0]) ?_ 1 _ rfl; (with_reducible repeat (first | refine blk_drewN ?_ _ | refine blk_drew ?_ | refine blk_alloc ?_ _)); refine blk_put (cs := #[.int .i64 0, .slice none 0 0]) ?_ 0 _ rfl; (with_reducible repeat (first | refine blk_drewN ?_ _ | refine blk_drew ?_ | refine blk_alloc ?_ _)); exact BK139.out) Tryd.underlying53 rfl (by kernel_rfl)) rfl ?_
       exact ⟨_, by first | rfl | (simp [errW_none, errW_some] <;> rfl) | (simp [*, errW_none, errW_some] <;> rfl), by first | exact Kd.R_nil _ _ _ _ _ | exact Kd.N_nil _ _ _ _ _ | exact Kd.V_nil _ _ _ _ _ | exact Kd.Q_nil _ _ _ _ _ | exact Kd.S_nil _ _ _ _ _, hB⟩
    ·rw [if_neg c9] at H
     exact absurd H (by simp)
   ·rw [if_neg c7] at H
    exact absurd H (by simp)
  ·rw [if_neg c6] at H
   have c6b0 : ((t140.length : Int) == 2) = false := beq_eq_false_iff_ne.mpr c6
   have c6b1 : ((t140.length : Int) != 2) = true := bne_iff_ne.mpr c6
   simp only [Option.some.injEq, Prod.mk.injEq] at H
   obtain ⟨rfl, rfl, rfl⟩ := H
   go_enter Tryd.func55, Tryd.ntmps55
   go_wp2_with (first | ((with_reducible refine gate_dst (N := 2) rfl ?_); refine bxE 2 #[.int .i64 0, .slice none 0 0] 53 rfl ?_; intro gb139 hg w82 hbox hb; have BK139 := Aside0.mk (hbox); have GW139 := gS HB hg; have GE139 := gS HB hg; replace HB := hS HB hb; clear hb hbox hg) | ((with_reducible refine gate_callee (f := 83) rfl ?_); refine goC (N := some 14) Tryd.func83 #[.string a0, .int .u8 58] rfl ?_; (with_reducible refine (spec_l1Split.calls k a0 58 t140 _ A5.out).mono ?_); rintro e w83 ⟨v141, rfl, ho0, hb⟩; refine ⟨_, rfl, ?_⟩; have HO142 := Aside0.mk (Kd.R_lower ho0 (below_size hB)); replace BK139 := bS BK139 hb; replace HB := hS HB hb; (try clear hb); (try clear hb2); (try clear hk); (try clear hi); (try clear ho0); obtain ⟨Ao84, co84, eo84⟩ := Kd.R_slice HO142.out; subst eo84; have hcz85_0 := cz BK139 0; have hcz85_1 := cz BK139 1; have hfz85_0 := fz BK139 0; have hfz85_1 := fz BK139 1))
   refine bodyPost_ret (results_ct rfl _ _ gb139 53 #[.int .i64 0, .slice none 0 0] (0, 0) _ rfl (by (with_reducible repeat (first | refine blk_drewN ?_ _ | refine blk_drew ?_ | refine blk_alloc ?_ _)); refine blk_put (cs := #[.int .i64 0, .slice none 0 0]) ?_ 1 _ rfl; (with_reducible repeat (first | refine blk_drewN ?_ _ | refine blk_drew ?_ | refine blk_alloc ?_ _)); refine blk_put (cs := #[.int .i64 0, .slice none 0 0]) ?_ 0 _ rfl; (with_reducible repeat (first | refine blk_drewN ?_ _ | refine blk_drew ?_ | refine blk_alloc ?_ _)); exact BK139.out) Tryd.underlying53 rfl (by kernel_rfl)) rfl ?_
   exact ⟨_, by first | rfl | (simp [errW_none, errW_some] <;> rfl) | (simp [*, errW_none, errW_some] <;> rfl), by first | exact Kd.R_nil _ _ _ _ _ | exact Kd.N_nil _ _ _ _ _ | exact Kd.V_nil _ _ _ _ _ | exact Kd.Q_nil _ _ _ _ _ | exact Kd.S_nil _ _ _ _ _, hB⟩

/-! ### spec_ParsePuzzle: function 27 -/
def spec_ParsePuzzle.f (k : Nat) (a0 : ByteArray) : Option (Int × (List (S89)) × Bool) := (spec_pzParse.f k a0).bind fun bt169 => (if bt169.2.2 = true then (some (bt169.1, bt169.2.1, true)) else (some (0, ([] : List (S89)), false)))
theorem spec_ParsePuzzle.mono : ∀ a0 k, LeO (spec_ParsePuzzle.f k a0) (spec_ParsePuzzle.f (k + 1) a0) := by
 intro a0 k
 unfold spec_ParsePuzzle.f
 repeat' first
   | (with_reducible exact spec_pzParse.mono _ _)
   | (with_reducible exact LeO.refl _)
   | (with_reducible exact LeO.none _)
   | (with_reducible refine LeO.ite ?_ ?_)
   | (with_reducible refine LeO.bind ?_ (fun _ => ?_))
   | exact spec_pzParse.mono _ _
   | exact LeO.none _
   | refine LeO.ite ?_ ?_
   | refine LeO.bind ?_ (fun _ => ?_)
set_option maxHeartbeats 8000000 in
set_option maxRecDepth 100000 in
theorem spec_ParsePuzzle.calls (k : Nat) (a0 : ByteArray) (r1 : Int) (r2 : List (S89)) (r3 : Bool) (w : World) (h : spec_ParsePuzzle.f k a0 = some (r1, r2, r3)) :
  Calls Tryd.prog 27 #[.string a0] w fun e w' => ∃ v1_ : Value, e = .returned (.tuple #[.agg #[.int .i64 r1, v1_], .bool r3]) ∧ Kd.R k89 89 w' w.heap.size (fun _ => True) v1_ r2 ∧ Below w.heap.size w w' := by
 have hu53 := Tryd.underlying53
 have HB := Aside0.mk (Below.refl w.heap.size w)
 have H : ((spec_pzParse.f k a0).bind fun bt169 => (if bt169.2.2 = true then (some (bt169.1, bt169.2.1, true)) else (some (0, ([] : List (S89)), false)))) = some (r1, r2, r3) := h
 clear h
 replace H := Option.bind_eq_some_iff.mp H
 obtain ⟨⟨t169, t170, t173⟩, A20, H⟩ := H
 try dsimp only at H
 have A2 := Aside0.mk A20
 clear A20
 by_cases c3 : t173 = true
 ·subst c3
  rw [if_pos rfl] at H
  simp only [Option.some.injEq, Prod.mk.injEq] at H
  obtain ⟨rfl, rfl, rfl⟩ := H
  go_enter Tryd.func27, Tryd.ntmps27
  go_wp2_with (first | ((with_reducible refine gate_dst (N := 2) rfl ?_); refine bxE 2 #[.int .i64 0, .slice none 0 0] 53 rfl ?_; intro gb168 hg w4 hbox hb; have BK168 := Aside0.mk (hbox); have GW168 := gS HB hg; have GE168 := gS HB hg; replace HB := hS HB hb; clear hb hbox hg) | ((with_reducible refine gate_callee (f := 55) rfl ?_); refine goC (N := some 8) Tryd.func55 #[.string a0] rfl ?_; (with_reducible refine (spec_pzParse.calls k a0 t169 t170 true _ A2.out).mono ?_); rintro e w5 ⟨v171, rfl, ho0, hb⟩; refine ⟨_, rfl, ?_⟩; have HO172 := Aside0.mk (Kd.R_lower ho0 (below_size hB)); replace BK168 := bS BK168 hb; replace HB := hS HB hb; (try clear hb); (try clear hb2); (try clear hk); (try clear hi); (try clear ho0)) | ((with_reducible refine gate_dst (N := 4) rfl ?_); refine bxE 4 #[.int .i64 0, .slice none 0 0] 53 rfl ?_; intro gb174 hg w6 hbox hb; have BK174 := Aside0.mk (hbox); have GW174 := gS HB hg; have GE174 := gS HB hg; have NB168_174 := nL BK168 hg; have NB174_168 := nG BK168 hg; replace HO172 := Aside0.mk (Kd.R_below (rU HO172) hb); replace BK168 := bS BK168 hb; replace HB := hS HB hb; clear hb hbox hg; have hnb7 := NB174_168.out; have hnc7 := NB168_174.out; have hcz8_0 := cz BK174 0; have hcz8_1 := cz BK174 1; have hfz8_0 := fz BK174 0; have hfz8_1 := fz BK174 1; obtain ⟨Ao9, co9, eo9⟩ := Kd.R_slice HO172.out; subst eo9; have hcz10_0 := cz BK168 0; have hcz10_1 := cz BK168 1; have hfz10_0 := fz BK168 0; have hfz10_1 := fz BK168 1))
  refine bodyPost_ret (results_ct rfl _ _ gb168 53 #[.int .i64 t169, .slice Ao9 t170.length co9] (0, 0) _ rfl (by (with_reducible repeat (first | refine blk_drewN ?_ _ | refine blk_drew ?_ | refine blk_alloc ?_ _)); refine blk_put (cs := #[.int .i64 t169, .slice none 0 0]) ?_ 1 _ rfl; (with_reducible repeat (first | refine blk_drewN ?_ _ | refine blk_drew ?_ | refine blk_alloc ?_ _)); refine blk_put (cs := #[.int .i64 0, .slice none 0 0]) ?_ 0 _ rfl; (with_reducible repeat (first | refine blk_drewN ?_ _ | refine blk_drew ?_ | refine blk_alloc ?_ _)); refine blk_far ?_ NB168_174.out _; (with_reducible repeat (first | refine blk_drewN ?_ _ | refine blk_drew ?_ | refine blk_alloc ?_ _)); refine blk_far ?_ NB168_174.out _; (with_reducible repeat (first | refine blk_drewN ?_ _ | refine blk_drew ?_ | refine blk_alloc ?_ _)); exact BK168.out) Tryd.underlying53 rfl (by kernel_rfl)) rfl ?_
  exact ⟨_, by first | rfl | (simp [errW_none, errW_some] <;> rfl) | (simp [*, errW_none, errW_some] <;> rfl), by (with_reducible repeat (first | apply Kd.R_alloc | apply Kd.R_drewN | apply Kd.R_drew)); exact Kd.R_mono (Kd.R_far (p := ⟨gb168, 1, none⟩) (Kd.R_far (p := ⟨gb168, 0, none⟩) (Kd.R_far (p := ⟨gb174, 1, none⟩) (Kd.R_far (p := ⟨gb174, 0, none⟩) (Kd.R_types (Kd.R_types HO172.out BK174.out (by decide)) BK168.out (by decide)) (fun _ hk => hk.1.2) (.int .i64 t169)) (fun _ hk => hk.1.2) (.slice Ao9 t170.length co9)) (fun _ hk => hk.2) (.int .i64 t169)) (fun _ hk => hk.2) (.slice Ao9 t170.length co9)) (fun _ hk => trivial), hB⟩
 ·replace c3 := Bool.eq_false_iff.mpr c3
  subst c3
  rw [if_neg (show ¬ (false = true) by decide)] at H
  simp only [Option.some.injEq, Prod.mk.injEq] at H
  obtain ⟨rfl, rfl, rfl⟩ := H
  go_enter Tryd.func27, Tryd.ntmps27
  go_wp2_with (first | ((with_reducible refine gate_dst (N := 2) rfl ?_); refine bxE 2 #[.int .i64 0, .slice none 0 0] 53 rfl ?_; intro gb168 hg w11 hbox hb; have BK168 := Aside0.mk (hbox); have GW168 := gS HB hg; have GE168 := gS HB hg; replace HB := hS HB hb; clear hb hbox hg) | ((with_reducible refine gate_callee (f := 55) rfl ?_); refine goC (N := some 8) Tryd.func55 #[.string a0] rfl ?_; (with_reducible refine (spec_pzParse.calls k a0 t169 t170 false _ A2.out).mono ?_); rintro e w12 ⟨v171, rfl, ho0, hb⟩; refine ⟨_, rfl, ?_⟩; have HO172 := Aside0.mk (Kd.R_lower ho0 (below_size hB)); replace BK168 := bS BK168 hb; replace HB := hS HB hb; (try clear hb); (try clear hb2); (try clear hk); (try clear hi); (try clear ho0)) | ((with_reducible refine gate_dst (N := 4) rfl ?_); refine bxE 4 #[.int .i64 0, .slice none 0 0] 53 rfl ?_; intro gb174 hg w13 hbox hb; have BK174 := Aside0.mk (hbox); have GW174 := gS HB hg; have GE174 := gS HB hg; have NB168_174 := nL BK168 hg; have NB174_168 := nG BK168 hg; replace HO172 := Aside0.mk (Kd.R_below (rU HO172) hb); replace BK168 := bS BK168 hb; replace HB := hS HB hb; clear hb hbox hg; have hnb14 := NB174_168.out; have hnc14 := NB168_174.out; have hcz15_0 := cz BK174 0; have hcz15_1 := cz BK174 1; have hfz15_0 := fz BK174 0; have hfz15_1 := fz BK174 1; obtain ⟨Ao16, co16, eo16⟩ := Kd.R_slice HO172.out; subst eo16; have hcz17_0 := cz BK168 0; have hcz17_1 := cz BK168 1; have hfz17_0 := fz BK168 0; have hfz17_1 := fz BK168 1))
  refine bodyPost_ret (results_ct rfl _ _ gb168 53 #[.int .i64 0, .slice none 0 0] (0, 0) _ rfl (by (with_reducible repeat (first | refine blk_drewN ?_ _ | refine blk_drew ?_ | refine blk_alloc ?_ _)); refine blk_put (cs := #[.int .i64 0, .slice none 0 0]) ?_ 1 _ rfl; (with_reducible repeat (first | refine blk_drewN ?_ _ | refine blk_drew ?_ | refine blk_alloc ?_ _)); refine blk_put (cs := #[.int .i64 0, .slice none 0 0]) ?_ 0 _ rfl; (with_reducible repeat (first | refine blk_drewN ?_ _ | refine blk_drew ?_ | refine blk_alloc ?_ _)); refine blk_far ?_ NB168_174.out _; (with_reducible repeat (first | refine blk_drewN ?_ _ | refine blk_drew ?_ | refine blk_alloc ?_ _)); refine blk_far ?_ NB168_174.out _; (with_reducible repeat (first | refine blk_drewN ?_ _ | refine blk_drew ?_ | refine blk_alloc ?_ _)); exact BK168.out) Tryd.underlying53 rfl (by kernel_rfl)) rfl ?_
  exact ⟨_, by first | rfl | (simp [errW_none, errW_some] <;> rfl) | (simp [*, errW_none, errW_some] <;> rfl), by first | exact Kd.R_nil _ _ _ _ _ | exact Kd.N_nil _ _ _ _ _ | exact Kd.V_nil _ _ _ _ _ | exact Kd.Q_nil _ _ _ _ _ | exact Kd.S_nil _ _ _ _ _, hB⟩

end Go.Proofs.YtfehaoadnbcgoaaDoor.PFnExactParsePuzzle
