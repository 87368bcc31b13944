-- Of this session's own program wip/gen/gen.py (it drives the kit's print): contracts of the functions that the law reaches.
import Derived.Test.YtdnkipagpagfiaaDoorPSol3x0
import Derived.Test.YtdnkipagpagfiaaDoorPSol3x10
import Derived.Test.YtdnkipagpagfiaaDoorPSol3x13
import Derived.Test.YtdnkipagpagfiaaDoorPSol3x14
namespace Go.Proofs.YtdnkipagpagfiaaDoor.PSol3
open Go.RowKit Go.Proofs.YtdnkipagpagfiaaDoorW.PrintWords Go.Proofs.YtdnkipagpagfiaaDoorW.PrintLast Go.Proofs.YtdnkipagpagfiaaDoorW.PrintMore Go.Proofs.YtdnkipagpagfiaaDoor.Base
attribute [local go_sem] max2_int min2_int max_two min_two max_three min_three max_four min_four   -- for this text's walks alone
set_option linter.unusedVariables false
set_option linter.unusedSimpArgs false

/-! ### impl_sure_1: function 121 (a text of this session's own) -/
def inB (k : Nat) (l : List S110) (x : S110) : Bool := (impl_Pair_124.f k l x.f0 x.f1).getD false
theorem impl_sure_1.calls (k : Nat) (L : List S34) (AL : Option Addr) (cL gl gf : Nat) (fr : Bool) (x : S110) (W : World) (hl : W.cell? ⟨gl, 0, none⟩ = some (.slice AL L.length cL)) (hf : W.cell? ⟨gf, 0, none⟩ = some (.bool fr)) (hL : Kd.C k34 W AL L.length L)
    (h : ∀ q ∈ L, impl_Pair_124.f k q.f1 x.f0 x.f1 = some (inB k q.f1 x)) :
    Calls Tryd.prog 121 #[.agg #[.int .i64 x.f0, .int .i64 x.f1], .pointer (some ⟨gl, 0, none⟩), .pointer (some ⟨gf, 0, none⟩)] W fun e w' => e = .returned (.bool (L.any fun q => inB k q.f1 x != fr)) ∧ Below W.heap.size W w' := by
  have hu := Tryd.underlying110
  have eg := enters_of Tryd.func123 (by kernel_rfl) rfl
  have HEG := Aside0.mk eg
  have HF := Aside0.mk hf
  have HL := Aside0.mk hL
  have HH := Aside0.mk h
  have HLL := Aside0.mk hl
  clear eg hf hL h hl
  go_enter Tryd.func121, Tryd.ntmps121
  go_wp2_with (first
    | ((with_reducible refine gate_dst (N := 3) rfl ?_); refine bxE 3 #[.int .i64 x.f0, .int .i64 x.f1] 110 rfl ?_; intro gx hg w2 hbox hb; have BKx := Aside0.mk hbox; have HB := Aside0.mk hb; have hll := pw_cell_below hb HLL.out; clear hg hbox hb)
    | (go_at_call 122; refine (impl_Party_122.calls AL cL L (fun q => inB k q.f1 x != fr) 123 #[.pointer (some ⟨gx, 0, none⟩), .pointer (some ⟨gf, 0, none⟩)] w2 HEG.out (Kd.C_below HL.out HB.out) (fun W' q A' c' hq hc hC hb' => impl_sure_1_1.calls k x fr gx gf q.f0 A' c' q.f1 (inB k q.f1 x) W' (pw_cell_below hb' ((blk_cell BKx.out 0).trans rfl)) (pw_cell_below hb' ((blk_cell BKx.out 1).trans rfl)) (pw_cell_below hb' (pw_cell_below HB.out HF.out)) hC hc (HH.out q hq))).mono ?_; rintro e w3 ⟨rfl, hb⟩; have HB3 := Aside0.mk (below_step HB.out hb); clear hb hll))
  go_ret
  exact ⟨rfl, HB3.out⟩

/-! ### impl_sure: function 94 (a text of this session's own) -/

/-- All that is looked for is found or not. -/
def okIn (k : Nat) (L : List S34) (F : List S110) : Bool := F.all fun x => L.all fun q => (impl_Pair_124.f k q.f1 x.f0 x.f1).isSome
theorem okIn_spec {k : Nat} {L : List S34} {F : List S110} (h : okIn k L F = true) : ∀ x ∈ F, ∀ q ∈ L, impl_Pair_124.f k q.f1 x.f0 x.f1 = some (inB k q.f1 x) := fun x hx q hq => by
  have h1 := List.all_eq_true.1 (List.all_eq_true.1 h x hx) q hq
  obtain ⟨b, hb⟩ := Option.isSome_iff_exists.1 h1
  unfold inB
  rw [hb]; rfl
theorem okIn_up {k : Nat} {L : List S34} {F : List S110} (h : okIn k L F = true) : okIn (k + 1) L F = true ∧ ∀ x ∈ F, ∀ q ∈ L, inB (k + 1) q.f1 x = inB k q.f1 x := by
  have h1 : ∀ x ∈ F, ∀ q ∈ L, impl_Pair_124.f (k + 1) q.f1 x.f0 x.f1 = some (inB k q.f1 x) := fun x hx q hq => impl_Pair_124.mono _ _ _ k _ (okIn_spec h x hx q hq)
  refine ⟨List.all_eq_true.2 fun x hx => List.all_eq_true.2 fun q hq => by rw [h1 x hx q hq]; rfl, fun x hx q hq => ?_⟩
  unfold inB
  rw [h1 x hx q hq, okIn_spec h x hx q hq]
def sureL (k : Nat) (L : List S34) (F : List S110) (fr : Bool) : Option (List S110 × Bool) := if okIn k L F = true then some (F.filter (fun x => !(L.any fun q => inB k q.f1 x != fr)), true) else none
theorem sureL.mono (L : List S34) (F : List S110) (fr : Bool) (k : Nat) : LeO (sureL k L F fr) (sureL (k + 1) L F fr) := by
  intro r h
  unfold sureL at h ⊢
  split at h
  · rename_i hk
    obtain ⟨h1, h2⟩ := okIn_up hk
    rw [if_pos h1, ← h]
    congr 2
    refine List.filter_congr (fun x hx => ?_)
    congr 1
    rw [Bool.eq_iff_iff, List.any_eq_true, List.any_eq_true]
    constructor
    · rintro ⟨q, hq, hb⟩; exact ⟨q, hq, by rw [← h2 x hx q hq]; exact hb⟩
    · rintro ⟨q, hq, hb⟩; exact ⟨q, hq, by rw [h2 x hx q hq]; exact hb⟩
  · cases h
def impl_sure.f (k : Nat) (a0_0 : Int) (l0_1 : List S30) (a1 : Bool) : Option (List S110 × Bool) := (impl_CountSolutions.f k a0_0 l0_1).bind fun c => if c.1 = 0 then some ([], false) else (impl_FullParty.f k a0_0).bind fun F => (impl_Puzzle_all.f k a0_0 l0_1).bind fun L => sureL k L F.2.1 a1
theorem impl_sure.mono : ∀ a0 a1 a2 k, LeO (impl_sure.f k a0 a1 a2) (impl_sure.f (k + 1) a0 a1 a2) := fun a0 a1 a2 k => by
  unfold impl_sure.f
  exact LeO.bind (impl_CountSolutions.mono _ _ k) (fun _ => LeO.ite (LeO.refl _) (LeO.bind (impl_FullParty.mono _ k) (fun _ => LeO.bind (impl_Puzzle_all.mono _ _ k) (fun _ => sureL.mono _ _ _ k))))
set_option maxHeartbeats 8000000 in
set_option maxRecDepth 100000 in
theorem impl_sure.calls (k : Nat) (a0_0 : Int) (A0_1 : Option Addr) (c0_1 : Nat) (l0_1 : List S30) (a1 : Bool) (r1 : List S110) (r2 : Bool) (w : World) (hr0_1 : Kd.C k30 w A0_1 l0_1.length l0_1) (hc0_1 : l0_1.length ≤ c0_1) (h : impl_sure.f k a0_0 l0_1 a1 = some (r1, r2)) (hG : GTab 0 w := by first | exact Aside0.out ‹Aside0 (GTab _ _)› | exact GTab.up (Aside0.out ‹Aside0 (GTab _ _)›) (by repeat (first | (with_reducible first | exact Below.refl _ _ | exact Aside0.out ‹Aside0 (Below _ _ _)› | apply below_alloc | apply pw_below_drewN | apply below_drew1 | refine below_set ?_ (Aside0.out (by assumption))) | exact Aside0.out ‹Aside0 (Below _ _ _)›))) :
    Calls Tryd.prog 94 #[.agg #[.int .i64 a0_0, .slice A0_1 l0_1.length c0_1], .bool a1] w fun e w' => ∃ v0_ : Value, e = .returned (.tuple #[v0_, .bool r2]) ∧ Kd.R k110 110 w' w.heap.size (fun _ => True) v0_ r1 ∧ Below w.heap.size w w' := by
  have hu := Tryd.underlying40
  have hu2 := Tryd.underlying34
  unfold impl_sure.f at h
  replace h := Option.bind_eq_some_iff.mp h
  obtain ⟨⟨m, b⟩, hm, h⟩ := h
  simp only at h
  have HM := Aside0.mk hm
  have HR := Aside0.mk hr0_1
  have HC := Aside0.mk hc0_1
  have HG := Aside0.mk hG
  clear hr0_1 hc0_1 hG hm
  by_cases c0 : m = 0
  · rw [if_pos c0] at h
    have c0b : (m == 0) = true := beq_iff_eq.mpr c0
    clear c0
    obtain ⟨rfl, rfl⟩ := Prod.mk.inj (Option.some.inj h)
    clear h
    go_enter Tryd.func94, Tryd.ntmps94
    go_wp2_with (first
      | ((with_reducible refine gate_dst (N := 2) rfl ?_); refine bxE 2 #[.int .i64 a0_0, .slice A0_1 l0_1.length c0_1] 40 rfl ?_; intro gp hg w2 hbox hb; have BKp := Aside0.mk hbox; have HB := Aside0.mk hb; clear hg hbox hb)
      | ((with_reducible refine gate_dst (N := 3) rfl ?_); refine bxE 3 #[.bool a1] 4 rfl ?_; intro gf hg w3 hbox hb; have HB3 := Aside0.mk (below_step HB.out hb); have hp0 : w3.cell? ⟨gp, 0, none⟩ = some (.int .i64 a0_0) := (blk_cell (blk_below BKp.out hb) 0).trans rfl; have hp1 : w3.cell? ⟨gp, 1, none⟩ = some (.slice A0_1 l0_1.length c0_1) := (blk_cell (blk_below BKp.out hb) 1).trans rfl; clear hg hbox hb)
      | (go_at_call 29; refine (impl_CountSolutions.calls k a0_0 A0_1 c0_1 l0_1 m b _ (Kd.C_below HR.out HB3.out) HC.out HM.out (GTab.up HG.out HB3.out)).mono ?_; rintro e w4 ⟨rfl, hb⟩; have HB4 := Aside0.mk (below_step HB3.out hb); clear hb hp0 hp1))
    go_ret2
    exact ⟨_, rfl, Kd.R_nil _ _ _ _ _, HB4.out⟩
  · rw [if_neg c0] at h
    have c0b : (m == 0) = false := beq_eq_false_iff_ne.mpr c0
    clear c0
    replace h := Option.bind_eq_some_iff.mp h
    obtain ⟨⟨p1, F, p3⟩, hp, h⟩ := h
    replace h := Option.bind_eq_some_iff.mp h
    obtain ⟨L, hL, h⟩ := h
    simp only at h
    unfold sureL at h
    by_cases hok : okIn k L F = true
    · rw [if_pos hok] at h
      obtain ⟨rfl, rfl⟩ := Prod.mk.inj (Option.some.inj h)
      have HP := Aside0.mk hp
      have HL := Aside0.mk hL
      have HOK := Aside0.mk (okIn_spec hok)
      have eg := enters_of Tryd.func121 (by kernel_rfl) rfl
      have HEG := Aside0.mk eg
      clear h hp hL hok eg
      go_enter Tryd.func94, Tryd.ntmps94
      go_wp2_with (first
        | ((with_reducible refine gate_dst (N := 2) rfl ?_); refine bxE 2 #[.int .i64 a0_0, .slice A0_1 l0_1.length c0_1] 40 rfl ?_; intro gp hg w2 hbox hb; have BKp := Aside0.mk hbox; have HB := Aside0.mk hb; clear hg hbox hb)
        | ((with_reducible refine gate_dst (N := 3) rfl ?_); refine bxE 3 #[.bool a1] 4 rfl ?_; intro gf hg w3 hbox hb; have HB3 := Aside0.mk (below_step HB.out hb); have BKf := Aside0.mk hbox; have BKp3 := Aside0.mk (blk_below BKp.out hb); have hp0 : w3.cell? ⟨gp, 0, none⟩ = some (.int .i64 a0_0) := (blk_cell BKp3.out 0).trans rfl; have hp1 : w3.cell? ⟨gp, 1, none⟩ = some (.slice A0_1 l0_1.length c0_1) := (blk_cell BKp3.out 1).trans rfl; clear hg hbox hb)
        | (go_at_call 29; refine (impl_CountSolutions.calls k a0_0 A0_1 c0_1 l0_1 m b _ (Kd.C_below HR.out HB3.out) HC.out HM.out (GTab.up HG.out HB3.out)).mono ?_; rintro e w4 ⟨rfl, hb⟩; have HB4 := Aside0.mk (below_step HB3.out hb); have BKf4 := Aside0.mk (blk_below BKf.out hb); have BKp4 := Aside0.mk (blk_below BKp3.out hb); clear hb hp0 hp1; have hp0 : w4.cell? ⟨gp, 0, none⟩ = some (.int .i64 a0_0) := (blk_cell BKp4.out 0).trans rfl)
        | (go_at_call 114; refine (impl_FullParty.calls k a0_0 p1 F p3 _ HP.out).mono ?_; rintro e w5 ⟨v1, rfl, ho, hb⟩; have HO5 := Aside0.mk ho; have HB5 := Aside0.mk (below_step HB4.out hb); have BKf5 := Aside0.mk (blk_below BKf4.out hb); have BKp5 := Aside0.mk (blk_below BKp4.out hb); have L45 := Aside0.mk hb.size; clear ho hb hp0; obtain ⟨Af, cf, rfl⟩ := Kd.R_slice HO5.out)
        | ((with_reducible refine gate_dst (N := 8) rfl ?_); refine bxE 8 #[.int .i64 0, .slice none 0 0] 34 rfl ?_; intro gF hg w6 hbox hb; have BKF := Aside0.mk hbox; have GEF := Aside0.mk (Nat.le_of_eq hg.symm); have HB6 := Aside0.mk hb; have hF0 := cz BKF 0; have hF1 := cz BKF 1; have hfF0 := fz BKF 0; have hfF1 := fz BKF 1; have BKp6 := Aside0.mk (blk_below BKp5.out hb); have NPF := Aside0.mk (show gp ≠ gF by rw [hg]; exact Nat.ne_of_lt (blk_lt BKp5.out)); have hp0 : w6.cell? ⟨gp, 0, none⟩ = some (.int .i64 a0_0) := (blk_cell BKp6.out 0).trans rfl; have hp1 : w6.cell? ⟨gp, 1, none⟩ = some (.slice A0_1 l0_1.length c0_1) := (blk_cell BKp6.out 1).trans rfl; have hne1 := NPF.out; have hne2 := Ne.symm NPF.out; clear hg hbox hb)
        | (go_at_call 87; have H67 := Aside0.mk (show Below w5.heap.size w5 ((w6.setCell ⟨gF, 0, none⟩ (.int .i64 p1)).setCell ⟨gF, 1, none⟩ (.slice Af F.length cf)) from below_set (below_set HB6.out GEF.out) GEF.out); have HB7 := Aside0.mk (below_step HB5.out H67.out); refine (impl_Puzzle_all.calls k a0_0 A0_1 c0_1 l0_1 L _ (Kd.C_below HR.out HB7.out) HC.out HL.out (GTab.up HG.out HB7.out)).mono ?_; rintro e w8 ⟨v8, rfl, ho, hb⟩; have HO8 := Aside0.mk ho; have HB8 := Aside0.mk (below_step HB7.out hb); have H58 := Aside0.mk (below_step H67.out hb); have BKF8 := Aside0.mk (blk_below (blk_set (blk_set BKF.out 0 (.int .i64 p1)) 1 (.slice Af F.length cf)) hb); clear ho hb hF0 hF1 hfF0 hfF1 hp0 hp1 hne1 hne2; obtain ⟨AL, cL, rfl⟩ := Kd.S_slice HO8.out)
        | ((with_reducible refine gate_dst (N := 10) rfl ?_); refine bxE 10 #[.slice none 0 0] 64 rfl ?_; intro gl hg w9 hbox hb; have BKl := Aside0.mk hbox; have EGl := Aside0.mk hg; have HB9 := Aside0.mk hb; have BKF9 := Aside0.mk (blk_below BKF8.out hb); have NFl := Aside0.mk (show gF ≠ gl by rw [hg]; exact Nat.ne_of_lt (blk_lt BKF8.out)); have hl0 := cz BKl 0; have hfl0 := fz BKl 0; have hF0 : w9.cell? ⟨gF, 0, none⟩ = some (.int .i64 p1) := (blk_cell BKF9.out 0).trans rfl; have hF1 : w9.cell? ⟨gF, 1, none⟩ = some (.slice Af F.length cf) := (blk_cell BKF9.out 1).trans rfl; have hne1 := NFl.out; have hne2 := Ne.symm NFl.out; clear hg hbox hb)
        | (go_at_call 120; have H59 := Aside0.mk (show Below w5.heap.size w5 (w9.setCell ⟨gl, 0, none⟩ (.slice AL L.length cL)) from below_set (below_step H58.out HB9.out) (by have := EGl.out; have := H58.out.size; omega)); have R10 := Aside0.mk (Kd.R_below HO5.out H59.out); have BKl10 := Aside0.mk (show (w9.setCell ⟨gl, 0, none⟩ (.slice AL L.length cL)).heap[gl]? = some (.cells #[.slice AL L.length cL] 64 (0, 0)) from blk_set BKl.out 0 _); have BKf10 := Aside0.mk (blk_below BKf5.out H59.out); have HLF := Aside0.mk (Kd.R_F (Kd.S_R (Kd.S_mono (ok' := fun k_ => some k_ ≠ (.slice Af F.length cf : Value).ownBlock) (Kd.S_far (p := ⟨gl, 0, none⟩) (Kd.S_below (Kd.S_mono (ok' := fun k_ => k_ ≠ gl ∧ some k_ ≠ (.slice Af F.length cf : Value).ownBlock) (Kd.S_bound HO8.out) (fun k_ hk => ⟨by have := EGl.out; have := hk.2.2.1; omega, fun he => by have := Kd.R_lt HO5.out k_ he.symm; have := hk.2.1; have := H67.out.size; omega⟩)) HB9.out) (fun _ hk => hk.1) (.slice AL L.length cL)) (fun _ hk => hk.2)))); refine (impl_Pair_120.calls w4.heap.size (fun _ => True) (.slice Af F.length cf) F (fun x => L.any fun q => inB k q.f1 x != a1) 121 #[.pointer (some ⟨gl, 0, none⟩), .pointer (some ⟨gf, 0, none⟩)] _ HEG.out R10.out ?hs ?hp).mono ?_; (case hs => exact Nat.le_trans L45.out H59.out.size); (case hp => exact fun W x hx hsz hk => impl_sure_1.calls k L AL cL gl gf a1 x W ((blk_cell ((hk gl (blk_lt BKl10.out) (Kd.R_ne R10.out BKl10.out (by decide))).trans BKl10.out) 0).trans rfl) ((blk_cell ((hk gf (blk_lt BKf10.out) (Kd.R_ne R10.out BKf10.out (by decide))).trans BKf10.out) 0).trans rfl) (HLF.out W (fun k_ h1 h2 => hk k_ h2 h1)) (HOK.out x hx)); rintro e w11 ⟨v11, rfl, ho, hb⟩; have HO11 := Aside0.mk ho; have HB11 := Aside0.mk hb; clear ho hb hl0 hfl0 hF0 hF1 hne1 hne2))
      go_ret2
      exact ⟨_, rfl, Kd.R_lower HO11.out (below_size HB4.out), (HB5.out.trans (H59.out.mono HB5.out.size)).trans (HB11.out.mono (below_size HB4.out))⟩
    · rw [if_neg hok] at h; cases h

end Go.Proofs.YtdnkipagpagfiaaDoor.PSol3
