-- Of this session's own program wip/gen/gen.py (it drives the kit's print): contracts of the functions that the law reaches.
import Derived.Test.YtdnkipagpagfiaaDoorPSolx0
import Derived.Test.YtdnkipagpagfiaaDoorPSolx3
import Derived.Test.YtdnkipagpagfiaaDoorPSolx6
import Derived.Test.YtdnkipagpagfiaaDoorPSolx8
namespace Go.Proofs.YtdnkipagpagfiaaDoor.PSol
open Go.RowKit Go.Proofs.YtdnkipagpagfiaaDoorW.PrintWords Go.Proofs.YtdnkipagpagfiaaDoorW.PrintLast Go.Proofs.YtdnkipagpagfiaaDoorW.PrintMore Go.Proofs.YtdnkipagpagfiaaDoor.Base
attribute [local go_sem] max2_int min2_int max_two min_two max_three min_three max_four min_four   -- for this text's walks alone
set_option linter.unusedVariables false
set_option linter.unusedSimpArgs false

/-! ### spec_pzAll: function 84 (a text of this session's own) -/

mutual
def spec_pzAll.l0 : Nat → List S30 → List S34 → List S34 → Int → Option (List S34)
 | 0, _, _, _, _ => none
 | k + 1, cs, L, xs, i => if i < (L.length : Int) then (if 0 ≤ i then spec_pzAll.l1 k cs L xs i true 0 else none) else some xs
def spec_pzAll.l1 : Nat → List S30 → List S34 → List S34 → Int → Bool → Int → Option (List S34)
 | 0, _, _, _, _, _, _ => none
 | k + 1, cs, L, xs, i, fb, j => if j < (cs.length : Int) then (if 0 ≤ j then (if fb = true then ((spec_pzFits.f k (rd_T30 cs j).f0 (rd_T30 cs j).f1 (rd_T30 cs j).f2 (rd_T34 L i).f0 (rd_T34 L i).f1).bind fun b => spec_pzAll.l1 k cs L xs i b (wrap64 (j + 1))) else spec_pzAll.l1 k cs L xs i false (wrap64 (j + 1))) else none) else (if fb = true then (if xs.length < 4398046511104 then spec_pzAll.l0 k cs L (xs ++ [rd_T34 L i]) (wrap64 (i + 1)) else none) else spec_pzAll.l0 k cs L xs (wrap64 (i + 1)))
end
theorem spec_pzAll.mono_l : ∀ k, (∀ y0 y1 y2 y3, LeO (spec_pzAll.l0 k y0 y1 y2 y3) (spec_pzAll.l0 (k + 1) y0 y1 y2 y3)) ∧ (∀ y0 y1 y2 y3 y4 y5, LeO (spec_pzAll.l1 k y0 y1 y2 y3 y4 y5) (spec_pzAll.l1 (k + 1) y0 y1 y2 y3 y4 y5))
 | 0 => ⟨fun _ _ _ _ r h => by simp [spec_pzAll.l0] at h, fun _ _ _ _ _ _ r h => by simp [spec_pzAll.l1] at h⟩
 | k + 1 => by
  obtain ⟨ih0, ih1⟩ := spec_pzAll.mono_l k
  refine ⟨?_, ?_⟩
  · intro y0 y1 y2 y3
    unfold spec_pzAll.l0
    repeat' first
      | (with_reducible exact ih0 _ _ _ _)
      | (with_reducible exact ih1 _ _ _ _ _ _)
      | (with_reducible exact LeO.refl _)
      | (with_reducible exact LeO.none _)
      | (with_reducible refine LeO.ite ?_ ?_)
  · intro y0 y1 y2 y3 y4 y5
    unfold spec_pzAll.l1
    repeat' first
      | (with_reducible exact ih0 _ _ _ _)
      | (with_reducible exact ih1 _ _ _ _ _ _)
      | (with_reducible exact spec_pzFits.mono _ _ _ _ _ _)
      | (with_reducible exact LeO.refl _)
      | (with_reducible exact LeO.none _)
      | (with_reducible refine LeO.ite ?_ ?_)
      | (with_reducible refine LeO.bind ?_ (fun _ => ?_))
def spec_pzAll.f (k : Nat) (a0 : Int) (l1 : List S30) : Option (List S34) := (spec_pzParties.f k a0).bind fun L => spec_pzAll.l0 k l1 L [] 0
theorem spec_pzAll.mono : ∀ a0 a1 k, LeO (spec_pzAll.f k a0 a1) (spec_pzAll.f (k + 1) a0 a1) := fun a0 a1 k => LeO.bind (spec_pzParties.mono _ _) (fun _ => (spec_pzAll.mono_l k).1 _ _ _ _)
set_option maxHeartbeats 8000000 in
set_option maxRecDepth 100000 in
theorem spec_pzAll.calls (k : Nat) (a0 : Int) (A1 : Option Addr) (c1 : Nat) (l1 : List S30) (r : List S34) (w : World) (hr1 : Kd.C k30 w A1 l1.length l1) (hc1 : l1.length ≤ c1) (h : spec_pzAll.f k a0 l1 = some r) :
    Calls Tryd.prog 84 #[.int .i64 a0, .slice A1 l1.length c1] w fun e w' => ∃ v0_ : Value, e = .returned (v0_) ∧ Kd.N k34 34 w' w.heap.size (fun k_ => (w.heap.size ≤ k_)) v0_ r ∧ Below w.heap.size w w' := by
  have hu := Tryd.underlying34
  have hu2 := Tryd.underlying30
  unfold spec_pzAll.f at h
  replace h := Option.bind_eq_some_iff.mp h
  obtain ⟨L, hL, h⟩ := h
  have HL := Aside0.mk hL
  have HH := Aside0.mk h
  have HR := Aside0.mk hr1
  clear hL h hr1
  go_enter Tryd.func84, Tryd.ntmps84
  go_wp2_with (go_at_call 111; refine (spec_pzParties.calls k a0 L _ HL.out).mono ?_; rintro e w1 ⟨v1, rfl, ho, hb⟩; have HO1 := Aside0.mk ho; have HB1 := Aside0.mk hb; clear ho hb; obtain ⟨AL, cL, rfl⟩ := Kd.N_slice HO1.out)
  go_loopg [5, 14] k (fun kq v5 v14 w' => ∃ (xs : List S34) (i : Int), v14 = .int .i64 i ∧ Aside0 (spec_pzAll.l0 kq l1 L xs i = some r) ∧ Aside0 (kq ≤ k) ∧ Aside0 (Kd.N k34 34 w' w.heap.size (fun k_ => w.heap.size ≤ k_) v5 xs) ∧ Aside0 (Kd.F k34 w' (fun k_ => w.heap.size ≤ k_ ∧ some k_ ≠ v5.ownBlock) AL L.length L) ∧ Aside0 (Below w.heap.size w w'))
  case atStart => exact ⟨[], 0, rfl, HH, ⟨Nat.le_refl _⟩, ⟨Kd.N_nil _ _ _ _ _⟩, ⟨Kd.F_mono (Kd.N_F HO1.out) (fun k_ hk => ⟨hk, by simp [Value.ownBlock]⟩)⟩, HB1⟩
  case round =>
    clear HO1 HB1 HH
    obtain ⟨xs, i, rfl, HA, HK1, HN5, HF5, HB⟩ := hrel
    cases gk with
    | zero => exact absurd HA.out (by simp [spec_pzAll.l0])
    | succ k1 =>
      have H := HA.out
      clear HA
      simp only [spec_pzAll.l0] at H
      by_cases c1_ : i < (L.length : Int)
      · rw [if_pos c1_] at H
        have c1b : decide (i < (L.length : Int)) = true := decide_eq_true c1_
        by_cases c2_ : 0 ≤ i
        · rw [if_pos c2_] at H
          have HI := Aside0.mk H
          clear H
          obtain ⟨ad, ce, eAL, hcl, hFK, hcc, _⟩ := Kd.F_get HF5.out z34 i c2_ c1_
          subst eAL
          obtain ⟨Ap, cp, rfl, hlp, hFp⟩ := k34_openF hFK
          have hx0 : wr.cell? (ad.add (i.toNat * 2)) = some (.int .i64 (rd_T34 L i).f0) := hcc 0 _ rfl
          have hx1 : wr.cell? ⟨(ad.add (i.toNat * 2)).block, (ad.add (i.toNat * 2)).off + 1, none⟩ = some (.slice Ap (rd_T34 L i).f1.length cp) := by
            rw [← add_field _ _ 1 (by omega)]
            exact hcc 1 _ rfl
          have HLP := Aside0.mk (show (rd_T34 L i).f1.length ≤ cp from hlp)
          have HFP := Aside0.mk (show Kd.F k110 wr (fun k_ => w.heap.size ≤ k_ ∧ some k_ ≠ u5.ownBlock) Ap (rd_T34 L i).f1.length (rd_T34 L i).f1 from hFp)
          clear hcc hcl hFK hlp hFp
          go_wp2_with (((with_reducible refine gate_dst (N := 7) rfl ?_); refine box_event ?hg (N := 7) ?hd (cs := #[.int .i64 0, .slice none 0 0]) (t := 34) ?hr ?_; (case hd => rfl); (case hg => rfl); (case hr => first | (go_simp; done) | (go_simp; rfl)); intro gp hg w3 hbox hb; have GP := Aside0.mk hg; have BKp := Aside0.mk hbox; have B3 := Aside0.mk hb; have hz0 : w3.cell? ⟨gp, 0, none⟩ = some (.int .i64 0) := (blk_cell hbox 0).trans rfl; have hz1 : w3.cell? ⟨gp, 1, none⟩ = some (.slice none 0 0) := (blk_cell hbox 1).trans rfl; have hq0 := blk_frozen hbox 0; have hq1 := blk_frozen hbox 1; clear hg hbox hb hx0 hx1))
          have hgp : w.heap.size ≤ gp := by rw [GP.out]; exact HB.out.size
          have HN4 := Aside0.mk (Kd.N_mono (ok' := fun k_ => w.heap.size ≤ k_) (Kd.N_far (p := ⟨gp, 1, none⟩) (Kd.N_far (p := ⟨gp, 0, none⟩) (Kd.N_below (Kd.N_mono (ok' := fun k_ => w.heap.size ≤ k_ ∧ k_ ≠ gp) (Kd.N_bound HN5.out) (fun k_ hk => ⟨hk.1, by have := GP.out; have := hk.2; omega⟩)) B3.out) (fun _ hk => hk.2) (.int .i64 (rd_T34 L i).f0)) (fun _ hk => hk.2) (.slice Ap (rd_T34 L i).f1.length cp)) (fun _ hk => hk.1))
          have HF4 := Aside0.mk (Kd.F_mono (ok' := fun k_ => w.heap.size ≤ k_ ∧ some k_ ≠ u5.ownBlock) (Kd.F_far (p := ⟨gp, 1, none⟩) (Kd.F_far (p := ⟨gp, 0, none⟩) (Kd.F_below (Kd.F_mono (ok' := fun k_ => (w.heap.size ≤ k_ ∧ some k_ ≠ u5.ownBlock) ∧ k_ ≠ gp) (Kd.F_bound HF5.out) (fun k_ hk => ⟨hk.1, by have := GP.out; have := hk.2; omega⟩)) B3.out) (fun _ hk => hk.2) (.int .i64 (rd_T34 L i).f0)) (fun _ hk => hk.2) (.slice Ap (rd_T34 L i).f1.length cp)) (fun _ hk => hk.1))
          have HFP4 := Aside0.mk (Kd.F_mono (ok' := fun k_ => w.heap.size ≤ k_ ∧ some k_ ≠ u5.ownBlock) (Kd.F_far (p := ⟨gp, 1, none⟩) (Kd.F_far (p := ⟨gp, 0, none⟩) (Kd.F_below (Kd.F_mono (ok' := fun k_ => (w.heap.size ≤ k_ ∧ some k_ ≠ u5.ownBlock) ∧ k_ ≠ gp) (Kd.F_bound HFP.out) (fun k_ hk => ⟨hk.1, by have := GP.out; have := hk.2; omega⟩)) B3.out) (fun _ hk => hk.2) (.int .i64 (rd_T34 L i).f0)) (fun _ hk => hk.2) (.slice Ap (rd_T34 L i).f1.length cp)) (fun _ hk => hk.1))
          have BK4 := Aside0.mk (blk_set (blk_set BKp.out 0 (.int .i64 (rd_T34 L i).f0)) 1 (.slice Ap (rd_T34 L i).f1.length cp))
          have HB4 := Aside0.mk (below_set (j := 1) (v := .slice Ap (rd_T34 L i).f1.length cp) (below_set (j := 0) (v := .int .i64 (rd_T34 L i).f0) (below_step HB.out B3.out) hgp) hgp)
          clear HN5 HF5 HFP BKp B3 HB hz0 hz1 hq0 hq1 GP
          generalize (w3.setCell ⟨gp, 0, none⟩ (.int .i64 (rd_T34 L i).f0)).setCell ⟨gp, 1, none⟩ (.slice Ap (rd_T34 L i).f1.length cp) = w4 at HN4 HF4 HFP4 BK4 HB4 ⊢
          go_loopg [8, 20] k1 (fun kq v8 v20 w' => ∃ (fb : Bool) (j : Int), v8 = .bool fb ∧ v20 = .int .i64 j ∧ Aside0 (spec_pzAll.l1 kq l1 L xs i fb j = some r) ∧ Aside0 (kq ≤ k1) ∧ Aside0 (Below w4.heap.size w4 w'))
          case atStart => exact ⟨true, 0, rfl, rfl, HI, ⟨Nat.le_refl _⟩, ⟨Below.refl _ _⟩⟩
          case round =>
            clear HI
            obtain ⟨fb, j, rfl, rfl, HA, HK2, HBi⟩ := hrel
            cases gk with
            | zero => exact absurd HA.out (by simp [spec_pzAll.l1])
            | succ k2 =>
              have H := HA.out
              clear HA
              simp only [spec_pzAll.l1] at H
              have hp0 : wr.cell? ⟨gp, 0, none⟩ = some (.int .i64 (rd_T34 L i).f0) := (blk_cell (blk_below BK4.out HBi.out) 0).trans rfl
              have hp1 : wr.cell? ⟨gp, 1, none⟩ = some (.slice Ap (rd_T34 L i).f1.length cp) := (blk_cell (blk_below BK4.out HBi.out) 1).trans rfl
              have hgl : gp < wr.heap.size := blk_lt (blk_below BK4.out HBi.out)
              have HBw := Aside0.mk (below_step HB4.out HBi.out)
              by_cases d1_ : j < (l1.length : Int)
              · rw [if_pos d1_] at H
                have d1b : decide (j < (l1.length : Int)) = true := decide_eq_true d1_
                by_cases d2_ : 0 ≤ j
                · rw [if_pos d2_] at H
                  obtain ⟨ac, eA1, hc0, hc1_, hc2⟩ := at_T30 (Kd.C_below HR.out HBw.out) j d2_ d1_
                  subst eA1
                  cases fb with
                  | true =>
                    rw [if_pos rfl] at H
                    replace H := Option.bind_eq_some_iff.mp H
                    obtain ⟨b, hb0, H⟩ := H
                    have HFT := Aside0.mk hb0
                    have HN := Aside0.mk H
                    clear hb0 H
                    go_wp2_with (first
                      | ((with_reducible refine gate_dst (N := 10) rfl ?_); refine box_event ?hg (N := 10) ?hd (cs := #[.int .i64 0, .int .i64 0, .int .i64 0]) (t := 30) ?hr ?_; (case hd => rfl); (case hg => rfl); (case hr => first | (go_simp; done) | (go_simp; rfl)); intro gc hg w5 hbox hb; have GC := Aside0.mk hg; have B5 := Aside0.mk hb; have hz0 : w5.cell? ⟨gc, 0, none⟩ = some (.int .i64 0) := (blk_cell hbox 0).trans rfl; have hz1 : w5.cell? ⟨gc, 1, none⟩ = some (.int .i64 0) := (blk_cell hbox 1).trans rfl; have hz2 : w5.cell? ⟨gc, 2, none⟩ = some (.int .i64 0) := (blk_cell hbox 2).trans rfl; have hq0 := blk_frozen hbox 0; have hq1 := blk_frozen hbox 1; have hq2 := blk_frozen hbox 2; have hy0 := pw_cell_below hb hp0; have hy1 := pw_cell_below hb hp1; have hn1 : gp ≠ gc := (by omega); have hn2 : gc ≠ gp := Ne.symm hn1; clear hg hbox hb hc0 hc1_ hc2 hp0 hp1)
                      | (go_at_call 60; refine (spec_pzFits.calls k2 _ _ _ _ Ap cp (rd_T34 L i).f1 b _ ?s1 HLP.out HFT.out).mono ?_; (case s1 => exact Kd.F_now (Kd.F_far (Kd.F_far (Kd.F_far (Kd.F_mono (Kd.F_below (Kd.F_bound (Kd.F_below HFP4.out HBi.out)) B5.out) (fun k_ hk => (show k_ ≠ gc from by have := GC.out; have := hk.2; omega))) (fun _ hk => hk) _) (fun _ hk => hk) _) (fun _ hk => hk) _)); rintro e w6 ⟨rfl, hb⟩; have B6 := Aside0.mk (below_step (below_set (below_set (below_set B5.out (Nat.le_of_eq GC.out.symm)) (Nat.le_of_eq GC.out.symm)) (Nat.le_of_eq GC.out.symm)) hb); clear hb))
                    go_roundg k2
                    case measure => omega
                    case rel => exact ⟨b, wrap64 (j + 1), by first | rfl | (simp; done), by first | rfl | (simp; done), HN, ⟨by have := HK2.out; omega⟩, ⟨below_step HBi.out B6.out⟩⟩
                  | false =>
                    rw [if_neg (by simp)] at H
                    have HN := Aside0.mk H
                    clear H
                    go_wp2_with (((with_reducible refine gate_dst (N := 10) rfl ?_); refine box_event ?hg (N := 10) ?hd (cs := #[.int .i64 0, .int .i64 0, .int .i64 0]) (t := 30) ?hr ?_; (case hd => rfl); (case hg => rfl); (case hr => first | (go_simp; done) | (go_simp; rfl)); intro gc hg w5 hbox hb; have GC := Aside0.mk hg; have B5 := Aside0.mk hb; have hz0 : w5.cell? ⟨gc, 0, none⟩ = some (.int .i64 0) := (blk_cell hbox 0).trans rfl; have hz1 : w5.cell? ⟨gc, 1, none⟩ = some (.int .i64 0) := (blk_cell hbox 1).trans rfl; have hz2 : w5.cell? ⟨gc, 2, none⟩ = some (.int .i64 0) := (blk_cell hbox 2).trans rfl; have hq0 := blk_frozen hbox 0; have hq1 := blk_frozen hbox 1; have hq2 := blk_frozen hbox 2; have hn1 : gp ≠ gc := (by omega); have hn2 : gc ≠ gp := Ne.symm hn1; clear hg hbox hb hc0 hc1_ hc2 hp0 hp1))
                    go_roundg k2
                    case measure => omega
                    case rel => exact ⟨false, wrap64 (j + 1), by first | rfl | (simp; done), by first | rfl | (simp; done), HN, ⟨by have := HK2.out; omega⟩, ⟨below_step HBi.out (below_set (below_set (below_set B5.out (Nat.le_of_eq GC.out.symm)) (Nat.le_of_eq GC.out.symm)) (Nat.le_of_eq GC.out.symm))⟩⟩
                · rw [if_neg d2_] at H; cases H
              · rw [if_neg d1_] at H
                have d1b : decide (j < (l1.length : Int)) = false := decide_eq_false d1_
                cases fb with
                | true =>
                  rw [if_pos rfl] at H
                  by_cases e1_ : xs.length < 4398046511104
                  · rw [if_pos e1_] at H
                    have LX := Aside0.mk e1_
                    have HN := Aside0.mk H
                    clear H e1_
                    go_wp2_with ((with_reducible refine gate_builtin (b := .append) (xs := #[.tmp 32, .tmp 34]) rfl ?_); at_builtin; refine Kd.N_append k34 (w0 := w) w.heap.size rfl (.tmp 32) (.tmp 34) 64 34 (.agg #[(.int .i64 0), (.slice none 0 0)]) 32 rfl Tryd.underlying64 info34 rfl (by decide) (by omega) u5 xs (rd_T34 L i) [.int .i64 (rd_T34 L i).f0, .slice Ap (rd_T34 L i).f1.length cp] (fun k_ => w.heap.size ≤ k_) (fun k_ => w.heap.size ≤ k_ ∧ some k_ ≠ u5.ownBlock) rfl rfl ?aP (fun _ hk => hk) ?aF ?aO ?aB ?aS ?aL ?_; (case aP => exact k34_mkF _ _ (rd_T34 L i) HLP.out (Kd.F_below HFP4.out HBi.out)); (case aF => exact fun k_ hk => Nat.le_trans (below_size HBw.out) hk); (case aO => exact Kd.N_below HN4.out HBi.out); (case aB => exact HBw.out); (case aS => exact below_size HBw.out); (case aL => have := LX.out; omega); intro v6 w6 ho hb hg hat; have HN6 := Aside0.mk ho; have HB6 := Aside0.mk hb; have HF6 := Aside0.mk (Kd.F_after (ok := fun k_ => w.heap.size ≤ k_) (Kd.F_below HF4.out HBi.out) hg hat); clear ho hb hg hat)
                    go_roundg k2
                    case measure => have := HK2.out; omega
                    case rel => exact ⟨xs ++ [rd_T34 L i], wrap64 (i + 1), by first | rfl | (simp; done), HN, ⟨by have := HK1.out; have := HK2.out; omega⟩, HN6, HF6, HB6⟩
                  · rw [if_neg e1_] at H; cases H
                | false =>
                  rw [if_neg (by simp)] at H
                  have HN := Aside0.mk H
                  clear H
                  go_wp2
                  go_roundg k2
                  case measure => have := HK2.out; omega
                  case rel => exact ⟨xs, wrap64 (i + 1), by first | rfl | (simp; done), HN, ⟨by have := HK1.out; have := HK2.out; omega⟩, ⟨Kd.N_below HN4.out HBi.out⟩, ⟨Kd.F_below HF4.out HBi.out⟩, HBw⟩
        · rw [if_neg c2_] at H; cases H
      · rw [if_neg c1_] at H
        have c1b : decide (i < (L.length : Int)) = false := decide_eq_false c1_
        clear c1_
        obtain rfl := Option.some.inj H
        go_wp2
        go_ret
        exact ⟨_, rfl, HN5.out, HB.out⟩

/-! ### spec_CountSolutions: function 27 -/
def spec_CountSolutions.f (k : Nat) (a0_0 : Int) (l0_1 : List (S30)) : Option (Int × Bool) := (spec_pzGood.f k a0_0 l0_1).bind fun t308 => (if t308 = true then ((spec_pzAll.f k a0_0 l0_1).bind fun t309 => (some ((t309.length : Int), true))) else (some (0, false)))
theorem spec_CountSolutions.mono : ∀ a0 a1 k, LeO (spec_CountSolutions.f k a0 a1) (spec_CountSolutions.f (k + 1) a0 a1) := by
 intro a0 a1 k
 unfold spec_CountSolutions.f
 repeat' first
   | (with_reducible exact spec_pzAll.mono _ _ _)
   | (with_reducible exact spec_pzGood.mono _ _ _)
   | (with_reducible exact LeO.refl _)
   | (with_reducible exact LeO.none _)
   | (with_reducible refine LeO.ite ?_ ?_)
   | (with_reducible refine LeO.bind ?_ (fun _ => ?_))
   | exact spec_pzAll.mono _ _ _
   | exact spec_pzGood.mono _ _ _
   | exact LeO.none _
   | refine LeO.ite ?_ ?_
   | refine LeO.bind ?_ (fun _ => ?_)
set_option maxHeartbeats 8000000 in
set_option maxRecDepth 100000 in
theorem spec_CountSolutions.calls (k : Nat) (a0_0 : Int) (A0_1 : Option Addr) (c0_1 : Nat) (l0_1 : List (S30)) (r1 : Int) (r2 : Bool) (w : World) (hr0_1 : Kd.C k30 w A0_1 l0_1.length l0_1) (hc0_1 : l0_1.length ≤ c0_1) (h : spec_CountSolutions.f k a0_0 l0_1 = some (r1, r2)) :
  Calls Tryd.prog 27 #[.agg #[.int .i64 a0_0, .slice A0_1 l0_1.length c0_1]] w fun e w' => e = .returned (.tuple #[.int .i64 r1, .bool r2]) ∧ Below w.heap.size w w' := by
 have hu40 := Tryd.underlying40
 have HR0_1 := Aside0.mk hr0_1
 have HC0_1 := Aside0.mk hc0_1
 clear hr0_1 hc0_1
 have HB := Aside0.mk (Below.refl w.heap.size w)
 have H : ((spec_pzGood.f k a0_0 l0_1).bind fun t308 => (if t308 = true then ((spec_pzAll.f k a0_0 l0_1).bind fun t309 => (some ((t309.length : Int), true))) else (some (0, false)))) = some (r1, r2) := h
 clear h
 replace H := Option.bind_eq_some_iff.mp H
 obtain ⟨t308, A20, H⟩ := H
 replace H : (if t308 = true then ((spec_pzAll.f k a0_0 l0_1).bind fun t309 => (some ((t309.length : Int), true))) else (some (0, false))) = some (r1, r2) := H
 have A2 := Aside0.mk A20
 clear A20
 by_cases c3 : t308 = true
 ·subst c3
  have H1 : ((spec_pzAll.f k a0_0 l0_1).bind fun t309 => (some ((t309.length : Int), true))) = some (r1, r2) := by rw [if_pos rfl] at H; exact H
  clear H
  have H := H1
  clear H1
  replace H := Option.bind_eq_some_iff.mp H
  obtain ⟨t309, A40, H⟩ := H
  replace H : (some ((t309.length : Int), true)) = some (r1, r2) := H
  have A4 := Aside0.mk A40
  clear A40
  simp only [Option.some.injEq, Prod.mk.injEq] at H
  obtain ⟨rfl, rfl⟩ := H
  go_enter Tryd.func27, Tryd.ntmps27
  go_wp2_with (first | ((with_reducible refine gate_dst (N := 1) rfl ?_); refine box_event ?hg (N := 1) ?hd (cs := #[.int .i64 a0_0, .slice A0_1 l0_1.length c0_1]) (t := 40) ?hr ?_; (case hd => rfl); (case hg => rfl); (case hr => first | (go_simp; done) | (go_simp; rfl)); intro gb307 hg w5 hbox hb; have n0_ := hS HB hb; have n1_ := Aside0.mk (hbox); have n2_ := gS HB hg; have n3_ := gS HB hg; clear HB; have HB := n0_; have BK307 := n1_; have GW307 := n2_; have GE307 := n3_; clear n0_ n1_ n2_ n3_; clear hb hbox hg; have hcz6_0 : w5.cell? ⟨gb307, 0, none⟩ = some (.int .i64 a0_0) := (blk_cell BK307.out 0).trans rfl; have hcz6_1 : w5.cell? ⟨gb307, 1, none⟩ = some (.slice A0_1 l0_1.length c0_1) := (blk_cell BK307.out 1).trans rfl; have hfz6_0 := blk_frozen BK307.out 0; have hfz6_1 := blk_frozen BK307.out 1) | ((with_reducible refine gate_callee (f := 83) rfl ?_); refine goesL_ (some 5) rfl rfl Tryd.func83 (by kernel_rfl) rfl #[.agg #[.int .i64 a0_0, .slice A0_1 l0_1.length c0_1]] rfl mapT ?_; (with_reducible refine (spec_pzGood.calls k a0_0 _ _ l0_1 true _ ?side1 ?side2 A2.out).mono ?_); (case side1 => repeat (first | exact (Kd.C_below HR0_1.out HB.out) | (with_reducible refine Kd.C_alloc ?_ _) | (with_reducible refine Kd.C_drewN ?_ _) | (with_reducible refine Kd.C_drew ?_))); (case side2 => exact HC0_1.out); rintro e w7 ⟨rfl, hb⟩; refine ⟨_, rfl, ?_⟩; have n0_ := bS BK307 hb; have n1_ := hS HB hb; clear BK307; clear HB; have BK307 := n0_; have HB := n1_; clear n0_ n1_; (try clear hb); (try clear hb2); (try clear hk); (try clear hi); have hcz8_0 : w7.cell? ⟨gb307, 0, none⟩ = some (.int .i64 a0_0) := (blk_cell BK307.out 0).trans rfl; have hcz8_1 : w7.cell? ⟨gb307, 1, none⟩ = some (.slice A0_1 l0_1.length c0_1) := (blk_cell BK307.out 1).trans rfl; have hfz8_0 := blk_frozen BK307.out 0; have hfz8_1 := blk_frozen BK307.out 1) | ((with_reducible refine gate_callee (f := 84) rfl ?_); refine goesL_ (some 11) rfl rfl Tryd.func84 (by kernel_rfl) rfl #[.int .i64 a0_0, .slice A0_1 l0_1.length c0_1] rfl mapT ?_; (with_reducible refine (spec_pzAll.calls k a0_0 _ _ l0_1 t309 _ ?side1 ?side2 A4.out).mono ?_); (case side1 => repeat (first | exact (Kd.C_below HR0_1.out HB.out) | (with_reducible refine Kd.C_alloc ?_ _) | (with_reducible refine Kd.C_drewN ?_ _) | (with_reducible refine Kd.C_drew ?_))); (case side2 => exact HC0_1.out); rintro e w9 ⟨v310, rfl, ho0, hb⟩; refine ⟨_, rfl, ?_⟩; have n0_ := Aside0.mk (Kd.N_lower (Kd.N_mono (ok' := fun k_ => k_ ≠ gb307) ho0 (fun k_ hk_ => (Kd.freshB (g := gb307) (o := .cells #[.int .i64 a0_0, .slice A0_1 l0_1.length c0_1] 40 (0, 0)) bK k_ hk_))) (below_size hB)); have n1_ := bS BK307 hb; have n2_ := hS HB hb; clear BK307; clear HB; have HO311 := n0_; have BK307 := n1_; have HB := n2_; clear n0_ n1_ n2_; (try clear hb); (try clear hb2); (try clear hk); (try clear hi); (try clear ho0); obtain ⟨Ao10, co10, eo10⟩ := Kd.N_slice HO311.out; subst eo10))
  go_ret2
  exact ⟨by first | rfl | (simp [errW_none, errW_some] <;> rfl) | (simp [*, errW_none, errW_some] <;> rfl), hB⟩
 ·replace c3 := Bool.eq_false_iff.mpr c3
  subst c3
  have H1 : (some (0, false)) = some (r1, r2) := by rw [if_neg (show ¬ (false = true) by decide)] at H; exact H
  clear H
  have H := H1
  clear H1
  simp only [Option.some.injEq, Prod.mk.injEq] at H
  obtain ⟨rfl, rfl⟩ := H
  go_enter Tryd.func27, Tryd.ntmps27
  go_wp2_with (first | ((with_reducible refine gate_dst (N := 1) rfl ?_); refine box_event ?hg (N := 1) ?hd (cs := #[.int .i64 a0_0, .slice A0_1 l0_1.length c0_1]) (t := 40) ?hr ?_; (case hd => rfl); (case hg => rfl); (case hr => first | (go_simp; done) | (go_simp; rfl)); intro gb307 hg w11 hbox hb; have n0_ := hS HB hb; have n1_ := Aside0.mk (hbox); have n2_ := gS HB hg; have n3_ := gS HB hg; clear HB; have HB := n0_; have BK307 := n1_; have GW307 := n2_; have GE307 := n3_; clear n0_ n1_ n2_ n3_; clear hb hbox hg; have hcz12_0 : w11.cell? ⟨gb307, 0, none⟩ = some (.int .i64 a0_0) := (blk_cell BK307.out 0).trans rfl; have hcz12_1 : w11.cell? ⟨gb307, 1, none⟩ = some (.slice A0_1 l0_1.length c0_1) := (blk_cell BK307.out 1).trans rfl; have hfz12_0 := blk_frozen BK307.out 0; have hfz12_1 := blk_frozen BK307.out 1) | ((with_reducible refine gate_callee (f := 83) rfl ?_); refine goesL_ (some 5) rfl rfl Tryd.func83 (by kernel_rfl) rfl #[.agg #[.int .i64 a0_0, .slice A0_1 l0_1.length c0_1]] rfl mapT ?_; (with_reducible refine (spec_pzGood.calls k a0_0 _ _ l0_1 false _ ?side1 ?side2 A2.out).mono ?_); (case side1 => repeat (first | exact (Kd.C_below HR0_1.out HB.out) | (with_reducible refine Kd.C_alloc ?_ _) | (with_reducible refine Kd.C_drewN ?_ _) | (with_reducible refine Kd.C_drew ?_))); (case side2 => exact HC0_1.out); rintro e w13 ⟨rfl, hb⟩; refine ⟨_, rfl, ?_⟩; have n0_ := bS BK307 hb; have n1_ := hS HB hb; clear BK307; clear HB; have BK307 := n0_; have HB := n1_; clear n0_ n1_; (try clear hb); (try clear hb2); (try clear hk); (try clear hi)))
  go_ret2
  exact ⟨by first | rfl | (simp [errW_none, errW_some] <;> rfl) | (simp [*, errW_none, errW_some] <;> rfl), hB⟩

/-! ### laws_toClue: function 16 -/
def laws_toClue.f (a0_0 : Int) (a0_1 : Int) (a0_2 : Int) : Option (Int × Int × Int) := some (a0_0, a0_1, a0_2)
set_option maxHeartbeats 8000000 in
set_option maxRecDepth 100000 in
theorem laws_toClue.calls (a0_0 : Int) (a0_1 : Int) (a0_2 : Int) (r1 : Int) (r2 : Int) (r3 : Int) (w : World) (h : laws_toClue.f a0_0 a0_1 a0_2 = some (r1, r2, r3)) :
  Calls Tryd.prog 16 #[.agg #[.int .i64 a0_0, .int .i64 a0_1, .int .i64 a0_2]] w fun e w' => e = .returned (.agg #[.int .i64 r1, .int .i64 r2, .int .i64 r3]) ∧ Below w.heap.size w w' := by
 have hu23 := Tryd.underlying23
 have hu30 := Tryd.underlying30
 have HB := Aside0.mk (Below.refl w.heap.size w)
 have H : (some (a0_0, a0_1, a0_2)) = some (r1, r2, r3) := h
 clear h
 simp only [Option.some.injEq, Prod.mk.injEq] at H
 obtain ⟨rfl, rfl, rfl⟩ := H
 go_enter Tryd.func16, Tryd.ntmps16
 go_wp2_with (first | ((with_reducible refine gate_dst (N := 1) rfl ?_); refine box_event ?hg (N := 1) ?hd (cs := #[.int .i64 a0_0, .int .i64 a0_1, .int .i64 a0_2]) (t := 23) ?hr ?_; (case hd => rfl); (case hg => rfl); (case hr => first | (go_simp; done) | (go_simp; rfl)); intro gb312 hg w2 hbox hb; have n0_ := hS HB hb; have n1_ := Aside0.mk (hbox); have n2_ := gS HB hg; have n3_ := gS HB hg; clear HB; have HB := n0_; have BK312 := n1_; have GW312 := n2_; have GE312 := n3_; clear n0_ n1_ n2_ n3_; clear hb hbox hg) | ((with_reducible refine gate_dst (N := 2) rfl ?_); refine box_event ?hg (N := 2) ?hd (cs := #[.int .i64 0, .int .i64 0, .int .i64 0]) (t := 30) ?hr ?_; (case hd => rfl); (case hg => rfl); (case hr => first | (go_simp; done) | (go_simp; rfl)); intro gb313 hg w3 hbox hb; have n0_ := bS BK312 hb; have n1_ := hS HB hb; have n2_ := Aside0.mk (hbox); have n3_ := gS HB hg; have n4_ := gS HB hg; have n5_ := nL BK312 hg; have n6_ := nG BK312 hg; clear BK312; clear HB; have BK312 := n0_; have HB := n1_; have BK313 := n2_; have GW313 := n3_; have GE313 := n4_; have NB312_313 := n5_; have NB313_312 := n6_; clear n0_ n1_ n2_ n3_ n4_ n5_ n6_; clear hb hbox hg) | ((with_reducible refine gate_dst (N := 3) rfl ?_); refine box_event ?hg (N := 3) ?hd (cs := #[.int .i64 0, .int .i64 0, .int .i64 0]) (t := 30) ?hr ?_; (case hd => rfl); (case hg => rfl); (case hr => first | (go_simp; done) | (go_simp; rfl)); intro gb314 hg w4 hbox hb; have n0_ := bS BK312 hb; have n1_ := bS BK313 hb; have n2_ := hS HB hb; have n3_ := Aside0.mk (hbox); have n4_ := gS HB hg; have n5_ := gS HB hg; have n6_ := nL BK312 hg; have n7_ := nG BK312 hg; have n8_ := nL BK313 hg; have n9_ := nG BK313 hg; clear BK312; clear BK313; clear HB; have BK312 := n0_; have BK313 := n1_; have HB := n2_; have BK314 := n3_; have GW314 := n4_; have GE314 := n5_; have NB312_314 := n6_; have NB314_312 := n7_; have NB313_314 := n8_; have NB314_313 := n9_; clear n0_ n1_ n2_ n3_ n4_ n5_ n6_ n7_ n8_ n9_; clear hb hbox hg; have hnb5 := NB312_313.out; have hnc5 := NB313_312.out; have hnb6 := NB312_314.out; have hnc6 := NB314_312.out; have hcz7_0 : w4.cell? ⟨gb312, 0, none⟩ = some (.int .i64 a0_0) := (blk_cell BK312.out 0).trans rfl; have hcz7_1 : w4.cell? ⟨gb312, 1, none⟩ = some (.int .i64 a0_1) := (blk_cell BK312.out 1).trans rfl; have hcz7_2 : w4.cell? ⟨gb312, 2, none⟩ = some (.int .i64 a0_2) := (blk_cell BK312.out 2).trans rfl; have hfz7_0 := blk_frozen BK312.out 0; have hfz7_1 := blk_frozen BK312.out 1; have hfz7_2 := blk_frozen BK312.out 2; have hnb8 := NB314_313.out; have hnc8 := NB313_314.out; have hcz9_0 : w4.cell? ⟨gb314, 0, none⟩ = some (.int .i64 0) := (blk_cell BK314.out 0).trans rfl; have hcz9_1 : w4.cell? ⟨gb314, 1, none⟩ = some (.int .i64 0) := (blk_cell BK314.out 1).trans rfl; have hcz9_2 : w4.cell? ⟨gb314, 2, none⟩ = some (.int .i64 0) := (blk_cell BK314.out 2).trans rfl; have hfz9_0 := blk_frozen BK314.out 0; have hfz9_1 := blk_frozen BK314.out 1; have hfz9_2 := blk_frozen BK314.out 2; have hcz10_0 : w4.cell? ⟨gb313, 0, none⟩ = some (.int .i64 0) := (blk_cell BK313.out 0).trans rfl; have hcz10_1 : w4.cell? ⟨gb313, 1, none⟩ = some (.int .i64 0) := (blk_cell BK313.out 1).trans rfl; have hcz10_2 : w4.cell? ⟨gb313, 2, none⟩ = some (.int .i64 0) := (blk_cell BK313.out 2).trans rfl; have hfz10_0 := blk_frozen BK313.out 0; have hfz10_1 := blk_frozen BK313.out 1; have hfz10_2 := blk_frozen BK313.out 2))
 refine bodyPost_ret (results_cell_row rfl _ _ gb313 30 #[.int .i64 a0_0, .int .i64 a0_1, .int .i64 a0_2] (0, 0) _ rfl (by (with_reducible repeat (first | refine blk_drewN ?_ _ | refine blk_drew ?_ | refine blk_alloc ?_ _)); refine blk_put (cs := #[.int .i64 a0_0, .int .i64 a0_1, .int .i64 0]) ?_ 2 _ rfl; (with_reducible repeat (first | refine blk_drewN ?_ _ | refine blk_drew ?_ | refine blk_alloc ?_ _)); refine blk_put (cs := #[.int .i64 a0_0, .int .i64 0, .int .i64 0]) ?_ 1 _ rfl; (with_reducible repeat (first | refine blk_drewN ?_ _ | refine blk_drew ?_ | refine blk_alloc ?_ _)); refine blk_put (cs := #[.int .i64 0, .int .i64 0, .int .i64 0]) ?_ 0 _ rfl; (with_reducible repeat (first | refine blk_drewN ?_ _ | refine blk_drew ?_ | refine blk_alloc ?_ _)); refine blk_far ?_ NB313_314.out _; (with_reducible repeat (first | refine blk_drewN ?_ _ | refine blk_drew ?_ | refine blk_alloc ?_ _)); refine blk_far ?_ NB313_314.out _; (with_reducible repeat (first | refine blk_drewN ?_ _ | refine blk_drew ?_ | refine blk_alloc ?_ _)); refine blk_far ?_ NB313_314.out _; (with_reducible repeat (first | refine blk_drewN ?_ _ | refine blk_drew ?_ | refine blk_alloc ?_ _)); exact BK313.out) Tryd.underlying30 rfl (by kernel_rfl)) rfl ?_
 exact ⟨by first | rfl | (simp [errW_none, errW_some] <;> rfl) | (simp [*, errW_none, errW_some] <;> rfl), hB⟩

/-! ### laws_toClueS: function 85 -/
def laws_toClueS.l0 : Nat → List (S23) → List (S30) → Int → Option ((List (S30)))
 | 0, _, _, _ => none
 | k + 1, x0, x3, x4 => if x4 < (x0.length : Int) then (if 0 ≤ x4 then ((laws_toClue.f ((rd_T23 x0 x4).f0) ((rd_T23 x0 x4).f1) ((rd_T23 x0 x4).f2)).bind fun bt319 => (if x4 < (x3.length : Int) then (laws_toClueS.l0 k x0 (x3.set (x4 : Int).toNat (⟨bt319.1, bt319.2.1, bt319.2.2⟩ : S30)) (wrap64 (x4 + 1))) else (none))) else (none)) else (some x3)
def laws_toClueS.f (k : Nat) (l0 : List (S23)) : Option ((List (S30))) := if 0 ≤ (l0.length : Int) then (if ((l0.length : Int) : Int).toNat ≤ 11728124029610 then (laws_toClueS.l0 k l0 (List.replicate ((l0.length : Int) : Int).toNat z30) 0) else (none)) else (none)
theorem laws_toClueS.mono_l : ∀ k, (∀ y0 y1 y2, LeO (laws_toClueS.l0 k y0 y1 y2) (laws_toClueS.l0 (k + 1) y0 y1 y2))
 | 0 => fun _ _ _ r h => by simp [laws_toClueS.l0] at h
 | k + 1 => by
  have ih0 := laws_toClueS.mono_l k
  ·intro y0 y1 y2
   unfold laws_toClueS.l0
   repeat' first
   | (with_reducible exact ih0 _ _ _)
   | (with_reducible exact LeO.refl _)
   | (with_reducible exact LeO.none _)
   | (with_reducible refine LeO.ite ?_ ?_)
   | (with_reducible refine LeO.bind ?_ (fun _ => ?_))
   | exact ih0 _ _ _
   | exact LeO.none _
   | refine LeO.ite ?_ ?_
   | refine LeO.bind ?_ (fun _ => ?_)
theorem laws_toClueS.mono : ∀ a0 k, LeO (laws_toClueS.f k a0) (laws_toClueS.f (k + 1) a0) := by
 intro a0 k
 have ih0 := laws_toClueS.mono_l k
 unfold laws_toClueS.f
 repeat' first
   | (with_reducible exact ih0 _ _ _)
   | (with_reducible exact LeO.refl _)
   | (with_reducible exact LeO.none _)
   | (with_reducible refine LeO.ite ?_ ?_)
   | (with_reducible refine LeO.bind ?_ (fun _ => ?_))
   | exact ih0 _ _ _
   | exact LeO.none _
   | refine LeO.ite ?_ ?_
   | refine LeO.bind ?_ (fun _ => ?_)
set_option maxHeartbeats 8000000 in
set_option maxRecDepth 100000 in
theorem laws_toClueS.calls (k : Nat) (A0 : Option Addr) (c0 : Nat) (l0 : List (S23)) (r : List (S30)) (w : World) (hr0 : Kd.C k23 w A0 l0.length l0) (hc0 : l0.length ≤ c0) (h : laws_toClueS.f k l0 = some r) :
  Calls Tryd.prog 85 #[.slice A0 l0.length c0] w fun e w' => ∃ v0_ : Value, e = .returned (v0_) ∧ Kd.R k30 30 w' w.heap.size (fun _ => True) v0_ r ∧ Below w.heap.size w w' := by
 have hu23 := Tryd.underlying23
 have hu30 := Tryd.underlying30
 have HR0 := Aside0.mk hr0
 have HC0 := Aside0.mk hc0
 clear hr0 hc0
 have HB := Aside0.mk (Below.refl w.heap.size w)
 have H : (if 0 ≤ (l0.length : Int) then (if ((l0.length : Int) : Int).toNat ≤ 11728124029610 then (laws_toClueS.l0 k l0 (List.replicate ((l0.length : Int) : Int).toNat z30) 0) else (none)) else (none)) = some r := h
 clear h
 by_cases c2 : 0 ≤ (l0.length : Int)
 ·rw [if_pos c2] at H
  have c2b0 := eq_true c2
  have c2b1 : decide (0 ≤ (l0.length : Int)) = true := decide_eq_true c2
  clear c2
  by_cases c3 : ((l0.length : Int) : Int).toNat ≤ 11728124029610
  ·rw [if_pos c3] at H
   have c3b0 := eq_true c3
   have c3b1 : decide (((l0.length : Int) : Int).toNat ≤ 11728124029610) = true := decide_eq_true c3
   clear c3
   obtain ⟨y315, hy315⟩ : ∃ y_ : List (S30), y_ = (List.replicate ((l0.length : Int) : Int).toNat z30) := ⟨_, rfl⟩
   replace H : (laws_toClueS.l0 k l0 y315 0) = some r := by first | (rw [hy315]; with_reducible exact H) | (have H2_ := (Option.bind_some _ _).symm.trans H; rw [hy315]; with_reducible exact H2_) | (have H2_ := (Option.bind_some _ _).symm.trans H; with_reducible exact H2_) | with_reducible exact H | (rw [hy315]; exact H) | exact H
   have Ny315 := Aside0.mk hy315
   clear hy315
   have H' := Aside0.mk H
   clear H
   go_enter Tryd.func85, Tryd.ntmps85
   go_wp2_with (first | ((with_reducible refine gate_dst (N := 7) rfl ?_); refine Kd.R_make k30 _ 30 rfl (N := 7) rfl 38 _ _ rfl (l0.length : Int) rfl rfl Tryd.underlying38 (.agg #[(.int .i64 0), (.int .i64 0), (.int .i64 0)]) 24 info30 rfl (by decide) (by omega) z30 (ok := fun _ => True) (okp := fun _ => True) (k30_mkM _ _ _ z30 ) (fun _ hk => hk) trivial (of_decide_eq_true (by first | (with_reducible assumption) | assumption)) (Nat.le_trans (Nat.mul_le_mul_right _ (of_decide_eq_true (by first | (with_reducible assumption) | assumption) : (l0.length : Int).toNat ≤ 11728124029610)) (by omega)) (Below.refl _ _) (Nat.le_refl _) ?_; intro v316 w4 ho5 hb hg_ hnew_; clear hg_ hnew_; (first | rw [← Ny315.out] at ho5 | (simp only [Int.reduceToNat] at ho5; rw [← Ny315.out] at ho5)); have n0_ := Aside0.mk (Kd.R_lower ho5 (below_size hB)); have n1_ := hS HB hb; clear HB; have HO317 := n0_; have HB := n1_; clear n0_ n1_; clear hb ho5))
   go_loopg [4] k (fun kq v4 w' => ∃ (x3_1 : List (S30)) (x4_1 : Int), v4 = .int .i64 x4_1 ∧ Aside0 (laws_toClueS.l0 kq l0 x3_1 x4_1 = some r) ∧ Aside0 (kq ≤ k) ∧ Aside0 (Kd.R k30 30 w' w.heap.size (fun _ => True) v316 x3_1) ∧ Aside0 (Below w.heap.size w w'))
   case atStart => exact ⟨(y315), (0), (by first | rfl | (simp; done) | (simp [*]; done)), H', ⟨Nat.le_refl _⟩, ⟨by (with_reducible repeat (first | apply Kd.R_alloc | apply Kd.R_drewN | apply Kd.R_drew)); exact HO317.out⟩, ⟨hB⟩⟩
   case round =>
    clear H'
    try clear c2
    try clear c2b0
    try clear c2b1
    try clear p2
    try clear c3
    try clear c3b0
    try clear c3b1
    obtain ⟨x3_1, x4_1, rfl, HA, HK1, HO_3, HB⟩ := hrel
    cases gk with
    | zero => exact absurd HA.out (by simp [laws_toClueS.l0])
    | succ k1 =>
     have H := HA.out
     clear HA
     simp only [laws_toClueS.l0] at H
     by_cases c6 : x4_1 < (l0.length : Int)
     ·rw [if_pos c6] at H
      have c6b0 : decide (x4_1 < (l0.length : Int)) = true := decide_eq_true c6
      clear c6
      by_cases c7 : 0 ≤ x4_1
      ·rw [if_pos c7] at H
       have c7b0 : decide (0 ≤ x4_1) = true := decide_eq_true c7
       clear c7
       replace H := Option.bind_eq_some_iff.mp H
       obtain ⟨⟨t319, t320, t321⟩, A80, H⟩ := H
       replace H : (if x4_1 < (x3_1.length : Int) then (laws_toClueS.l0 k1 l0 (x3_1.set (x4_1 : Int).toNat (⟨t319, t320, t321⟩ : S30)) (wrap64 (x4_1 + 1))) else (none)) = some r := H
       have A8 := Aside0.mk A80
       clear A80
       by_cases c9 : x4_1 < (x3_1.length : Int)
       ·rw [if_pos c9] at H
        have c9b0 : decide (x4_1 < (x3_1.length : Int)) = true := decide_eq_true c9
        clear c9
        obtain ⟨y322, hy322⟩ : ∃ y_ : List (S30), y_ = (x3_1.set (x4_1 : Int).toNat (⟨t319, t320, t321⟩ : S30)) := ⟨_, rfl⟩
        replace H : (laws_toClueS.l0 k1 l0 y322 (wrap64 (x4_1 + 1))) = some r := by first | (rw [hy322]; with_reducible exact H) | (have H2_ := (Option.bind_some _ _).symm.trans H; rw [hy322]; with_reducible exact H2_) | (have H2_ := (Option.bind_some _ _).symm.trans H; with_reducible exact H2_) | with_reducible exact H | (rw [hy322]; exact H) | exact H
        have Ny322 := Aside0.mk hy322
        clear hy322
        have H' := Aside0.mk H
        clear H
        have p318 : 0 ≤ (x4_1 : Int) := of_decide_eq_true (by first | (with_reducible assumption) | assumption)
        have q318 : x4_1 < (l0.length : Int) := of_decide_eq_true (by first | (with_reducible assumption) | assumption)
        obtain ⟨ad318, e318, hx318_0, hx318_1, hx318_2⟩ := at_T23 HR0.out x4_1 p318 q318
        cases e318
        replace hx318_0 := (HB.out.cell (World.block_lt_of_cell? w _ hx318_0)).trans hx318_0
        replace hx318_1 := (HB.out.cell (World.block_lt_of_cell? w _ hx318_1)).trans hx318_1
        replace hx318_2 := (HB.out.cell (World.block_lt_of_cell? w _ hx318_2)).trans hx318_2
        replace p318 := eq_true p318
        replace q318 := eq_true q318
        go_wp2_with (first | ((with_reducible refine gate_callee (f := 16) rfl ?_); refine goesL_ (some 20) rfl rfl Tryd.func16 (by kernel_rfl) rfl #[.agg #[.int .i64 ((rd_T23 l0 x4_1).f0), .int .i64 ((rd_T23 l0 x4_1).f1), .int .i64 ((rd_T23 l0 x4_1).f2)]] rfl mapT ?_; (with_reducible refine (laws_toClue.calls ((rd_T23 l0 x4_1).f0) ((rd_T23 l0 x4_1).f1) ((rd_T23 l0 x4_1).f2) t319 t320 t321 _ A8.out).mono ?_); rintro e w11 ⟨rfl, hb⟩; refine ⟨_, rfl, ?_⟩; have n0_ := Aside0.mk (Kd.R_below (by (with_reducible repeat (first | apply Kd.R_alloc | apply Kd.R_drewN | apply Kd.R_drew)); exact HO_3.out) hb); have n1_ := hS HB hb; clear HO_3; clear HB; have HO_3 := n0_; have HB := n1_; clear n0_ n1_; (try clear hb); (try clear hb2); (try clear hk); (try clear hi); have p10 : 0 ≤ (x4_1 : Int) := of_decide_eq_true (by first | (with_reducible assumption) | assumption); have q10 : (x4_1 : Int) < ((x3_1.length : Int) : Int) := of_decide_eq_true (by first | (with_reducible assumption) | assumption); obtain ⟨go10, co10, eo10, gb10, gl10, cl10, HG10⟩ := Kd.R_form HO_3.out (by omega); (first | cases eo10 | (injection eo10 with ea_ en_ ec_; (first | subst ea_ | (injection ea_ with ea_; subst ea_)); subst ec_; clear en_)); have GB10 := Aside0.mk gb10; have GG10 := Aside0.mk HG10; clear gb10 gl10 HG10; obtain ⟨ce10, hcl10, hM10, hcc10, hfr10⟩ := Kd.R_elem HO_3.out z30 (x4_1 : Int) p10 q10; obtain rfl := k30_openM hM10; have hx10_0 : w11.cell? ⟨go10, (x4_1 : Int).toNat * 3, none⟩ = some (.int .i64 ((rd_T30 x3_1 x4_1).f0)) := hcc10 0 _ rfl; have hx10_1 : w11.cell? ⟨go10, (x4_1 : Int).toNat * 3 + 1, none⟩ = some (.int .i64 ((rd_T30 x3_1 x4_1).f1)) := hcc10 1 _ rfl; have hx10_2 : w11.cell? ⟨go10, (x4_1 : Int).toNat * 3 + 2, none⟩ = some (.int .i64 ((rd_T30 x3_1 x4_1).f2)) := hcc10 2 _ rfl; have hf10_0 : w11.frozen? ⟨go10, (x4_1 : Int).toNat * 3, none⟩ = false := hfr10 0; have hf10_1 : w11.frozen? ⟨go10, (x4_1 : Int).toNat * 3 + 1, none⟩ = false := hfr10 1; have hf10_2 : w11.frozen? ⟨go10, (x4_1 : Int).toNat * 3 + 2, none⟩ = false := hfr10 2; clear hcl10 hcc10 hfr10 hM10; replace p10 := eq_true p10; replace q10 := eq_true q10; have HX12 := Aside0.mk (show Kd.R k30 30 w11 w.heap.size (fun _ => True) (.slice (some ⟨go10, 0, none⟩) x3_1.length co10) x3_1 from (by (with_reducible repeat (first | apply Kd.R_alloc | apply Kd.R_drewN | apply Kd.R_drew)); exact HO_3.out)); obtain ⟨ce12, hcl12, hM12, hcc12, hfr12⟩ := Kd.R_elem HX12.out z30 (x4_1 : Int) (of_decide_eq_true (by first | (with_reducible assumption) | assumption)) (by have h_ : (x4_1 : Int) < ((x3_1.length : Int) : Int) := of_decide_eq_true (by first | (with_reducible assumption) | assumption); first | exact h_ | (have e_ := (Kd.R_reads' HO_3.out).1; omega) | simpa using h_); obtain rfl := k30_openM hM12; have HP12 := Kd.R_seg HX12.out (x4_1 : Int) (of_decide_eq_true (by first | (with_reducible assumption) | assumption)) (by have h_ : (x4_1 : Int) < ((x3_1.length : Int) : Int) := of_decide_eq_true (by first | (with_reducible assumption) | assumption); first | exact h_ | (have e_ := (Kd.R_reads' HO_3.out).1; omega) | simpa using h_) (seg := [.int .i64 t319, .int .i64 t320, .int .i64 t321]) (j := 0) hcl12 hcc12 (show 3 ≤ 3 from by decide) (x' := (⟨t319, t320, t321⟩ : S30)) (k30_mkM _ _ _ (⟨t319, t320, t321⟩ : S30) ) (fun _ hk => hk); have hx12_0 := hcc12 0 _ rfl; (try simp only [show (k30).sz = 3 from rfl, Nat.mul_one, Nat.add_zero] at hx12_0); have hf12_0 := hfr12 0; (try simp only [show (k30).sz = 3 from rfl, Nat.mul_one, Nat.add_zero] at hf12_0); have hx12_1 := hcc12 1 _ rfl; (try simp only [show (k30).sz = 3 from rfl, Nat.mul_one, Nat.add_zero] at hx12_1); have hf12_1 := hfr12 1; (try simp only [show (k30).sz = 3 from rfl, Nat.mul_one, Nat.add_zero] at hf12_1); have hx12_2 := hcc12 2 _ rfl; (try simp only [show (k30).sz = 3 from rfl, Nat.mul_one, Nat.add_zero] at hx12_2); have hf12_2 := hfr12 2; (try simp only [show (k30).sz = 3 from rfl, Nat.mul_one, Nat.add_zero] at hf12_2); clear hcl12 hcc12 hfr12 hM12) | ((with_reducible refine gate_store (t := 30) (p := 21) rfl ?_); refine store_event (t := 30) (p := 21) (v := ?vo_w13) (w1 := (((w11.setCell ⟨go10, (x4_1 : Int).toNat * 3, none⟩ (.int .i64 t319)).setCell ⟨go10, (x4_1 : Int).toNat * 3 + 1, none⟩ (.int .i64 t320)).setCell ⟨go10, (x4_1 : Int).toNat * 3 + 2, none⟩ (.int .i64 t321))) ?hg ?ho ?hn ?hr ?_; (case ho => rfl); (case hg => rfl); (case hn => rfl); (case hr => first | (go_simp; done) | (go_simp; rfl)); intro w13 hw; have hg : w11.grownBy w13 (some go10) := (by rw [hw]; exact HP12.2); have hp_ : Kd.R k30 30 w13 w.heap.size (fun _ => True) (.slice (some ⟨go10, 0, none⟩) x3_1.length co10) y322 := (by rw [hw, Ny322.out]; exact HP12.1); clear HP12; have n0_ := Aside0.mk (hp_); have n1_ := Aside0.mk ((by rw [hw]; exact below_set (below_set (below_set (HB.out) GB10.out) GB10.out) GB10.out : Below w.heap.size w w13)); clear HO_3; clear HB; have HO_3 := n0_; have HB := n1_; clear n0_ n1_; clear hg hw hp_))
        go_roundg k1
        case measure => have := HK1.out; omega
        case rel => exact ⟨(y322), (wrap64 (x4_1 + 1)), (by first | rfl | (simp; done) | (simp [*]; done)), H', ⟨by have := HK1.out; omega⟩, ⟨by (with_reducible repeat (first | apply Kd.R_alloc | apply Kd.R_drewN | apply Kd.R_drew)); exact HO_3.out⟩, ⟨hB⟩⟩
       ·rw [if_neg c9] at H
        exact absurd H (by simp)
      ·rw [if_neg c7] at H
       exact absurd H (by simp)
     ·rw [if_neg c6] at H
      have c6b0 : decide (x4_1 < (l0.length : Int)) = false := decide_eq_false c6
      clear c6
      obtain rfl := Option.some.inj H
      go_wp2
      go_ret
      exact ⟨_, by first | rfl | (simp [errW_none, errW_some] <;> rfl) | (simp [*, errW_none, errW_some] <;> rfl), by (with_reducible repeat (first | apply Kd.R_alloc | apply Kd.R_drewN | apply Kd.R_drew)); exact HO_3.out, hB⟩
  ·rw [if_neg c3] at H
   exact absurd H (by simp)
 ·rw [if_neg c2] at H
  exact absurd H (by simp)

/-! ### laws_toPuzzle: function 28 -/
def laws_toPuzzle.f (k : Nat) (a0_0 : Int) (l0_1 : List (S23)) : Option (Int × (List (S30))) := (laws_toClueS.f k l0_1).bind fun t326 => (some (a0_0, t326))
theorem laws_toPuzzle.mono : ∀ a0 a1 k, LeO (laws_toPuzzle.f k a0 a1) (laws_toPuzzle.f (k + 1) a0 a1) := by
 intro a0 a1 k
 unfold laws_toPuzzle.f
 repeat' first
   | (with_reducible exact laws_toClueS.mono _ _)
   | (with_reducible exact LeO.refl _)
   | (with_reducible exact LeO.none _)
   | (with_reducible refine LeO.ite ?_ ?_)
   | (with_reducible refine LeO.bind ?_ (fun _ => ?_))
   | exact laws_toClueS.mono _ _
   | exact LeO.none _
   | refine LeO.ite ?_ ?_
   | refine LeO.bind ?_ (fun _ => ?_)
set_option maxHeartbeats 8000000 in
set_option maxRecDepth 100000 in
theorem laws_toPuzzle.calls (k : Nat) (a0_0 : Int) (A0_1 : Option Addr) (c0_1 : Nat) (l0_1 : List (S23)) (r1 : Int) (r2 : List (S30)) (w : World) (hr0_1 : Kd.C k23 w A0_1 l0_1.length l0_1) (hc0_1 : l0_1.length ≤ c0_1) (h : laws_toPuzzle.f k a0_0 l0_1 = some (r1, r2)) :
  Calls Tryd.prog 28 #[.agg #[.int .i64 a0_0, .slice A0_1 l0_1.length c0_1]] w fun e w' => ∃ v1_ : Value, e = .returned (.agg #[.int .i64 r1, v1_]) ∧ Kd.R k30 30 w' w.heap.size (fun _ => True) v1_ r2 ∧ Below w.heap.size w w' := by
 have hu49 := Tryd.underlying49
 have hu40 := Tryd.underlying40
 have HR0_1 := Aside0.mk hr0_1
 have HC0_1 := Aside0.mk hc0_1
 clear hr0_1 hc0_1
 have HB := Aside0.mk (Below.refl w.heap.size w)
 have H : ((laws_toClueS.f k l0_1).bind fun t326 => (some (a0_0, t326))) = some (r1, r2) := h
 clear h
 replace H := Option.bind_eq_some_iff.mp H
 obtain ⟨t326, A20, H⟩ := H
 replace H : (some (a0_0, t326)) = some (r1, r2) := H
 have A2 := Aside0.mk A20
 clear A20
 simp only [Option.some.injEq, Prod.mk.injEq] at H
 obtain ⟨rfl, rfl⟩ := H
 go_enter Tryd.func28, Tryd.ntmps28
 go_wp2_with (first | ((with_reducible refine gate_dst (N := 1) rfl ?_); refine box_event ?hg (N := 1) ?hd (cs := #[.int .i64 a0_0, .slice A0_1 l0_1.length c0_1]) (t := 49) ?hr ?_; (case hd => rfl); (case hg => rfl); (case hr => first | (go_simp; done) | (go_simp; rfl)); intro gb323 hg w3 hbox hb; have n0_ := hS HB hb; have n1_ := Aside0.mk (hbox); have n2_ := gS HB hg; have n3_ := gS HB hg; clear HB; have HB := n0_; have BK323 := n1_; have GW323 := n2_; have GE323 := n3_; clear n0_ n1_ n2_ n3_; clear hb hbox hg) | ((with_reducible refine gate_dst (N := 2) rfl ?_); refine box_event ?hg (N := 2) ?hd (cs := #[.int .i64 0, .slice none 0 0]) (t := 40) ?hr ?_; (case hd => rfl); (case hg => rfl); (case hr => first | (go_simp; done) | (go_simp; rfl)); intro gb324 hg w4 hbox hb; have n0_ := bS BK323 hb; have n1_ := hS HB hb; have n2_ := Aside0.mk (hbox); have n3_ := gS HB hg; have n4_ := gS HB hg; have n5_ := nL BK323 hg; have n6_ := nG BK323 hg; clear BK323; clear HB; have BK323 := n0_; have HB := n1_; have BK324 := n2_; have GW324 := n3_; have GE324 := n4_; have NB323_324 := n5_; have NB324_323 := n6_; clear n0_ n1_ n2_ n3_ n4_ n5_ n6_; clear hb hbox hg) | ((with_reducible refine gate_dst (N := 3) rfl ?_); refine box_event ?hg (N := 3) ?hd (cs := #[.int .i64 0, .slice none 0 0]) (t := 40) ?hr ?_; (case hd => rfl); (case hg => rfl); (case hr => first | (go_simp; done) | (go_simp; rfl)); intro gb325 hg w5 hbox hb; have n0_ := bS BK323 hb; have n1_ := bS BK324 hb; have n2_ := hS HB hb; have n3_ := Aside0.mk (hbox); have n4_ := gS HB hg; have n5_ := gS HB hg; have n6_ := nL BK323 hg; have n7_ := nG BK323 hg; have n8_ := nL BK324 hg; have n9_ := nG BK324 hg; clear BK323; clear BK324; clear HB; have BK323 := n0_; have BK324 := n1_; have HB := n2_; have BK325 := n3_; have GW325 := n4_; have GE325 := n5_; have NB323_325 := n6_; have NB325_323 := n7_; have NB324_325 := n8_; have NB325_324 := n9_; clear n0_ n1_ n2_ n3_ n4_ n5_ n6_ n7_ n8_ n9_; clear hb hbox hg; have hnb6 := NB323_324.out; have hnc6 := NB324_323.out; have hnb7 := NB323_325.out; have hnc7 := NB325_323.out; have hcz8_0 : w5.cell? ⟨gb323, 0, none⟩ = some (.int .i64 a0_0) := (blk_cell BK323.out 0).trans rfl; have hcz8_1 : w5.cell? ⟨gb323, 1, none⟩ = some (.slice A0_1 l0_1.length c0_1) := (blk_cell BK323.out 1).trans rfl; have hfz8_0 := blk_frozen BK323.out 0; have hfz8_1 := blk_frozen BK323.out 1; have hnb9 := NB325_324.out; have hnc9 := NB324_325.out; have hcz10_0 : w5.cell? ⟨gb325, 0, none⟩ = some (.int .i64 0) := (blk_cell BK325.out 0).trans rfl; have hcz10_1 : w5.cell? ⟨gb325, 1, none⟩ = some (.slice none 0 0) := (blk_cell BK325.out 1).trans rfl; have hfz10_0 := blk_frozen BK325.out 0; have hfz10_1 := blk_frozen BK325.out 1) | ((with_reducible refine gate_callee (f := 85) rfl ?_); refine goesL_ (some 9) rfl rfl Tryd.func85 (by kernel_rfl) rfl #[.slice A0_1 l0_1.length c0_1] rfl mapT ?_; (with_reducible refine (laws_toClueS.calls k _ _ l0_1 t326 _ ?side1 ?side2 A2.out).mono ?_); (case side1 => exact Kd.C_below HR0_1.out hB); (case side2 => exact HC0_1.out); rintro e w11 ⟨v327, rfl, ho0, hb⟩; refine ⟨_, rfl, ?_⟩; have n0_ := Aside0.mk (Kd.R_lower ho0 (below_size hB)); have n1_ := Aside0.mk (blk_below (g := gb323) (o := .cells #[.int .i64 a0_0, .slice A0_1 l0_1.length c0_1] 49 (0, 0)) (by (with_reducible repeat (first | refine blk_drewN ?_ _ | refine blk_drew ?_ | refine blk_alloc ?_ _)); refine blk_far ?_ NB323_325.out _; (with_reducible repeat (first | refine blk_drewN ?_ _ | refine blk_drew ?_ | refine blk_alloc ?_ _)); exact BK323.out) hb); have n2_ := Aside0.mk (blk_below (g := gb324) (o := .cells #[.int .i64 0, .slice none 0 0] 40 (0, 0)) (by (with_reducible repeat (first | refine blk_drewN ?_ _ | refine blk_drew ?_ | refine blk_alloc ?_ _)); refine blk_far ?_ NB324_325.out _; (with_reducible repeat (first | refine blk_drewN ?_ _ | refine blk_drew ?_ | refine blk_alloc ?_ _)); exact BK324.out) hb); have n3_ := Aside0.mk (blk_below (g := gb325) (o := .cells #[.int .i64 a0_0, .slice none 0 0] 40 (0, 0)) (by (with_reducible repeat (first | refine blk_drewN ?_ _ | refine blk_drew ?_ | refine blk_alloc ?_ _)); refine blk_put (cs := #[.int .i64 0, .slice none 0 0]) ?_ 0 _ rfl; (with_reducible repeat (first | refine blk_drewN ?_ _ | refine blk_drew ?_ | refine blk_alloc ?_ _)); exact BK325.out) hb); have n4_ := hS HB hb; clear BK323; clear BK324; clear BK325; clear HB; have HO328 := n0_; have BK323 := n1_; have BK324 := n2_; have BK325 := n3_; have HB := n4_; clear n0_ n1_ n2_ n3_ n4_; (try clear hb); (try clear hb2); (try clear hk); (try clear hi); (try clear ho0); obtain ⟨Ao12, co12, eo12⟩ := Kd.R_slice HO328.out; subst eo12; have hcz13_0 : w11.cell? ⟨gb325, 0, none⟩ = some (.int .i64 a0_0) := (blk_cell BK325.out 0).trans rfl; have hcz13_1 : w11.cell? ⟨gb325, 1, none⟩ = some (.slice none 0 0) := (blk_cell BK325.out 1).trans rfl; have hfz13_0 := blk_frozen BK325.out 0; have hfz13_1 := blk_frozen BK325.out 1; have hcz14_0 : w11.cell? ⟨gb324, 0, none⟩ = some (.int .i64 0) := (blk_cell BK324.out 0).trans rfl; have hcz14_1 : w11.cell? ⟨gb324, 1, none⟩ = some (.slice none 0 0) := (blk_cell BK324.out 1).trans rfl; have hfz14_0 := blk_frozen BK324.out 0; have hfz14_1 := blk_frozen BK324.out 1))
 refine bodyPost_ret (results_cell_row rfl _ _ gb324 40 #[.int .i64 a0_0, .slice Ao12 t326.length co12] (0, 0) _ rfl (by (with_reducible repeat (first | refine blk_drewN ?_ _ | refine blk_drew ?_ | refine blk_alloc ?_ _)); refine blk_put (cs := #[.int .i64 a0_0, .slice none 0 0]) ?_ 1 _ rfl; (with_reducible repeat (first | refine blk_drewN ?_ _ | refine blk_drew ?_ | refine blk_alloc ?_ _)); refine blk_put (cs := #[.int .i64 0, .slice none 0 0]) ?_ 0 _ rfl; (with_reducible repeat (first | refine blk_drewN ?_ _ | refine blk_drew ?_ | refine blk_alloc ?_ _)); refine blk_far ?_ NB324_325.out _; (with_reducible repeat (first | refine blk_drewN ?_ _ | refine blk_drew ?_ | refine blk_alloc ?_ _)); exact BK324.out) Tryd.underlying40 rfl (by kernel_rfl)) rfl ?_
 exact ⟨_, by first | rfl | (simp [errW_none, errW_some] <;> rfl) | (simp [*, errW_none, errW_some] <;> rfl), by (with_reducible repeat (first | apply Kd.R_alloc | apply Kd.R_drewN | apply Kd.R_drew)); exact Kd.R_mono (Kd.R_far (p := ⟨gb324, 1, none⟩) (Kd.R_far (p := ⟨gb324, 0, none⟩) (Kd.R_far (p := ⟨gb325, 1, none⟩) (Kd.R_types (Kd.R_types HO328.out BK325.out (by decide)) BK324.out (by decide)) (fun _ hk => hk.1.2) (.slice Ao12 t326.length co12)) (fun _ hk => hk.2) (.int .i64 a0_0)) (fun _ hk => hk.2) (.slice Ao12 t326.length co12)) (fun _ hk => trivial), hB⟩

/-! ### impl_within: function 74 -/
def impl_within.f (a0 : Int) (a1 : Int) (a2 : Int) : Option (Bool) := if a1 ≤ a0 then (some (decide (a0 ≤ a2))) else (some false)
set_option maxHeartbeats 8000000 in
set_option maxRecDepth 100000 in
theorem impl_within.calls (a0 : Int) (a1 : Int) (a2 : Int) (r : Bool) (w : World) (h : impl_within.f a0 a1 a2 = some r) :
  Calls Tryd.prog 74 #[.int .i64 a0, .int .i64 a1, .int .i64 a2] w fun e w' => e = .returned (.bool r) ∧ Drawn0 w w' := by
 have H : (if a1 ≤ a0 then (some (decide (a0 ≤ a2))) else (some false)) = some r := h
 clear h
 by_cases c4 : a1 ≤ a0
 ·rw [if_pos c4] at H
  have c4b0 : decide (a1 ≤ a0) = true := decide_eq_true c4
  clear c4
  obtain rfl := Option.some.inj H
  go_enter Tryd.func74, Tryd.ntmps74
  go_wp2
  go_ret
  exact ⟨by first | rfl | (simp; done) | (simp [*]; done), by repeat (first | exact Drawn0.refl _ | apply Drawn0.step)⟩
 ·rw [if_neg c4] at H
  have c4b0 : decide (a1 ≤ a0) = false := decide_eq_false c4
  clear c4
  obtain rfl := Option.some.inj H
  go_enter Tryd.func74, Tryd.ntmps74
  go_wp2
  go_ret
  exact ⟨by first | rfl | (simp; done) | (simp [*]; done), by repeat (first | exact Drawn0.refl _ | apply Drawn0.step)⟩
theorem impl_within.ok (n lo hi : Int) : impl_within.f n lo hi = some (decide (lo ≤ n ∧ n ≤ hi)) := by
  unfold impl_within.f
  by_cases h : lo ≤ n <;> simp [h]

/-! ### impl_areGuests: function 100 -/
def impl_areGuests.f (a0 : Int) : Option (Bool) := (impl_within.f a0 1 5).bind fun t329 => (some t329)
set_option maxHeartbeats 8000000 in
set_option maxRecDepth 100000 in
theorem impl_areGuests.calls (a0 : Int) (r : Bool) (w : World) (h : impl_areGuests.f a0 = some r) :
  Calls Tryd.prog 100 #[.int .i64 a0] w fun e w' => e = .returned (.bool r) ∧ Drawn0 w w' := by
 have H : ((impl_within.f a0 1 5).bind fun t329 => (some t329)) = some r := h
 clear h
 replace H := Option.bind_eq_some_iff.mp H
 obtain ⟨t329, A20, H⟩ := H
 replace H : (some t329) = some r := H
 have A2 := Aside0.mk A20
 clear A20
 obtain rfl := Option.some.inj H
 go_enter Tryd.func100, Tryd.ntmps100
 go_wp2_with (first | ((with_reducible refine gate_callee (f := 74) rfl ?_); refine goesL_ (some 4) rfl rfl Tryd.func74 (by kernel_rfl) rfl #[.int .i64 a0, .int .i64 1, .int .i64 5] rfl mapT ?_; (with_reducible refine (impl_within.calls a0 1 5 t329 _ A2.out).mono ?_); rintro e w' ⟨rfl, ⟨nd, rfl⟩⟩; refine ⟨_, rfl, ?_⟩))
 go_ret
 exact ⟨by first | rfl | (simp; done) | (simp [*]; done), by repeat (first | exact Drawn0.refl _ | apply Drawn0.step)⟩

/-! ### impl_Clue_131: function 131 (a text of this session's own) -/

theorem impl_Clue_131.calls (A0 : Option Addr) (c0 : Nat) (l0 : List S30) (p : S30 → Bool) (g : Nat) (lb : Array Value) (w : World) (eg : ∀ args w, (callFunc g args).run Tryd.prog w = .ok (.enter g args) w)
    (hr0 : Kd.C k30 w A0 l0.length l0)
    (hp : ∀ (W : World) (x : S30), x ∈ l0 → Below w.heap.size w W → Calls Tryd.prog g (#[.agg #[.int .i64 x.f0, .int .i64 x.f1, .int .i64 x.f2]] ++ lb) W fun e w' => e = .returned (.bool (p x)) ∧ Below w.heap.size w w') :
    Calls Tryd.prog 131 #[.slice A0 l0.length c0, .func (.func g) #[] lb] w fun e w' => (∃ n, e = .returned (.int .i64 n) ∧ decide (0 ≤ n) = l0.any p) ∧ Below w.heap.size w w' := by
  have hu := Tryd.underlying30
  have HR0 := Aside0.mk hr0
  have hlen : l0.length ≤ 9223372036854775807 := hr0.2.1
  clear hr0
  go_enter Tryd.func131, Tryd.ntmps131
  go_wp2
  go_loopg [8] l0.length (fun gg s8 wr => ∃ kk : Nat, kk ≤ l0.length ∧ l0.length - kk ≤ gg ∧ s8 = .int .i64 kk ∧ Aside0 (Below w.heap.size w wr) ∧ Aside0 ((l0.take kk).any p = false))
  case atStart => exact ⟨0, Nat.zero_le _, by omega, rfl, ⟨Below.refl _ w⟩, ⟨by simp⟩⟩
  case round =>
    obtain ⟨kk, hkk, hg, rfl, BW, AN⟩ := hrel
    by_cases hlt : kk < l0.length
    · have hltz : (kk : Int) < (l0.length : Int) := by omega
      obtain ⟨ad, e, hx0, hx1, hx2⟩ := at_T30 HR0.out (kk : Int) (by omega) hltz
      cases e
      simp only [Int.toNat_natCast] at hx0 hx1 hx2
      replace hx0 := (BW.out.cell (World.block_lt_of_cell? w _ hx0)).trans hx0
      replace hx1 := (BW.out.cell (World.block_lt_of_cell? w _ hx1)).trans hx1
      replace hx2 := (BW.out.cell (World.block_lt_of_cell? w _ hx2)).trans hx2
      have hgetx : rd_T30 l0 kk = l0[kk] := by simp [rd_T30, List.getD, hlt]
      have hcall := hp wr (rd_T30 l0 kk) (by rw [hgetx]; exact List.getElem_mem hlt) BW.out
      clear hp
      have hget : (l0.take (kk + 1)).any p = p (rd_T30 l0 kk) := by
        rw [hgetx, List.take_succ_eq_append_getElem hlt, List.any_append, AN.out]; simp
      have hany : (l0.take (kk + 1)).any p = true → l0.any p = true := fun h => by
        rw [List.any_eq_true] at h ⊢
        obtain ⟨x, hx, hpx⟩ := h
        exact ⟨x, List.mem_of_mem_take hx, hpx⟩
      have HG := Aside0.mk hget
      have HA := Aside0.mk hany
      clear hget hany hgetx AN
      cases hq : p (rd_T30 l0 kk) with
      | true =>
        rw [hq] at hcall HG
        go_wp2_with (go_at_fn g; refine hcall.mono ?_; rintro e w' ⟨rfl, hb'⟩)
        go_ret
        exact ⟨⟨_, rfl, by rw [HA.out HG.out]; simp⟩, hb'⟩
      | false =>
        rw [hq] at hcall HG
        go_wp2_with (go_at_fn g; refine hcall.mono ?_; rintro e w' ⟨rfl, hb'⟩)
        go_roundg (l0.length - (kk + 1))
        case measure => omega
        case rel => exact ⟨kk + 1, by omega, by omega, by go_num, ⟨hb'⟩, HG⟩
    · have hltz : ¬ (kk : Int) < (l0.length : Int) := by omega
      go_wp2
      go_ret
      have := AN.out
      rw [List.take_of_length_le (by omega)] at this
      exact ⟨⟨_, rfl, by rw [this]; decide⟩, BW.out⟩

/-! ### impl_Clue_112: function 112 (a text of this session's own) -/
theorem impl_Clue_112.calls (A0 : Option Addr) (c0 : Nat) (l0 : List S30) (p : S30 → Bool) (g : Nat) (lb : Array Value) (w : World) (eg : ∀ args w, (callFunc g args).run Tryd.prog w = .ok (.enter g args) w)
    (hr0 : Kd.C k30 w A0 l0.length l0)
    (hp : ∀ (W : World) (x : S30), x ∈ l0 → Below w.heap.size w W → Calls Tryd.prog g (#[.agg #[.int .i64 x.f0, .int .i64 x.f1, .int .i64 x.f2]] ++ lb) W fun e w' => e = .returned (.bool (p x)) ∧ Below w.heap.size w w') :
    Calls Tryd.prog 112 #[.slice A0 l0.length c0, .func (.func g) #[] lb] w fun e w' => e = .returned (.bool (l0.any p)) ∧ Below w.heap.size w w' := by
  have HC := Aside0.mk (impl_Clue_131.calls A0 c0 l0 p g lb w eg hr0 hp)
  clear hr0 hp eg
  go_enter Tryd.func112, Tryd.ntmps112
  go_wp2_with (go_at_call 131; refine HC.out.mono ?_; rintro e w' ⟨⟨n, rfl, hn⟩, hb⟩; have HN := Aside0.mk hn; have HB := Aside0.mk hb; clear hn hb HC)
  go_ret
  exact ⟨by rw [← HN.out]; rfl, HB.out⟩

/-! ### impl_choose: function 101 -/
def impl_choose.l0 : Nat → Int → Int → Int → Int → Option (Int)
 | 0, _, _, _, _ => none
 | k + 1, x0, x5, x11, x12 => if x12 < x11 then (if (wrap64 (x12 + 1)) = 0 then (none) else (impl_choose.l0 k x0 (wrap64 (Int.tdiv (wrap64 (x5 * (wrap64 (x0 - x12)))) (wrap64 (x12 + 1)))) x11 (wrap64 (x12 + 1)))) else (some x5)
def impl_choose.f (k : Nat) (a0 : Int) (a1 : Int) : Option (Int) := (impl_within.f a1 0 a0).bind fun t330 => (if t330 = true then (impl_choose.l0 k a0 1 a1 0) else (some 0))
theorem impl_choose.mono_l : ∀ k, (∀ y0 y1 y2 y3, LeO (impl_choose.l0 k y0 y1 y2 y3) (impl_choose.l0 (k + 1) y0 y1 y2 y3))
 | 0 => fun _ _ _ _ r h => by simp [impl_choose.l0] at h
 | k + 1 => by
  have ih0 := impl_choose.mono_l k
  ·intro y0 y1 y2 y3
   unfold impl_choose.l0
   repeat' first
   | (with_reducible exact ih0 _ _ _ _)
   | (with_reducible exact LeO.refl _)
   | (with_reducible exact LeO.none _)
   | (with_reducible refine LeO.ite ?_ ?_)
   | (with_reducible refine LeO.bind ?_ (fun _ => ?_))
   | exact ih0 _ _ _ _
   | exact LeO.none _
   | refine LeO.ite ?_ ?_
   | refine LeO.bind ?_ (fun _ => ?_)
theorem impl_choose.mono : ∀ a0 a1 k, LeO (impl_choose.f k a0 a1) (impl_choose.f (k + 1) a0 a1) := by
 intro a0 a1 k
 have ih0 := impl_choose.mono_l k
 unfold impl_choose.f
 repeat' first
   | (with_reducible exact ih0 _ _ _ _)
   | (with_reducible exact LeO.refl _)
   | (with_reducible exact LeO.none _)
   | (with_reducible refine LeO.ite ?_ ?_)
   | (with_reducible refine LeO.bind ?_ (fun _ => ?_))
   | exact ih0 _ _ _ _
   | exact LeO.none _
   | refine LeO.ite ?_ ?_
   | refine LeO.bind ?_ (fun _ => ?_)
set_option maxHeartbeats 8000000 in
set_option maxRecDepth 100000 in
theorem impl_choose.calls (k : Nat) (a0 : Int) (a1 : Int) (r : Int) (w : World) (h : impl_choose.f k a0 a1 = some r) :
  Calls Tryd.prog 101 #[.int .i64 a0, .int .i64 a1] w fun e w' => e = .returned (.int .i64 r) ∧ Drawn0 w w' := by
 have H : ((impl_within.f a1 0 a0).bind fun t330 => (if t330 = true then (impl_choose.l0 k a0 1 a1 0) else (some 0))) = some r := h
 clear h
 replace H := Option.bind_eq_some_iff.mp H
 obtain ⟨t330, A30, H⟩ := H
 replace H : (if t330 = true then (impl_choose.l0 k a0 1 a1 0) else (some 0)) = some r := H
 have A3 := Aside0.mk A30
 clear A30
 by_cases c4 : t330 = true
 ·subst c4
  have H1 : (impl_choose.l0 k a0 1 a1 0) = some r := by rw [if_pos rfl] at H; exact H
  clear H
  have H := H1
  clear H1
  have H' := Aside0.mk H
  clear H
  go_enter Tryd.func101, Tryd.ntmps101
  go_wp2_with (first | ((with_reducible refine gate_callee (f := 74) rfl ?_); refine goesL_ (some 9) rfl rfl Tryd.func74 (by kernel_rfl) rfl #[.int .i64 a1, .int .i64 0, .int .i64 a0] rfl mapT ?_; (with_reducible refine (impl_within.calls a1 0 a0 true _ A3.out).mono ?_); rintro e w' ⟨rfl, ⟨nd, rfl⟩⟩; refine ⟨_, rfl, ?_⟩))
  go_loopg [5, 12] k (fun kq v5 v12 w' => ∃ (x5_1 : Int) (x12_1 : Int), v5 = .int .i64 x5_1 ∧ v12 = .int .i64 x12_1 ∧ Aside0 (impl_choose.l0 kq a0 x5_1 a1 x12_1 = some r) ∧ Aside0 (kq ≤ k) ∧ Drawn0 w w')
  case atStart => exact ⟨(1), (0), (by first | rfl | (simp; done) | (simp [*]; done)), (by first | rfl | (simp; done) | (simp [*]; done)), H', ⟨Nat.le_refl _⟩, by repeat (first | exact Drawn0.refl _ | apply Drawn0.step)⟩
  case round =>
   clear H'
   try clear c1
   try clear p2
   try clear c4
   obtain ⟨x5_1, x12_1, rfl, rfl, HA, HK1, ⟨m1, rfl⟩⟩ := hrel
   cases gk with
   | zero => exact absurd HA.out (by simp [impl_choose.l0])
   | succ k1 =>
    have H := HA.out
    clear HA
    simp only [impl_choose.l0] at H
    by_cases c5 : x12_1 < a1
    ·rw [if_pos c5] at H
     have c5b0 : decide (x12_1 < a1) = true := decide_eq_true c5
     clear c5
     by_cases c6 : (wrap64 (x12_1 + 1)) = 0
     ·rw [if_pos c6] at H
      exact absurd H (by simp)
     ·rw [if_neg c6] at H
      have c6b0 : ((wrap64 (x12_1 + 1)) == 0) = false := beq_eq_false_iff_ne.mpr c6
      have c6b1 : ((wrap64 (x12_1 + 1)) != 0) = true := bne_iff_ne.mpr c6
      have H' := Aside0.mk H
      clear H
      go_wp2
      go_roundg k1
      case measure => have := HK1.out; omega
      case rel => exact ⟨(wrap64 (Int.tdiv (wrap64 (x5_1 * (wrap64 (a0 - x12_1)))) (wrap64 (x12_1 + 1)))), (wrap64 (x12_1 + 1)), (by first | rfl | (simp; done) | (simp [*]; done)), (by first | rfl | (simp; done) | (simp [*]; done)), H', ⟨by have := HK1.out; omega⟩, by repeat (first | exact Drawn0.refl _ | apply Drawn0.step)⟩
    ·rw [if_neg c5] at H
     have c5b0 : decide (x12_1 < a1) = false := decide_eq_false c5
     clear c5
     obtain rfl := Option.some.inj H
     go_wp2
     go_ret
     exact ⟨by first | rfl | (simp; done) | (simp [*]; done), by repeat (first | exact Drawn0.refl _ | apply Drawn0.step)⟩
 ·replace c4 := Bool.eq_false_iff.mpr c4
  subst c4
  have H1 : (some 0) = some r := by rw [if_neg (show ¬ (false = true) by decide)] at H; exact H
  clear H
  have H := H1
  clear H1
  obtain rfl := Option.some.inj H
  go_enter Tryd.func101, Tryd.ntmps101
  go_wp2_with (first | ((with_reducible refine gate_callee (f := 74) rfl ?_); refine goesL_ (some 9) rfl rfl Tryd.func74 (by kernel_rfl) rfl #[.int .i64 a1, .int .i64 0, .int .i64 a0] rfl mapT ?_; (with_reducible refine (impl_within.calls a1 0 a0 false _ A3.out).mono ?_); rintro e w' ⟨rfl, ⟨nd, rfl⟩⟩; refine ⟨_, rfl, ?_⟩))
  go_ret
  exact ⟨by first | rfl | (simp; done) | (simp [*]; done), by repeat (first | exact Drawn0.refl _ | apply Drawn0.step)⟩
theorem impl_choose.two (k : Nat) (n : Int) (h0 : 0 ≤ n) (h1 : n ≤ 12) : impl_choose.f (k + 3) n 2 = some (n * (n - 1) / 2) := by
  unfold impl_choose.f
  simp only [impl_within.ok, Option.bind_some]
  by_cases h : 2 ≤ n
  · have e1 : wrap64 1 = 1 := wrap_id (by omega) (by omega)
    have e2 : wrap64 2 = 2 := wrap_id (by omega) (by omega)
    have e3 : wrap64 (n - 0) = n := by rw [Int.sub_zero]; exact wrap_id (by omega) (by omega)
    have e4 : wrap64 (n - 1) = n - 1 := wrap_id (by omega) (by omega)
    have e5 : wrap64 (1 * n) = n := by rw [Int.one_mul]; exact wrap_id (by omega) (by omega)
    have hm : 0 ≤ n * (n - 1) ∧ n * (n - 1) ≤ 132 := by
      refine ⟨Int.mul_nonneg h0 (by omega), ?_⟩
      have := Int.mul_le_mul h1 (show n - 1 ≤ 11 by omega) (by omega) (by omega : (0:Int) ≤ 12)
      omega
    have e6 : wrap64 (n * (n - 1)) = n * (n - 1) := wrap_id (by omega) (by omega)
    have e7 : Int.tdiv (n * (n - 1)) 2 = n * (n - 1) / 2 := Int.tdiv_eq_ediv_of_nonneg hm.1
    have e8 : wrap64 (n * (n - 1) / 2) = n * (n - 1) / 2 := wrap_id (by omega) (by omega)
    have e9 : wrap64 n = n := wrap_id (by omega) (by omega)
    simp [impl_choose.l0, h, e1, e2, e3, e4, e5, e6, e7, e8, e9]
  · obtain rfl | rfl : n = 0 ∨ n = 1 := by omega
    · simp
    · simp

end Go.Proofs.YtdnkipagpagfiaaDoor.PSol
