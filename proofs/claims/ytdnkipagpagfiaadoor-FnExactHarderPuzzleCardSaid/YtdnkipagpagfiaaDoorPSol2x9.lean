-- Of this session's own program wip/gen/gen.py (it drives the kit's print): contracts of the functions that the law reaches.
import Derived.Test.YtdnkipagpagfiaaDoorPSol2x0
import Derived.Test.YtdnkipagpagfiaaDoorPSol2x7
import Derived.Test.YtdnkipagpagfiaaDoorPSol2x8
namespace Go.Proofs.YtdnkipagpagfiaaDoor.PSol2
open Go.RowKit Go.Proofs.YtdnkipagpagfiaaDoorW.PrintWords Go.Proofs.YtdnkipagpagfiaaDoorW.PrintLast Go.Proofs.YtdnkipagpagfiaaDoorW.PrintMore Go.Proofs.YtdnkipagpagfiaaDoor.Base
attribute [local go_sem] max2_int min2_int max_two min_two max_three min_three max_four min_four   -- for this text's walks alone
set_option linter.unusedVariables false
set_option linter.unusedSimpArgs false

/-! ### spec_pzAll: function 84 (a text of this session's own) -/

mutual
def spec_pzAll.l0 : Nat → List S30 → List S34 → List S34 → Int → Option (List S34)
 | 0, _, _, _, _ => none
 | k + 1, cs, L, xs, i => if i < (L.length : Int) then (if 0 ≤ i then spec_pzAll.l1 k cs L xs i true 0 else none) else some xs
def spec_pzAll.l1 : Nat → List S30 → List S34 → List S34 → Int → Bool → Int → Option (List S34)
 | 0, _, _, _, _, _, _ => none
 | k + 1, cs, L, xs, i, fb, j => if j < (cs.length : Int) then (if 0 ≤ j then (if fb = true then ((spec_pzFits.f k (rd_T30 cs j).f0 (rd_T30 cs j).f1 (rd_T30 cs j).f2 (rd_T34 L i).f0 (rd_T34 L i).f1).bind fun b => spec_pzAll.l1 k cs L xs i b (wrap64 (j + 1))) else spec_pzAll.l1 k cs L xs i false (wrap64 (j + 1))) else none) else (if fb = true then (if xs.length < 4398046511104 then spec_pzAll.l0 k cs L (xs ++ [rd_T34 L i]) (wrap64 (i + 1)) else none) else spec_pzAll.l0 k cs L xs (wrap64 (i + 1)))
end
theorem spec_pzAll.mono_l : ∀ k, (∀ y0 y1 y2 y3, LeO (spec_pzAll.l0 k y0 y1 y2 y3) (spec_pzAll.l0 (k + 1) y0 y1 y2 y3)) ∧ (∀ y0 y1 y2 y3 y4 y5, LeO (spec_pzAll.l1 k y0 y1 y2 y3 y4 y5) (spec_pzAll.l1 (k + 1) y0 y1 y2 y3 y4 y5))
 | 0 => ⟨fun _ _ _ _ r h => by simp [spec_pzAll.l0] at h, fun _ _ _ _ _ _ r h => by simp [spec_pzAll.l1] at h⟩
 | k + 1 => by
  obtain ⟨ih0, ih1⟩ := spec_pzAll.mono_l k
  refine ⟨?_, ?_⟩
  · intro y0 y1 y2 y3
    unfold spec_pzAll.l0
    repeat' first
      | (with_reducible exact ih0 _ _ _ _)
      | (with_reducible exact ih1 _ _ _ _ _ _)
      | (with_reducible exact LeO.refl _)
      | (with_reducible exact LeO.none _)
      | (with_reducible refine LeO.ite ?_ ?_)
  · intro y0 y1 y2 y3 y4 y5
    unfold spec_pzAll.l1
    repeat' first
      | (with_reducible exact ih0 _ _ _ _)
      | (with_reducible exact ih1 _ _ _ _ _ _)
      | (with_reducible exact spec_pzFits.mono _ _ _ _ _ _)
      | (with_reducible exact LeO.refl _)
      | (with_reducible exact LeO.none _)
      | (with_reducible refine LeO.ite ?_ ?_)
      | (with_reducible refine LeO.bind ?_ (fun _ => ?_))
def spec_pzAll.f (k : Nat) (a0 : Int) (l1 : List S30) : Option (List S34) := (spec_pzParties.f k a0).bind fun L => spec_pzAll.l0 k l1 L [] 0
theorem spec_pzAll.mono : ∀ a0 a1 k, LeO (spec_pzAll.f k a0 a1) (spec_pzAll.f (k + 1) a0 a1) := fun a0 a1 k => LeO.bind (spec_pzParties.mono _ _) (fun _ => (spec_pzAll.mono_l k).1 _ _ _ _)
set_option maxHeartbeats 8000000 in
set_option maxRecDepth 100000 in
theorem spec_pzAll.calls (k : Nat) (a0 : Int) (A1 : Option Addr) (c1 : Nat) (l1 : List S30) (r : List S34) (w : World) (hr1 : Kd.C k30 w A1 l1.length l1) (hc1 : l1.length ≤ c1) (h : spec_pzAll.f k a0 l1 = some r) :
    Calls Tryd.prog 84 #[.int .i64 a0, .slice A1 l1.length c1] w fun e w' => ∃ v0_ : Value, e = .returned (v0_) ∧ Kd.N k34 34 w' w.heap.size (fun k_ => (w.heap.size ≤ k_)) v0_ r ∧ Below w.heap.size w w' := by
  have hu := Tryd.underlying34
  have hu2 := Tryd.underlying30
  unfold spec_pzAll.f at h
  replace h := Option.bind_eq_some_iff.mp h
  obtain ⟨L, hL, h⟩ := h
  have HL := Aside0.mk hL
  have HH := Aside0.mk h
  have HR := Aside0.mk hr1
  clear hL h hr1
  go_enter Tryd.func84, Tryd.ntmps84
  go_wp2_with (go_at_call 111; refine (spec_pzParties.calls k a0 L _ HL.out).mono ?_; rintro e w1 ⟨v1, rfl, ho, hb⟩; have HO1 := Aside0.mk ho; have HB1 := Aside0.mk hb; clear ho hb; obtain ⟨AL, cL, rfl⟩ := Kd.N_slice HO1.out)
  go_loopg [5, 14] k (fun kq v5 v14 w' => ∃ (xs : List S34) (i : Int), v14 = .int .i64 i ∧ Aside0 (spec_pzAll.l0 kq l1 L xs i = some r) ∧ Aside0 (kq ≤ k) ∧ Aside0 (Kd.N k34 34 w' w.heap.size (fun k_ => w.heap.size ≤ k_) v5 xs) ∧ Aside0 (Kd.F k34 w' (fun k_ => w.heap.size ≤ k_ ∧ some k_ ≠ v5.ownBlock) AL L.length L) ∧ Aside0 (Below w.heap.size w w'))
  case atStart => exact ⟨[], 0, rfl, HH, ⟨Nat.le_refl _⟩, ⟨Kd.N_nil _ _ _ _ _⟩, ⟨Kd.F_mono (Kd.N_F HO1.out) (fun k_ hk => ⟨hk, by simp [Value.ownBlock]⟩)⟩, HB1⟩
  case round =>
    clear HO1 HB1 HH
    obtain ⟨xs, i, rfl, HA, HK1, HN5, HF5, HB⟩ := hrel
    cases gk with
    | zero => exact absurd HA.out (by simp [spec_pzAll.l0])
    | succ k1 =>
      have H := HA.out
      clear HA
      simp only [spec_pzAll.l0] at H
      by_cases c1_ : i < (L.length : Int)
      · rw [if_pos c1_] at H
        have c1b : decide (i < (L.length : Int)) = true := decide_eq_true c1_
        by_cases c2_ : 0 ≤ i
        · rw [if_pos c2_] at H
          have HI := Aside0.mk H
          clear H
          obtain ⟨ad, ce, eAL, hcl, hFK, hcc, _⟩ := Kd.F_get HF5.out z34 i c2_ c1_
          subst eAL
          obtain ⟨Ap, cp, rfl, hlp, hFp⟩ := k34_openF hFK
          have hx0 : wr.cell? (ad.add (i.toNat * 2)) = some (.int .i64 (rd_T34 L i).f0) := hcc 0 _ rfl
          have hx1 : wr.cell? ⟨(ad.add (i.toNat * 2)).block, (ad.add (i.toNat * 2)).off + 1, none⟩ = some (.slice Ap (rd_T34 L i).f1.length cp) := by
            rw [← add_field _ _ 1 (by omega)]
            exact hcc 1 _ rfl
          have HLP := Aside0.mk (show (rd_T34 L i).f1.length ≤ cp from hlp)
          have HFP := Aside0.mk (show Kd.F k110 wr (fun k_ => w.heap.size ≤ k_ ∧ some k_ ≠ u5.ownBlock) Ap (rd_T34 L i).f1.length (rd_T34 L i).f1 from hFp)
          clear hcc hcl hFK hlp hFp
          go_wp2_with (((with_reducible refine gate_dst (N := 7) rfl ?_); refine box_event ?hg (N := 7) ?hd (cs := #[.int .i64 0, .slice none 0 0]) (t := 34) ?hr ?_; (case hd => rfl); (case hg => rfl); (case hr => first | (go_simp; done) | (go_simp; rfl)); intro gp hg w3 hbox hb; have GP := Aside0.mk hg; have BKp := Aside0.mk hbox; have B3 := Aside0.mk hb; have hz0 : w3.cell? ⟨gp, 0, none⟩ = some (.int .i64 0) := (blk_cell hbox 0).trans rfl; have hz1 : w3.cell? ⟨gp, 1, none⟩ = some (.slice none 0 0) := (blk_cell hbox 1).trans rfl; have hq0 := blk_frozen hbox 0; have hq1 := blk_frozen hbox 1; clear hg hbox hb hx0 hx1))
          have hgp : w.heap.size ≤ gp := by rw [GP.out]; exact HB.out.size
          have HN4 := Aside0.mk (Kd.N_mono (ok' := fun k_ => w.heap.size ≤ k_) (Kd.N_far (p := ⟨gp, 1, none⟩) (Kd.N_far (p := ⟨gp, 0, none⟩) (Kd.N_below (Kd.N_mono (ok' := fun k_ => w.heap.size ≤ k_ ∧ k_ ≠ gp) (Kd.N_bound HN5.out) (fun k_ hk => ⟨hk.1, by have := GP.out; have := hk.2; omega⟩)) B3.out) (fun _ hk => hk.2) (.int .i64 (rd_T34 L i).f0)) (fun _ hk => hk.2) (.slice Ap (rd_T34 L i).f1.length cp)) (fun _ hk => hk.1))
          have HF4 := Aside0.mk (Kd.F_mono (ok' := fun k_ => w.heap.size ≤ k_ ∧ some k_ ≠ u5.ownBlock) (Kd.F_far (p := ⟨gp, 1, none⟩) (Kd.F_far (p := ⟨gp, 0, none⟩) (Kd.F_below (Kd.F_mono (ok' := fun k_ => (w.heap.size ≤ k_ ∧ some k_ ≠ u5.ownBlock) ∧ k_ ≠ gp) (Kd.F_bound HF5.out) (fun k_ hk => ⟨hk.1, by have := GP.out; have := hk.2; omega⟩)) B3.out) (fun _ hk => hk.2) (.int .i64 (rd_T34 L i).f0)) (fun _ hk => hk.2) (.slice Ap (rd_T34 L i).f1.length cp)) (fun _ hk => hk.1))
          have HFP4 := Aside0.mk (Kd.F_mono (ok' := fun k_ => w.heap.size ≤ k_ ∧ some k_ ≠ u5.ownBlock) (Kd.F_far (p := ⟨gp, 1, none⟩) (Kd.F_far (p := ⟨gp, 0, none⟩) (Kd.F_below (Kd.F_mono (ok' := fun k_ => (w.heap.size ≤ k_ ∧ some k_ ≠ u5.ownBlock) ∧ k_ ≠ gp) (Kd.F_bound HFP.out) (fun k_ hk => ⟨hk.1, by have := GP.out; have := hk.2; omega⟩)) B3.out) (fun _ hk => hk.2) (.int .i64 (rd_T34 L i).f0)) (fun _ hk => hk.2) (.slice Ap (rd_T34 L i).f1.length cp)) (fun _ hk => hk.1))
          have BK4 := Aside0.mk (blk_set (blk_set BKp.out 0 (.int .i64 (rd_T34 L i).f0)) 1 (.slice Ap (rd_T34 L i).f1.length cp))
          have HB4 := Aside0.mk (below_set (j := 1) (v := .slice Ap (rd_T34 L i).f1.length cp) (below_set (j := 0) (v := .int .i64 (rd_T34 L i).f0) (below_step HB.out B3.out) hgp) hgp)
          clear HN5 HF5 HFP BKp B3 HB hz0 hz1 hq0 hq1 GP
          generalize (w3.setCell ⟨gp, 0, none⟩ (.int .i64 (rd_T34 L i).f0)).setCell ⟨gp, 1, none⟩ (.slice Ap (rd_T34 L i).f1.length cp) = w4 at HN4 HF4 HFP4 BK4 HB4 ⊢
          go_loopg [8, 20] k1 (fun kq v8 v20 w' => ∃ (fb : Bool) (j : Int), v8 = .bool fb ∧ v20 = .int .i64 j ∧ Aside0 (spec_pzAll.l1 kq l1 L xs i fb j = some r) ∧ Aside0 (kq ≤ k1) ∧ Aside0 (Below w4.heap.size w4 w'))
          case atStart => exact ⟨true, 0, rfl, rfl, HI, ⟨Nat.le_refl _⟩, ⟨Below.refl _ _⟩⟩
          case round =>
            clear HI
            obtain ⟨fb, j, rfl, rfl, HA, HK2, HBi⟩ := hrel
            cases gk with
            | zero => exact absurd HA.out (by simp [spec_pzAll.l1])
            | succ k2 =>
              have H := HA.out
              clear HA
              simp only [spec_pzAll.l1] at H
              have hp0 : wr.cell? ⟨gp, 0, none⟩ = some (.int .i64 (rd_T34 L i).f0) := (blk_cell (blk_below BK4.out HBi.out) 0).trans rfl
              have hp1 : wr.cell? ⟨gp, 1, none⟩ = some (.slice Ap (rd_T34 L i).f1.length cp) := (blk_cell (blk_below BK4.out HBi.out) 1).trans rfl
              have hgl : gp < wr.heap.size := blk_lt (blk_below BK4.out HBi.out)
              have HBw := Aside0.mk (below_step HB4.out HBi.out)
              by_cases d1_ : j < (l1.length : Int)
              · rw [if_pos d1_] at H
                have d1b : decide (j < (l1.length : Int)) = true := decide_eq_true d1_
                by_cases d2_ : 0 ≤ j
                · rw [if_pos d2_] at H
                  obtain ⟨ac, eA1, hc0, hc1_, hc2⟩ := at_T30 (Kd.C_below HR.out HBw.out) j d2_ d1_
                  subst eA1
                  cases fb with
                  | true =>
                    rw [if_pos rfl] at H
                    replace H := Option.bind_eq_some_iff.mp H
                    obtain ⟨b, hb0, H⟩ := H
                    have HFT := Aside0.mk hb0
                    have HN := Aside0.mk H
                    clear hb0 H
                    go_wp2_with (first
                      | ((with_reducible refine gate_dst (N := 10) rfl ?_); refine box_event ?hg (N := 10) ?hd (cs := #[.int .i64 0, .int .i64 0, .int .i64 0]) (t := 30) ?hr ?_; (case hd => rfl); (case hg => rfl); (case hr => first | (go_simp; done) | (go_simp; rfl)); intro gc hg w5 hbox hb; have GC := Aside0.mk hg; have B5 := Aside0.mk hb; have hz0 : w5.cell? ⟨gc, 0, none⟩ = some (.int .i64 0) := (blk_cell hbox 0).trans rfl; have hz1 : w5.cell? ⟨gc, 1, none⟩ = some (.int .i64 0) := (blk_cell hbox 1).trans rfl; have hz2 : w5.cell? ⟨gc, 2, none⟩ = some (.int .i64 0) := (blk_cell hbox 2).trans rfl; have hq0 := blk_frozen hbox 0; have hq1 := blk_frozen hbox 1; have hq2 := blk_frozen hbox 2; have hy0 := pw_cell_below hb hp0; have hy1 := pw_cell_below hb hp1; have hn1 : gp ≠ gc := (by omega); have hn2 : gc ≠ gp := Ne.symm hn1; clear hg hbox hb hc0 hc1_ hc2 hp0 hp1)
                      | (go_at_call 60; refine (spec_pzFits.calls k2 _ _ _ _ Ap cp (rd_T34 L i).f1 b _ ?s1 HLP.out HFT.out).mono ?_; (case s1 => exact Kd.F_now (Kd.F_far (Kd.F_far (Kd.F_far (Kd.F_mono (Kd.F_below (Kd.F_bound (Kd.F_below HFP4.out HBi.out)) B5.out) (fun k_ hk => (show k_ ≠ gc from by have := GC.out; have := hk.2; omega))) (fun _ hk => hk) _) (fun _ hk => hk) _) (fun _ hk => hk) _)); rintro e w6 ⟨rfl, hb⟩; have B6 := Aside0.mk (below_step (below_set (below_set (below_set B5.out (Nat.le_of_eq GC.out.symm)) (Nat.le_of_eq GC.out.symm)) (Nat.le_of_eq GC.out.symm)) hb); clear hb))
                    go_roundg k2
                    case measure => omega
                    case rel => exact ⟨b, wrap64 (j + 1), by first | rfl | (simp; done), by first | rfl | (simp; done), HN, ⟨by have := HK2.out; omega⟩, ⟨below_step HBi.out B6.out⟩⟩
                  | false =>
                    rw [if_neg (by simp)] at H
                    have HN := Aside0.mk H
                    clear H
                    go_wp2_with (((with_reducible refine gate_dst (N := 10) rfl ?_); refine box_event ?hg (N := 10) ?hd (cs := #[.int .i64 0, .int .i64 0, .int .i64 0]) (t := 30) ?hr ?_; (case hd => rfl); (case hg => rfl); (case hr => first | (go_simp; done) | (go_simp; rfl)); intro gc hg w5 hbox hb; have GC := Aside0.mk hg; have B5 := Aside0.mk hb; have hz0 : w5.cell? ⟨gc, 0, none⟩ = some (.int .i64 0) := (blk_cell hbox 0).trans rfl; have hz1 : w5.cell? ⟨gc, 1, none⟩ = some (.int .i64 0) := (blk_cell hbox 1).trans rfl; have hz2 : w5.cell? ⟨gc, 2, none⟩ = some (.int .i64 0) := (blk_cell hbox 2).trans rfl; have hq0 := blk_frozen hbox 0; have hq1 := blk_frozen hbox 1; have hq2 := blk_frozen hbox 2; have hn1 : gp ≠ gc := (by omega); have hn2 : gc ≠ gp := Ne.symm hn1; clear hg hbox hb hc0 hc1_ hc2 hp0 hp1))
                    go_roundg k2
                    case measure => omega
                    case rel => exact ⟨false, wrap64 (j + 1), by first | rfl | (simp; done), by first | rfl | (simp; done), HN, ⟨by have := HK2.out; omega⟩, ⟨below_step HBi.out (below_set (below_set (below_set B5.out (Nat.le_of_eq GC.out.symm)) (Nat.le_of_eq GC.out.symm)) (Nat.le_of_eq GC.out.symm))⟩⟩
                · rw [if_neg d2_] at H; cases H
              · rw [if_neg d1_] at H
                have d1b : decide (j < (l1.length : Int)) = false := decide_eq_false d1_
                cases fb with
                | true =>
                  rw [if_pos rfl] at H
                  by_cases e1_ : xs.length < 4398046511104
                  · rw [if_pos e1_] at H
                    have LX := Aside0.mk e1_
                    have HN := Aside0.mk H
                    clear H e1_
                    go_wp2_with ((with_reducible refine gate_builtin (b := .append) (xs := #[.tmp 32, .tmp 34]) rfl ?_); at_builtin; refine Kd.N_append k34 (w0 := w) w.heap.size rfl (.tmp 32) (.tmp 34) 64 34 (.agg #[(.int .i64 0), (.slice none 0 0)]) 32 rfl Tryd.underlying64 info34 rfl (by decide) (by omega) u5 xs (rd_T34 L i) [.int .i64 (rd_T34 L i).f0, .slice Ap (rd_T34 L i).f1.length cp] (fun k_ => w.heap.size ≤ k_) (fun k_ => w.heap.size ≤ k_ ∧ some k_ ≠ u5.ownBlock) rfl rfl ?aP (fun _ hk => hk) ?aF ?aO ?aB ?aS ?aL ?_; (case aP => exact k34_mkF _ _ (rd_T34 L i) HLP.out (Kd.F_below HFP4.out HBi.out)); (case aF => exact fun k_ hk => Nat.le_trans (below_size HBw.out) hk); (case aO => exact Kd.N_below HN4.out HBi.out); (case aB => exact HBw.out); (case aS => exact below_size HBw.out); (case aL => have := LX.out; omega); intro v6 w6 ho hb hg hat; have HN6 := Aside0.mk ho; have HB6 := Aside0.mk hb; have HF6 := Aside0.mk (Kd.F_after (ok := fun k_ => w.heap.size ≤ k_) (Kd.F_below HF4.out HBi.out) hg hat); clear ho hb hg hat)
                    go_roundg k2
                    case measure => have := HK2.out; omega
                    case rel => exact ⟨xs ++ [rd_T34 L i], wrap64 (i + 1), by first | rfl | (simp; done), HN, ⟨by have := HK1.out; have := HK2.out; omega⟩, HN6, HF6, HB6⟩
                  · rw [if_neg e1_] at H; cases H
                | false =>
                  rw [if_neg (by simp)] at H
                  have HN := Aside0.mk H
                  clear H
                  go_wp2
                  go_roundg k2
                  case measure => have := HK2.out; omega
                  case rel => exact ⟨xs, wrap64 (i + 1), by first | rfl | (simp; done), HN, ⟨by have := HK1.out; have := HK2.out; omega⟩, ⟨Kd.N_below HN4.out HBi.out⟩, ⟨Kd.F_below HF4.out HBi.out⟩, HBw⟩
        · rw [if_neg c2_] at H; cases H
      · rw [if_neg c1_] at H
        have c1b : decide (i < (L.length : Int)) = false := decide_eq_false c1_
        clear c1_
        obtain rfl := Option.some.inj H
        go_wp2
        go_ret
        exact ⟨_, rfl, HN5.out, HB.out⟩

/-! ### spec_pzWithout: function 90 -/
def spec_pzWithout.f (l0 : List (S30)) (a1 : Int) : Option ((List (S30))) := (some (([] : List (S30)) : List (S30))).bind fun y334 => (if 0 ≤ a1 then (if a1 ≤ (l0.length : Int) then ((some (l0.take (a1 : Int).toNat : List (S30))).bind fun y337 => (if y334.length + y337.length < 5864062014805 then ((some (y334 ++ y337 : List (S30))).bind fun y341 => (if 0 ≤ (wrap64 (a1 + 1)) then (if (wrap64 (a1 + 1)) ≤ (l0.length : Int) then ((some (l0.drop ((wrap64 (a1 + 1)) : Int).toNat : List (S30))).bind fun y344 => (if y341.length + y344.length < 5864062014805 then (some (y341 ++ y344)) else (none))) else (none)) else (none))) else (none))) else (none)) else (none))
def spec_pzWithout.T1 : Bool × List (List Nat × List Nat) := (true, [([], []), ([], []), ([], []), ([1, 2], [1, 2]), ([0, 3], [0, 3]), ([], []), ([], []), ([6], [6]), ([5, 7], [5, 7]), ([4, 8, 4], [4, 8]), ([9, 9, 0, 1, 2, 3, 4, 5, 6, 7, 8, 9], [9])])
def spec_pzWithout.B1 : List Nat := [0, 0, 0, 6, 15, 0, 0, 64, 224, 511, 1023]
theorem spec_pzWithout.tab1 : rtab .any (opsOf Tryd.f90 1) = spec_pzWithout.T1 := by kernel_rfl
theorem spec_pzWithout.bits1 : waitsOk spec_pzWithout.T1.2 spec_pzWithout.B1 = true := by kernel_rfl
set_option maxHeartbeats 8000000 in
set_option maxRecDepth 100000 in
theorem spec_pzWithout.calls (A0 : Option Addr) (c0 : Nat) (l0 : List (S30)) (a1 : Int) (r : List (S30)) (w : World) (hr0 : Kd.C k30 w A0 l0.length l0) (hc0 : l0.length ≤ c0) (h : spec_pzWithout.f l0 a1 = some r) :
  Calls Tryd.prog 90 #[.slice A0 l0.length c0, .int .i64 a1] w fun e w' => ∃ v0_ : Value, e = .returned (v0_) ∧ Kd.R k30 30 w' w.heap.size (fun _ => True) v0_ r ∧ Below w.heap.size w w' := by
 have HR0 := Aside0.mk hr0
 have HC0 := Aside0.mk hc0
 clear hr0 hc0
 have HB := Aside0.mk (Below.refl w.heap.size w)
 have H : ((some (([] : List (S30)) : List (S30))).bind fun y334 => (if 0 ≤ a1 then (if a1 ≤ (l0.length : Int) then ((some (l0.take (a1 : Int).toNat : List (S30))).bind fun y337 => (if y334.length + y337.length < 5864062014805 then ((some (y334 ++ y337 : List (S30))).bind fun y341 => (if 0 ≤ (wrap64 (a1 + 1)) then (if (wrap64 (a1 + 1)) ≤ (l0.length : Int) then ((some (l0.drop ((wrap64 (a1 + 1)) : Int).toNat : List (S30))).bind fun y344 => (if y341.length + y344.length < 5864062014805 then (some (y341 ++ y344)) else (none))) else (none)) else (none))) else (none))) else (none)) else (none))) = some r := h
 clear h
 obtain ⟨y334, hy334⟩ : ∃ y_ : List (S30), y_ = (([] : List (S30))) := ⟨_, rfl⟩
 replace H : (if 0 ≤ a1 then (if a1 ≤ (l0.length : Int) then ((some (l0.take (a1 : Int).toNat : List (S30))).bind fun y337 => (if y334.length + y337.length < 5864062014805 then ((some (y334 ++ y337 : List (S30))).bind fun y341 => (if 0 ≤ (wrap64 (a1 + 1)) then (if (wrap64 (a1 + 1)) ≤ (l0.length : Int) then ((some (l0.drop ((wrap64 (a1 + 1)) : Int).toNat : List (S30))).bind fun y344 => (if y341.length + y344.length < 5864062014805 then (some (y341 ++ y344)) else (none))) else (none)) else (none))) else (none))) else (none)) else (none)) = some r := by first | (rw [hy334]; with_reducible exact H) | (have H2_ := (Option.bind_some _ _).symm.trans H; rw [hy334]; with_reducible exact H2_) | (have H2_ := (Option.bind_some _ _).symm.trans H; with_reducible exact H2_) | with_reducible exact H | (rw [hy334]; exact H) | exact H
 have Ny334 := Aside0.mk hy334
 clear hy334
 by_cases c3 : 0 ≤ a1
 ·rw [if_pos c3] at H
  have c3b0 := eq_true c3
  have c3b1 : decide (0 ≤ a1) = true := decide_eq_true c3
  clear c3
  by_cases c4 : a1 ≤ (l0.length : Int)
  ·rw [if_pos c4] at H
   have c4b0 := eq_true c4
   have c4b1 : decide (a1 ≤ (l0.length : Int)) = true := decide_eq_true c4
   clear c4
   obtain ⟨y337, hy337⟩ : ∃ y_ : List (S30), y_ = (l0.take (a1 : Int).toNat) := ⟨_, rfl⟩
   replace H : (if y334.length + y337.length < 5864062014805 then ((some (y334 ++ y337 : List (S30))).bind fun y341 => (if 0 ≤ (wrap64 (a1 + 1)) then (if (wrap64 (a1 + 1)) ≤ (l0.length : Int) then ((some (l0.drop ((wrap64 (a1 + 1)) : Int).toNat : List (S30))).bind fun y344 => (if y341.length + y344.length < 5864062014805 then (some (y341 ++ y344)) else (none))) else (none)) else (none))) else (none)) = some r := by first | (rw [hy337]; with_reducible exact H) | (have H2_ := (Option.bind_some _ _).symm.trans H; rw [hy337]; with_reducible exact H2_) | (have H2_ := (Option.bind_some _ _).symm.trans H; with_reducible exact H2_) | with_reducible exact H | (rw [hy337]; exact H) | exact H
   have Ny337 := Aside0.mk hy337
   clear hy337
   by_cases c5 : y334.length + y337.length < 5864062014805
   ·rw [if_pos c5] at H
    have LMc5 := Aside0.mk c5
    clear c5
    obtain ⟨y341, hy341⟩ : ∃ y_ : List (S30), y_ = (y334 ++ y337) := ⟨_, rfl⟩
    replace H : (if 0 ≤ (wrap64 (a1 + 1)) then (if (wrap64 (a1 + 1)) ≤ (l0.length : Int) then ((some (l0.drop ((wrap64 (a1 + 1)) : Int).toNat : List (S30))).bind fun y344 => (if y341.length + y344.length < 5864062014805 then (some (y341 ++ y344)) else (none))) else (none)) else (none)) = some r := by first | (rw [hy341]; with_reducible exact H) | (have H2_ := (Option.bind_some _ _).symm.trans H; rw [hy341]; with_reducible exact H2_) | (have H2_ := (Option.bind_some _ _).symm.trans H; with_reducible exact H2_) | with_reducible exact H | (rw [hy341]; exact H) | exact H
    have Ny341 := Aside0.mk hy341
    clear hy341
    obtain ⟨ji6, hji6⟩ : ∃ j_ : Int, (wrap64 (a1 + 1)) = j_ := ⟨_, rfl⟩
    replace H : (if 0 ≤ (ji6) then (if (ji6) ≤ (l0.length : Int) then ((some (l0.drop ((ji6) : Int).toNat : List (S30))).bind fun y344 => (if y341.length + y344.length < 5864062014805 then (some (y341 ++ y344)) else (none))) else (none)) else (none)) = some r := by first | (rw [hji6] at H; exact H) | (simp only [hji6] at H ⊢; exact H)
    have hji6w : (IntKind.i64.wrap (a1 + 1)) = ji6 := (i64_w _).trans hji6
    by_cases c7 : 0 ≤ (ji6)
    ·rw [if_pos c7] at H
     have c7b0 := eq_true c7
     have c7b1 : decide (0 ≤ (ji6)) = true := decide_eq_true c7
     clear c7
     by_cases c8 : (ji6) ≤ (l0.length : Int)
     ·rw [if_pos c8] at H
      have c8b0 := eq_true c8
      have c8b1 : decide ((ji6) ≤ (l0.length : Int)) = true := decide_eq_true c8
      clear c8
      obtain ⟨y344, hy344⟩ : ∃ y_ : List (S30), y_ = (l0.drop ((ji6) : Int).toNat) := ⟨_, rfl⟩
      replace H : (if y341.length + y344.length < 5864062014805 then (some (y341 ++ y344)) else (none)) = some r := by first | (rw [hy344]; with_reducible exact H) | (have H2_ := (Option.bind_some _ _).symm.trans H; rw [hy344]; with_reducible exact H2_) | (have H2_ := (Option.bind_some _ _).symm.trans H; with_reducible exact H2_) | with_reducible exact H | (rw [hy344]; exact H) | exact H
      have Ny344 := Aside0.mk hy344
      clear hy344
      by_cases c9 : y341.length + y344.length < 5864062014805
      ·rw [if_pos c9] at H
       have LMc9 := Aside0.mk c9
       clear c9
       obtain ⟨y348, hy348⟩ : ∃ y_ : List (S30), y_ = (y341 ++ y344) := ⟨_, rfl⟩
       replace H : (some y348) = some r := by first | (rw [hy348]; with_reducible exact H) | (have H2_ := (Option.bind_some _ _).symm.trans H; rw [hy348]; with_reducible exact H2_) | (have H2_ := (Option.bind_some _ _).symm.trans H; with_reducible exact H2_) | with_reducible exact H | (rw [hy348]; exact H) | exact H
       have Ny348 := Aside0.mk hy348
       clear hy348
       obtain rfl := Option.some.inj H
       go_enter Tryd.func90, Tryd.ntmps90
       try go_wp2
       replace HB := Aside0.mk (below_drew1 HB.out)
       have q11 : (a1 : Int) ≤ ((l0.length : Int) : Int) := of_decide_eq_true (by first | (with_reducible assumption) | assumption)
       obtain ⟨i011, hi011, _, hsz11, _⟩ := info_parts info30
       have hroom11 : l0.length ≤ c0 := HC0.out
       have hC11 : Kd.C k30 _ A0 l0.length l0 := HR0.out
       have hcut11 := cut_to (P := Tryd.prog) 38 30 .i64 Tryd.underlying38 hi011 A0 l0.length c0 a1 (of_decide_eq_true (by first | (with_reducible assumption) | assumption)) q11 hroom11
       have hr11 := Kd.C_take (m := (a1 : Int).toNat) hC11 (by omega)
       have hy11 : y337.length = (a1 : Int).toNat := (by rw [Ny337.out, List.length_take]; omega)
       rw [← Ny337.out] at hr11
       rw [← hy11] at hcut11
       have HR340 := Aside0.mk hr11
       have HC340 := Aside0.mk (show y337.length ≤ c0 from by omega)
       clear hr11 hC11 hroom11 hi011 hsz11
       have KY11 := Aside0.mk hy11
       clear hy11
       replace q11 := eq_true q11
       have q12 : ((ji6) : Int) ≤ ((l0.length : Int) : Int) := of_decide_eq_true (by first | (with_reducible assumption) | assumption)
       obtain ⟨i012, hi012, _, hsz12, _⟩ := info_parts info30
       have hroom12 : l0.length ≤ c0 := HC0.out
       have hC12 : Kd.C k30 _ A0 l0.length l0 := HR0.out
       have q012 : (0 : Int) ≤ ((ji6) : Int) := of_decide_eq_true (by first | (with_reducible assumption) | assumption)
       have hcut12 := cut_from (P := Tryd.prog) 38 30 .i64 Tryd.underlying38 hi012 3 hsz12 A0 l0.length c0 (ji6) q012 q12
       have hr12 := Kd.C_drop (m := ((ji6) : Int).toNat) (c := c0) hC12 (by omega) hroom12
       obtain ⟨A12, hA12⟩ : ∃ A1, A1 = (if c0 = ((ji6) : Int).toNat then A0 else (A0 : Option Addr).map (·.add (((ji6) : Int).toNat * 3))) := ⟨_, rfl⟩
       obtain ⟨c12, hc12⟩ : ∃ c1, c1 = c0 - ((ji6) : Int).toNat := ⟨_, rfl⟩
       have hy12 : y344.length = l0.length - ((ji6) : Int).toNat := (by rw [Ny344.out, List.length_drop] <;> omega)
       rw [show (l0).drop ((ji6) : Int).toNat = y344 from Ny344.out.symm] at hr12
       replace hr12 : Kd.C k30 _ A12 y344.length y344 := (by rw [hA12]; exact hr12)
       rw [← hy12, ← hA12, ← hc12] at hcut12
       have HR347 := Aside0.mk hr12
       have HC347 := Aside0.mk (show y344.length ≤ c12 from by rw [hy12, hc12]; exact Nat.sub_le_sub_right hroom12 _)
       clear hr12 hC12 hroom12 hi012 hsz12 hc12
       have KY12 := Aside0.mk hy12
       have KA12 := Aside0.mk hA12
       clear hy12 hA12
       replace q12 := eq_true q12
       refine start_ (n := 11) (S := fun w' => True) (ds := []) (bz 11 0) (by kernel_rfl) rfl rfl trivial (fun hHeld => ?_); refine with_tabW spec_pzWithout.tab1 spec_pzWithout.bits1 (fun HT_ HW_ => ?_)
       generalize w.drew = w10 at HB HR340 HR347 hHeld ⊢
       refine run_ [(0, 1, 2, some 6), (0, 2, 6, some 7), (0, 3, 14, some 8), (0, 5, 46, some 10), (0, 6, 110, some 11), (0, 7, 238, some 12), (0, 8, 494, some 13)] ?_
       repeat ((apply tag0; refine run_p (v := ?_) (a' := ?_) rfl rfl (any_of HT_.out (by kernel_rfl)) (fun _ _ _ h => h) (by rfl) ?_ ?_ ?_; rotate_left 2; (intro w'; go_simp; with_reducible rfl); (first | (simp only [Act.put, List.setIfInBounds_toArray, List.set_cons_zero, List.set_cons_succ, i64_w, i32_w]; rfl) | rfl)))
       refine run_nil ?_
       refine one_ (i := 0) (N := some 5) (bz 11 495) rfl rfl (one_of HT_.out (by kernel_rfl)) (by decide) (fun K hK => ?_)
       refine Kd.R_lit_step k30 _ 30 ?hg (N := 5) ?hd (xs := ([] : List (S30))) (inner := []) (ok := fun _ => True) (okp := fun _ => True) ?hr ?hp (fun _ hk => hk) trivial (Below.refl _ _) (Nat.le_refl _) (by simp) ?_; (case hd => rfl); (case hg => rfl); (case hr => first | (go_simp; done) | (go_simp; rfl)); (case hp => exact (Reps.none _ _))
       intro v335 w13 ho14 hb hg_ hnew_
       clear hg_ hnew_
       (first | rw [← Ny334.out] at ho14 | (simp only [Int.reduceToNat] at ho14; rw [← Ny334.out] at ho14))
       have HO336 := Aside0.mk (Kd.R_lower ho14 (below_size hB))
       replace HB := hS HB hb
       clear hb ho14
       refine hK.out _ _ trivial (fun hHeld => ?_)
       clear hK K
       refine norm_ (a' := ?_) ?_ ?_
       rotate_left
       ·show Act.put _ (some 5) _ = _
        simp only [Act.put, List.setIfInBounds_toArray, List.set_cons_zero, List.set_cons_succ, i64_w, i32_w]
        rfl
       refine one_ (i := 4) (N := some 9) (bz 11 511) rfl rfl (one_of HT_.out (by kernel_rfl)) (by decide) (fun K hK => ?_)
       refine Kd.R_append_rows_step k30 (w0 := w) w.heap.size (by rfl) (.tmp 5) (.tmp 8) 38 30 (.agg #[(.int .i64 0), (.int .i64 0), (.int .i64 0)]) 24 rfl Tryd.underlying38 info30 rfl (by decide) (by omega) v335 y334 y337 _ _ _ (fun _ => True) (fun _ => False) rfl rfl ?aO ?aR (fun _ _ h => h) (fun _ h => h.elim) ?aF ?aB ?aS ?aL ?_
       (case aR => repeat (first | exact (Kd.C_below HR340.out HB.out) | (with_reducible refine Kd.C_alloc ?_ _) | (with_reducible refine Kd.C_drewN ?_ _) | (with_reducible refine Kd.C_drew ?_)))
       (case aB => exact hB)
       (case aF => exact (fun _ _ => trivial))
       (case aO => exact (rU HO336))
       (case aS => exact (below_size hB))
       (case aL => have := LMc5.out; omega)
       intro v342 w15 ho hb hg hat
       rw [← Ny341.out] at ho
       have HO343 := Aside0.mk (ho)
       replace HB := Aside0.mk (hb)
       clear HO336
       clear ho hb hg hat
       refine hK.out _ _ trivial (fun hHeld => ?_)
       clear hK K
       refine norm_ (a' := ?_) ?_ ?_
       rotate_left
       ·show Act.put _ (some 9) _ = _
        simp only [Act.put, List.setIfInBounds_toArray, List.set_cons_zero, List.set_cons_succ, i64_w, i32_w]
        rfl
       refine one_ (i := 9) (N := some 14) (bz 11 1023) rfl rfl (one_of HT_.out (by kernel_rfl)) (by decide) (fun K hK => ?_)
       refine Kd.R_append_rows_step k30 (w0 := w) w.heap.size (by rfl) (.tmp 9) (.tmp 13) 38 30 (.agg #[(.int .i64 0), (.int .i64 0), (.int .i64 0)]) 24 rfl Tryd.underlying38 info30 rfl (by decide) (by omega) v342 y341 y344 _ _ _ (fun _ => True) (fun _ => False) rfl rfl ?aO ?aR (fun _ _ h => h) (fun _ h => h.elim) ?aF ?aB ?aS ?aL ?_
       (case aR => repeat (first | exact (Kd.C_below HR347.out HB.out) | (with_reducible refine Kd.C_alloc ?_ _) | (with_reducible refine Kd.C_drewN ?_ _) | (with_reducible refine Kd.C_drew ?_)))
       (case aB => exact hB)
       (case aF => exact (fun _ _ => trivial))
       (case aO => exact (rU HO343))
       (case aS => exact (below_size hB))
       (case aL => have := LMc9.out; omega)
       intro v349 w16 ho hb hg hat
       rw [← Ny348.out] at ho
       have HO350 := Aside0.mk (ho)
       replace HB := Aside0.mk (hb)
       clear HO343
       clear ho hb hg hat
       refine hK.out _ _ trivial (fun hHeld => ?_)
       clear hK K
       refine norm_ (a' := ?_) ?_ ?_
       rotate_left
       ·show Act.put _ (some 14) _ = _
        simp only [Act.put, List.setIfInBounds_toArray, List.set_cons_zero, List.set_cons_succ, i64_w, i32_w]
        rfl
       refine run_ [(0, 10, 2047, some 4)] ?_
       repeat ((apply tag0; refine run_p (v := ?_) (a' := ?_) rfl rfl (any_of HT_.out (by kernel_rfl)) (fun _ _ _ h => h) (by rfl) ?_ ?_ ?_; rotate_left 2; (intro w'; go_simp; with_reducible rfl); (first | (simp only [Act.put, List.setIfInBounds_toArray, List.set_cons_zero, List.set_cons_succ, i64_w, i32_w]; rfl) | rfl)))
       refine run_nil ?_
       refine done_ (done_of HT_.out (by kernel_rfl)) ?_
       try go_wp2
       go_ret
       exact ⟨_, by first | rfl | (simp [errW_none, errW_some] <;> rfl) | (simp only [← hji6]; first | rfl | (simp [errW_none, errW_some] <;> rfl)) | (simp [*, errW_none, errW_some] <;> rfl), rU HO350, hB⟩
      ·rw [if_neg c9] at H
       exact absurd H (by simp)
     ·rw [if_neg c8] at H
      exact absurd H (by simp)
    ·rw [if_neg c7] at H
     exact absurd H (by simp)
   ·rw [if_neg c5] at H
    exact absurd H (by simp)
  ·rw [if_neg c4] at H
   exact absurd H (by simp)
 ·rw [if_neg c3] at H
  exact absurd H (by simp)

/-! ### impl_within: function 74 -/
def impl_within.f (a0 : Int) (a1 : Int) (a2 : Int) : Option (Bool) := if a1 ≤ a0 then (some (decide (a0 ≤ a2))) else (some false)
set_option maxHeartbeats 8000000 in
set_option maxRecDepth 100000 in
theorem impl_within.calls (a0 : Int) (a1 : Int) (a2 : Int) (r : Bool) (w : World) (h : impl_within.f a0 a1 a2 = some r) :
  Calls Tryd.prog 74 #[.int .i64 a0, .int .i64 a1, .int .i64 a2] w fun e w' => e = .returned (.bool r) ∧ Drawn0 w w' := by
 have H : (if a1 ≤ a0 then (some (decide (a0 ≤ a2))) else (some false)) = some r := h
 clear h
 by_cases c4 : a1 ≤ a0
 ·rw [if_pos c4] at H
  have c4b0 : decide (a1 ≤ a0) = true := decide_eq_true c4
  clear c4
  obtain rfl := Option.some.inj H
  go_enter Tryd.func74, Tryd.ntmps74
  go_wp2
  go_ret
  exact ⟨by first | rfl | (simp; done) | (simp [*]; done), by repeat (first | exact Drawn0.refl _ | apply Drawn0.step)⟩
 ·rw [if_neg c4] at H
  have c4b0 : decide (a1 ≤ a0) = false := decide_eq_false c4
  clear c4
  obtain rfl := Option.some.inj H
  go_enter Tryd.func74, Tryd.ntmps74
  go_wp2
  go_ret
  exact ⟨by first | rfl | (simp; done) | (simp [*]; done), by repeat (first | exact Drawn0.refl _ | apply Drawn0.step)⟩
theorem impl_within.ok (n lo hi : Int) : impl_within.f n lo hi = some (decide (lo ≤ n ∧ n ≤ hi)) := by
  unfold impl_within.f
  by_cases h : lo ≤ n <;> simp [h]

/-! ### impl_areGuests: function 100 -/
def impl_areGuests.f (a0 : Int) : Option (Bool) := (impl_within.f a0 1 5).bind fun t365 => (some t365)
set_option maxHeartbeats 8000000 in
set_option maxRecDepth 100000 in
theorem impl_areGuests.calls (a0 : Int) (r : Bool) (w : World) (h : impl_areGuests.f a0 = some r) :
  Calls Tryd.prog 100 #[.int .i64 a0] w fun e w' => e = .returned (.bool r) ∧ Drawn0 w w' := by
 have H : ((impl_within.f a0 1 5).bind fun t365 => (some t365)) = some r := h
 clear h
 replace H := Option.bind_eq_some_iff.mp H
 obtain ⟨t365, A20, H⟩ := H
 replace H : (some t365) = some r := H
 have A2 := Aside0.mk A20
 clear A20
 obtain rfl := Option.some.inj H
 go_enter Tryd.func100, Tryd.ntmps100
 go_wp2_with (first | ((with_reducible refine gate_callee (f := 74) rfl ?_); refine goC (N := some 4) Tryd.func74 #[.int .i64 a0, .int .i64 1, .int .i64 5] rfl ?_; (with_reducible refine (impl_within.calls a0 1 5 t365 _ A2.out).mono ?_); rintro e w' ⟨rfl, ⟨nd, rfl⟩⟩; refine ⟨_, rfl, ?_⟩))
 go_ret
 exact ⟨by first | rfl | (simp; done) | (simp [*]; done), by repeat (first | exact Drawn0.refl _ | apply Drawn0.step)⟩

/-! ### impl_Clue_131: function 131 (a text of this session's own) -/

theorem impl_Clue_131.calls (A0 : Option Addr) (c0 : Nat) (l0 : List S30) (p : S30 → Bool) (g : Nat) (lb : Array Value) (w : World) (eg : ∀ args w, (callFunc g args).run Tryd.prog w = .ok (.enter g args) w)
    (hr0 : Kd.C k30 w A0 l0.length l0)
    (hp : ∀ (W : World) (x : S30), x ∈ l0 → Below w.heap.size w W → Calls Tryd.prog g (#[.agg #[.int .i64 x.f0, .int .i64 x.f1, .int .i64 x.f2]] ++ lb) W fun e w' => e = .returned (.bool (p x)) ∧ Below w.heap.size w w') :
    Calls Tryd.prog 131 #[.slice A0 l0.length c0, .func (.func g) #[] lb] w fun e w' => (∃ n, e = .returned (.int .i64 n) ∧ decide (0 ≤ n) = l0.any p) ∧ Below w.heap.size w w' := by
  have hu := Tryd.underlying30
  have HR0 := Aside0.mk hr0
  have hlen : l0.length ≤ 9223372036854775807 := hr0.2.1
  clear hr0
  go_enter Tryd.func131, Tryd.ntmps131
  go_wp2
  go_loopg [8] l0.length (fun gg s8 wr => ∃ kk : Nat, kk ≤ l0.length ∧ l0.length - kk ≤ gg ∧ s8 = .int .i64 kk ∧ Aside0 (Below w.heap.size w wr) ∧ Aside0 ((l0.take kk).any p = false))
  case atStart => exact ⟨0, Nat.zero_le _, by omega, rfl, ⟨Below.refl _ w⟩, ⟨by simp⟩⟩
  case round =>
    obtain ⟨kk, hkk, hg, rfl, BW, AN⟩ := hrel
    by_cases hlt : kk < l0.length
    · have hltz : (kk : Int) < (l0.length : Int) := by omega
      obtain ⟨ad, e, hx0, hx1, hx2⟩ := at_T30 HR0.out (kk : Int) (by omega) hltz
      cases e
      simp only [Int.toNat_natCast] at hx0 hx1 hx2
      replace hx0 := (BW.out.cell (World.block_lt_of_cell? w _ hx0)).trans hx0
      replace hx1 := (BW.out.cell (World.block_lt_of_cell? w _ hx1)).trans hx1
      replace hx2 := (BW.out.cell (World.block_lt_of_cell? w _ hx2)).trans hx2
      have hgetx : rd_T30 l0 kk = l0[kk] := by simp [rd_T30, List.getD, hlt]
      have hcall := hp wr (rd_T30 l0 kk) (by rw [hgetx]; exact List.getElem_mem hlt) BW.out
      clear hp
      have hget : (l0.take (kk + 1)).any p = p (rd_T30 l0 kk) := by
        rw [hgetx, List.take_succ_eq_append_getElem hlt, List.any_append, AN.out]; simp
      have hany : (l0.take (kk + 1)).any p = true → l0.any p = true := fun h => by
        rw [List.any_eq_true] at h ⊢
        obtain ⟨x, hx, hpx⟩ := h
        exact ⟨x, List.mem_of_mem_take hx, hpx⟩
      have HG := Aside0.mk hget
      have HA := Aside0.mk hany
      clear hget hany hgetx AN
      cases hq : p (rd_T30 l0 kk) with
      | true =>
        rw [hq] at hcall HG
        go_wp2_with (go_at_fn g; refine hcall.mono ?_; rintro e w' ⟨rfl, hb'⟩)
        go_ret
        exact ⟨⟨_, rfl, by rw [HA.out HG.out]; simp⟩, hb'⟩
      | false =>
        rw [hq] at hcall HG
        go_wp2_with (go_at_fn g; refine hcall.mono ?_; rintro e w' ⟨rfl, hb'⟩)
        go_roundg (l0.length - (kk + 1))
        case measure => omega
        case rel => exact ⟨kk + 1, by omega, by omega, by go_num, ⟨hb'⟩, HG⟩
    · have hltz : ¬ (kk : Int) < (l0.length : Int) := by omega
      go_wp2
      go_ret
      have := AN.out
      rw [List.take_of_length_le (by omega)] at this
      exact ⟨⟨_, rfl, by rw [this]; decide⟩, BW.out⟩

/-! ### impl_Clue_112: function 112 (a text of this session's own) -/
theorem impl_Clue_112.calls (A0 : Option Addr) (c0 : Nat) (l0 : List S30) (p : S30 → Bool) (g : Nat) (lb : Array Value) (w : World) (eg : ∀ args w, (callFunc g args).run Tryd.prog w = .ok (.enter g args) w)
    (hr0 : Kd.C k30 w A0 l0.length l0)
    (hp : ∀ (W : World) (x : S30), x ∈ l0 → Below w.heap.size w W → Calls Tryd.prog g (#[.agg #[.int .i64 x.f0, .int .i64 x.f1, .int .i64 x.f2]] ++ lb) W fun e w' => e = .returned (.bool (p x)) ∧ Below w.heap.size w w') :
    Calls Tryd.prog 112 #[.slice A0 l0.length c0, .func (.func g) #[] lb] w fun e w' => e = .returned (.bool (l0.any p)) ∧ Below w.heap.size w w' := by
  have HC := Aside0.mk (impl_Clue_131.calls A0 c0 l0 p g lb w eg hr0 hp)
  clear hr0 hp eg
  go_enter Tryd.func112, Tryd.ntmps112
  go_wp2_with (go_at_call 131; refine HC.out.mono ?_; rintro e w' ⟨⟨n, rfl, hn⟩, hb⟩; have HN := Aside0.mk hn; have HB := Aside0.mk hb; clear hn hb HC)
  go_ret
  exact ⟨by rw [← HN.out]; rfl, HB.out⟩

/-! ### impl_choose: function 101 -/
def impl_choose.l0 : Nat → Int → Int → Int → Int → Option (Int)
 | 0, _, _, _, _ => none
 | k + 1, x0, x5, x11, x12 => if x12 < x11 then (if (wrap64 (x12 + 1)) = 0 then (none) else (impl_choose.l0 k x0 (wrap64 (Int.tdiv (wrap64 (x5 * (wrap64 (x0 - x12)))) (wrap64 (x12 + 1)))) x11 (wrap64 (x12 + 1)))) else (some x5)
def impl_choose.f (k : Nat) (a0 : Int) (a1 : Int) : Option (Int) := (impl_within.f a1 0 a0).bind fun t366 => (if t366 = true then (impl_choose.l0 k a0 1 a1 0) else (some 0))
theorem impl_choose.mono_l : ∀ k, (∀ y0 y1 y2 y3, LeO (impl_choose.l0 k y0 y1 y2 y3) (impl_choose.l0 (k + 1) y0 y1 y2 y3))
 | 0 => fun _ _ _ _ r h => by simp [impl_choose.l0] at h
 | k + 1 => by
  have ih0 := impl_choose.mono_l k
  ·intro y0 y1 y2 y3
   unfold impl_choose.l0
   repeat' first
   | (with_reducible exact ih0 _ _ _ _)
   | (with_reducible exact LeO.refl _)
   | (with_reducible exact LeO.none _)
   | (with_reducible refine LeO.ite ?_ ?_)
   | (with_reducible refine LeO.bind ?_ (fun _ => ?_))
   | exact ih0 _ _ _ _
   | exact LeO.none _
   | refine LeO.ite ?_ ?_
   | refine LeO.bind ?_ (fun _ => ?_)
theorem impl_choose.mono : ∀ a0 a1 k, LeO (impl_choose.f k a0 a1) (impl_choose.f (k + 1) a0 a1) := by
 intro a0 a1 k
 have ih0 := impl_choose.mono_l k
 unfold impl_choose.f
 repeat' first
   | (with_reducible exact ih0 _ _ _ _)
   | (with_reducible exact LeO.refl _)
   | (with_reducible exact LeO.none _)
   | (with_reducible refine LeO.ite ?_ ?_)
   | (with_reducible refine LeO.bind ?_ (fun _ => ?_))
   | exact ih0 _ _ _ _
   | exact LeO.none _
   | refine LeO.ite ?_ ?_
   | refine LeO.bind ?_ (fun _ => ?_)
set_option maxHeartbeats 8000000 in
set_option maxRecDepth 100000 in
theorem impl_choose.calls (k : Nat) (a0 : Int) (a1 : Int) (r : Int) (w : World) (h : impl_choose.f k a0 a1 = some r) :
  Calls Tryd.prog 101 #[.int .i64 a0, .int .i64 a1] w fun e w' => e = .returned (.int .i64 r) ∧ Drawn0 w w' := by
 have H : ((impl_within.f a1 0 a0).bind fun t366 => (if t366 = true then (impl_choose.l0 k a0 1 a1 0) else (some 0))) = some r := h
 clear h
 replace H := Option.bind_eq_some_iff.mp H
 obtain ⟨t366, A30, H⟩ := H
 try dsimp only at H
 have A3 := Aside0.mk A30
 clear A30
 by_cases c4 : t366 = true
 ·subst c4
  have H1 : (impl_choose.l0 k a0 1 a1 0) = some r := by rw [if_pos rfl] at H; exact H
  clear H
  have H := H1
  clear H1
  have H' := Aside0.mk H
  clear H
  go_enter Tryd.func101, Tryd.ntmps101
  go_wp2_with (first | ((with_reducible refine gate_callee (f := 74) rfl ?_); refine goC (N := some 9) Tryd.func74 #[.int .i64 a1, .int .i64 0, .int .i64 a0] rfl ?_; (with_reducible refine (impl_within.calls a1 0 a0 true _ A3.out).mono ?_); rintro e w' ⟨rfl, ⟨nd, rfl⟩⟩; refine ⟨_, rfl, ?_⟩))
  go_loopg [5, 12] k (fun kq v5 v12 w' => ∃ (x5_1 : Int) (x12_1 : Int), v5 = .int .i64 x5_1 ∧ v12 = .int .i64 x12_1 ∧ Aside0 (impl_choose.l0 kq a0 x5_1 a1 x12_1 = some r) ∧ Aside0 (kq ≤ k) ∧ Drawn0 w w')
  case atStart => exact ⟨(1), (0), (by first | rfl | (simp; done) | (simp [*]; done)), (by first | rfl | (simp; done) | (simp [*]; done)), H', ⟨Nat.le_refl _⟩, by repeat (first | exact Drawn0.refl _ | apply Drawn0.step)⟩
  case round =>
   clear H'
   try clear c1
   try clear p2
   try clear c4
   obtain ⟨x5_1, x12_1, rfl, rfl, HA, HK1, ⟨m1, rfl⟩⟩ := hrel
   cases gk with
   | zero => exact absurd HA.out (by simp [impl_choose.l0])
   | succ k1 =>
    have H := HA.out
    clear HA
    simp only [impl_choose.l0] at H
    by_cases c5 : x12_1 < a1
    ·rw [if_pos c5] at H
     have c5b0 : decide (x12_1 < a1) = true := decide_eq_true c5
     clear c5
     by_cases c6 : (wrap64 (x12_1 + 1)) = 0
     ·rw [if_pos c6] at H
      exact absurd H (by simp)
     ·rw [if_neg c6] at H
      have c6b0 : ((wrap64 (x12_1 + 1)) == 0) = false := beq_eq_false_iff_ne.mpr c6
      have c6b1 : ((wrap64 (x12_1 + 1)) != 0) = true := bne_iff_ne.mpr c6
      have H' := Aside0.mk H
      clear H
      go_wp2
      go_roundg k1
      case measure => have := HK1.out; omega
      case rel => exact ⟨(wrap64 (Int.tdiv (wrap64 (x5_1 * (wrap64 (a0 - x12_1)))) (wrap64 (x12_1 + 1)))), (wrap64 (x12_1 + 1)), (by first | rfl | (simp; done) | (simp [*]; done)), (by first | rfl | (simp; done) | (simp [*]; done)), H', ⟨by have := HK1.out; omega⟩, by repeat (first | exact Drawn0.refl _ | apply Drawn0.step)⟩
    ·rw [if_neg c5] at H
     have c5b0 : decide (x12_1 < a1) = false := decide_eq_false c5
     clear c5
     obtain rfl := Option.some.inj H
     go_wp2
     go_ret
     exact ⟨by first | rfl | (simp; done) | (simp [*]; done), by repeat (first | exact Drawn0.refl _ | apply Drawn0.step)⟩
 ·replace c4 := Bool.eq_false_iff.mpr c4
  subst c4
  have H1 : (some 0) = some r := by rw [if_neg (show ¬ (false = true) by decide)] at H; exact H
  clear H
  have H := H1
  clear H1
  obtain rfl := Option.some.inj H
  go_enter Tryd.func101, Tryd.ntmps101
  go_wp2_with (first | ((with_reducible refine gate_callee (f := 74) rfl ?_); refine goC (N := some 9) Tryd.func74 #[.int .i64 a1, .int .i64 0, .int .i64 a0] rfl ?_; (with_reducible refine (impl_within.calls a1 0 a0 false _ A3.out).mono ?_); rintro e w' ⟨rfl, ⟨nd, rfl⟩⟩; refine ⟨_, rfl, ?_⟩))
  go_ret
  exact ⟨by first | rfl | (simp; done) | (simp [*]; done), by repeat (first | exact Drawn0.refl _ | apply Drawn0.step)⟩
theorem impl_choose.two (k : Nat) (n : Int) (h0 : 0 ≤ n) (h1 : n ≤ 12) : impl_choose.f (k + 3) n 2 = some (n * (n - 1) / 2) := by
  unfold impl_choose.f
  simp only [impl_within.ok, Option.bind_some]
  by_cases h : 2 ≤ n
  · have e1 : wrap64 1 = 1 := wrap_id (by omega) (by omega)
    have e2 : wrap64 2 = 2 := wrap_id (by omega) (by omega)
    have e3 : wrap64 (n - 0) = n := by rw [Int.sub_zero]; exact wrap_id (by omega) (by omega)
    have e4 : wrap64 (n - 1) = n - 1 := wrap_id (by omega) (by omega)
    have e5 : wrap64 (1 * n) = n := by rw [Int.one_mul]; exact wrap_id (by omega) (by omega)
    have hm : 0 ≤ n * (n - 1) ∧ n * (n - 1) ≤ 132 := by
      refine ⟨Int.mul_nonneg h0 (by omega), ?_⟩
      have := Int.mul_le_mul h1 (show n - 1 ≤ 11 by omega) (by omega) (by omega : (0:Int) ≤ 12)
      omega
    have e6 : wrap64 (n * (n - 1)) = n * (n - 1) := wrap_id (by omega) (by omega)
    have e7 : Int.tdiv (n * (n - 1)) 2 = n * (n - 1) / 2 := Int.tdiv_eq_ediv_of_nonneg hm.1
    have e8 : wrap64 (n * (n - 1) / 2) = n * (n - 1) / 2 := wrap_id (by omega) (by omega)
    have e9 : wrap64 n = n := wrap_id (by omega) (by omega)
    simp [impl_choose.l0, h, e1, e2, e3, e4, e5, e6, e7, e8, e9]
  · obtain rfl | rfl : n = 0 ∨ n = 1 := by omega
    · simp
    · simp

end Go.Proofs.YtdnkipagpagfiaaDoor.PSol2
