-- Of this session's own program wip/gen/gen.py (it drives the kit's print): contracts of the functions that the law reaches.
import Derived.Test.YtjpfbkkikcpmhaaDoorPFnExactFirstPairingx0
import Derived.Test.YtjpfbkkikcpmhaaDoorPFnExactFirstPairingx1
import Derived.Test.YtjpfbkkikcpmhaaDoorPFnExactFirstPairingx4
import Derived.Test.YtjpfbkkikcpmhaaDoorPFnExactFirstPairingx5
namespace Go.Proofs.YtjpfbkkikcpmhaaDoor.PFnExactFirstPairing
open Go.RowKit Go.Proofs.YtjpfbkkikcpmhaaDoorW.PrintWords Go.Proofs.YtjpfbkkikcpmhaaDoorW.PrintLast Go.Proofs.YtjpfbkkikcpmhaaDoorW.PrintMore Go.Proofs.YtjpfbkkikcpmhaaDoor.Base
attribute [local go_sem] max2_int min2_int max_two min_two max_three min_three max_four min_four   -- for this text's walks alone
set_option linter.unusedVariables false
set_option linter.unusedSimpArgs false

/-! ### impl_mostInPairs: function 87 (a text of this session's own) -/

def impl_mostInPairs.T6 : Bool × List (List Nat × List Nat) := (true, [([], []), ([0], [0]), ([1], [1]), ([], []), ([3], [3]), ([4], [4]), ([2, 5], [2, 5]), ([6, 0, 1, 2, 3, 4, 5, 6], [6])])
def impl_mostInPairs.B6 : List Nat := [0, 1, 3, 0, 8, 24, 63, 127]
theorem impl_mostInPairs.tab6 : rtab .any (opsOf Tryd.f87 6) = impl_mostInPairs.T6 := by kernel_rfl
theorem impl_mostInPairs.bits6 : waitsOk impl_mostInPairs.T6.2 impl_mostInPairs.B6 = true := by kernel_rfl
def impl_mostInPairs.T7 : Bool × List (List Nat × List Nat) := (true, [([], []), ([], []), ([0, 1], [0, 1]), ([], []), ([2, 3], [2, 3]), ([4], [4]), ([5], [5]), ([5], [5]), ([5], [5]), ([7, 8, 5], [5, 7, 8]), ([6, 9, 5, 5], [5, 6, 9]), ([10, 5], [5, 10]), ([5], [5]), ([5], [5]), ([12, 13, 10, 5], [5, 12, 13]), ([11, 14, 5], [5, 11, 14]), ([5, 15], [5, 15])])
def impl_mostInPairs.B7 : List Nat := [0, 0, 3, 0, 15, 31, 63, 63, 63, 447, 1023, 2047, 63, 63, 14335, 32767, 65535]
theorem impl_mostInPairs.tab7 : rtab .any (opsOf Tryd.f87 7) = impl_mostInPairs.T7 := by kernel_rfl
theorem impl_mostInPairs.bits7 : waitsOk impl_mostInPairs.T7.2 impl_mostInPairs.B7 = true := by kernel_rfl
/-- The round over the pairs: s who is left, out what was taken. -/
def impl_mostInPairs.l0 : Nat → List Int → List S105 → Int → List S105 → Int → Option (List S105)
 | 0, _, _, _, _, _ => none
 | k + 1, t, l, i, out, s => if i < (l.length : Int) then (if 0 ≤ i then (if 0 ≤ (rd_T105 l i).f0 then (if 0 ≤ (rd_T105 l i).f1 then (if Go.bits .and .u16 s (Go.bits .or .u16 (shl .u16 1 (rd_T105 l i).f0) (shl .u16 1 (rd_T105 l i).f1)) = Go.bits .or .u16 (shl .u16 1 (rd_T105 l i).f0) (shl .u16 1 (rd_T105 l i).f1) then ((impl_matcher_most.f k t (Go.bits .andNot .u16 s (Go.bits .or .u16 (shl .u16 1 (rd_T105 l i).f0) (shl .u16 1 (rd_T105 l i).f1)))).bind fun c1 => (impl_matcher_most.f k t s).bind fun c2 => if wrap64 (1 + c1) = c2 then (if out.length < 8796093022206 then impl_mostInPairs.l0 k t l (wrap64 (i + 1)) (out ++ [⟨(rd_T105 l i).f0, (rd_T105 l i).f1⟩]) (Go.bits .andNot .u16 s (Go.bits .or .u16 (shl .u16 1 (rd_T105 l i).f0) (shl .u16 1 (rd_T105 l i).f1))) else none) else impl_mostInPairs.l0 k t l (wrap64 (i + 1)) out s) else impl_mostInPairs.l0 k t l (wrap64 (i + 1)) out s) else none) else none) else none) else some out
def impl_mostInPairs.f (k : Nat) (n : Int) (l : List S105) : Option (List S105) := (impl_Party_table.f k n l).bind fun t => (impl_table_all.f t).bind fun s => impl_mostInPairs.l0 k t l 0 [] s
theorem impl_mostInPairs.mono_1 : ∀ k, (∀ y0 y1 y2 y3 y4, LeO (impl_mostInPairs.l0 k y0 y1 y2 y3 y4) (impl_mostInPairs.l0 (k + 1) y0 y1 y2 y3 y4))
 | 0 => fun _ _ _ _ _ r h => by simp [impl_mostInPairs.l0] at h
 | k + 1 => by
  have ih0 := impl_mostInPairs.mono_1 k
  intro y0 y1 y2 y3 y4
  unfold impl_mostInPairs.l0
  repeat' first
    | (with_reducible exact ih0 _ _ _ _ _)
    | (with_reducible exact (impl_matcher_most.mono_l k).2 _ _)
    | (with_reducible exact LeO.refl _)
    | (with_reducible exact LeO.none _)
    | (with_reducible refine LeO.ite ?_ ?_)
    | (with_reducible refine LeO.bind ?_ (fun _ => ?_))
theorem impl_mostInPairs.mono : ∀ a0 a1 k, LeO (impl_mostInPairs.f k a0 a1) (impl_mostInPairs.f (k + 1) a0 a1) := by
  intro a0 a1 k
  unfold impl_mostInPairs.f
  repeat' first
    | (with_reducible exact impl_mostInPairs.mono_1 _ _ _ _ _ _)
    | (with_reducible exact impl_Party_table.mono _ _ _)
    | (with_reducible exact LeO.refl _)
    | (with_reducible exact LeO.none _)
    | (with_reducible refine LeO.ite ?_ ?_)
    | (with_reducible refine LeO.bind ?_ (fun _ => ?_))
theorem impl_mostInPairs.mkmap {W : World} {ops : Array Oper} {rest : List Oper} {o : Oper} {a : Act} {Q : Exit → Act → World → Prop} (hg : o.guard = none) (t : TypeId) (hop : o.op = .makeMap t none) (ts : List Int)
    (hK : ∀ w', impl_matcher_most.Mo w' W.heap.size ts → Below W.heap.size W w' → wpList Tryd.prog ops Q rest (a.put o.dst (.map (some W.heap.size))) w') : wpList Tryd.prog ops Q (o :: rest) a W := by
  refine wpList_plain hg fun K' hK' => ?_
  unfold Oper.wp
  simp [execOp, hop, run_makeMap, Result.andThen]
  refine hK' _ _ (hK _ ⟨0, .map [], World.ownsMap_made W _ _ _, by omega, ?_, ?_⟩ (below_alloc (Below.refl _ _) _))
  · intro es he p hp
    injection he with he
    subst he
    cases hp
  · intro s v hh
    simp [Go.Maps.has] at hh
theorem impl_mostInPairs.tabB {g b : Nat} {w w' : World} (h : GTab g w) (hb : Below b w w') (hg : g < b) : GTab g w' := fun j hj => (hb.cell (p := ⟨g, j, none⟩) hg).trans (h j hj)
theorem impl_mostInPairs.moK {w w' : World} {bm : Nat} {t : List Int} {row : Option Nat} (h : impl_matcher_most.Mo w bm t) (hg : w.grownBy w' row) (hne : some bm ≠ row) : impl_matcher_most.Mo w' bm t := by
  obtain ⟨n, D, ho, hn, hk, hv⟩ := h
  exact ⟨n, D, ho.kept hg hne, hn, hk, hv⟩
theorem impl_mostInPairs.moS {w : World} {bm : Nat} {t : List Int} {p : Addr} (h : impl_matcher_most.Mo w bm t) (hne : bm ≠ p.block) (u : Value) : impl_matcher_most.Mo (w.setCell p u) bm t := by
  obtain ⟨n, D, ho, hn, hk, hv⟩ := h
  exact ⟨n, D, ho.setCell hne u, hn, hk, hv⟩
set_option maxHeartbeats 16000000 in
set_option maxRecDepth 100000 in
theorem impl_mostInPairs.calls (k : Nat) (n : Int) (Ap : Option Addr) (cp : Nat) (l : List S105) (r : List S105) (w : World) (hr : Kd.C k105 w Ap l.length l) (hc : l.length ≤ cp) (h : impl_mostInPairs.f k n l = some r) (hG : GTab 0 w := by first | exact Aside0.out ‹Aside0 (GTab _ _)› | exact GTab.up (Aside0.out ‹Aside0 (GTab _ _)›) (by repeat (first | (with_reducible first | exact Below.refl _ _ | exact Aside0.out ‹Aside0 (Below _ _ _)› | apply below_alloc | apply pw_below_drewN | apply below_drew1 | refine below_set ?_ (Aside0.out (by assumption))) | exact Aside0.out ‹Aside0 (Below _ _ _)›))) :
    Calls Tryd.prog 87 #[.agg #[.int .i64 n, .slice Ap l.length cp]] w fun e w' => ∃ v0_ : Value, e = .returned (v0_) ∧ Kd.R k105 105 w' w.heap.size (fun _ => True) v0_ r ∧ Below w.heap.size w w' := by
  have hu := Tryd.underlying33
  have hu2 := Tryd.underlying137
  have hlt : 0 < w.heap.size := World.block_lt_of_cell? w _ (hG 0 (by decide))
  unfold impl_mostInPairs.f at h
  replace h := Option.bind_eq_some_iff.mp h
  obtain ⟨t, ht, h⟩ := h
  replace h := Option.bind_eq_some_iff.mp h
  obtain ⟨s0, hs0, h⟩ := h
  have HR := Aside0.mk hr
  have HC := Aside0.mk hc
  have HT := Aside0.mk ht
  have HS0 := Aside0.mk hs0
  have HL := Aside0.mk h
  have HG := Aside0.mk hG
  have HB := Aside0.mk (Below.refl w.heap.size w)
  clear hr hc ht hs0 h hG
  go_enter Tryd.func87, Tryd.ntmps87
  go_wp2_with (first
    | ((with_reducible refine gate_dst (N := 1) rfl ?_); refine bxE 1 #[.int .i64 n, .slice Ap l.length cp] 33 rfl ?_; intro gp hg w2 hbox hb; have BKp := Aside0.mk hbox; replace HB := hS HB hb; have hp0 := cz BKp 0; have hp1 := cz BKp 1; clear hg hbox hb)
    | ((with_reducible refine gate_dst (N := 10) rfl ?_); refine goC (N := some 10) Tryd.func61 #[.agg #[.int .i64 n, .slice Ap l.length cp]] rfl ?_; refine (impl_Party_table.calls k n Ap cp l t _ (cS (Kd.C_below HR.out HB.out)) HC.out HT.out).mono ?_; rintro e w3 ⟨v3, rfl, ho, hb⟩; refine ⟨_, rfl, ?_⟩; have HT3 := Aside0.mk (Kd.R_lower ho (below_size hB)); replace BKp := bS BKp hb; replace HB := hS HB hb; clear hp0 hp1; have hp0 := cz BKp 0; have hp1 := cz BKp 1; clear ho hb; obtain ⟨At, ct, e3⟩ := Kd.R_slice HT3.out; subst e3)
    | ((with_reducible refine gate_dst (N := 11) rfl ?_); refine impl_mostInPairs.mkmap (by rfl) 135 (by rfl) t ?_; intro w4 hmo hb; obtain ⟨bm, hbm⟩ : ∃ b_, b_ = w3.heap.size := ⟨_, rfl⟩; rw [← hbm] at hmo ⊢; have GBM := Aside0.mk (show w.heap.size ≤ bm from by rw [hbm]; exact below_size HB.out); have HM4 := Aside0.mk hmo; have HT4 := Aside0.mk (show Kd.R (Kd.int .u16) 97 w4 w.heap.size (fun k_ => k_ ≠ bm) (.slice At t.length ct) t from Kd.R_below (Kd.R_mono (Kd.R_bound HT3.out) (fun k_ hk => by have := hk.2.2.1; omega)) hb); replace BKp := bS BKp hb; replace HB := hS HB hb; clear hp0 hp1 HT3 hmo hbm hb; have hp0 := cz BKp 0; have hp1 := cz BKp 1)
    | ((with_reducible refine gate_dst (N := 13) rfl ?_); refine Kd.R_lit k105 (w0 := w4) w4.heap.size 105 ?hg (N := 13) ?hd (xs := ([] : List S105)) (inner := []) (ok := fun k_ => w4.heap.size ≤ k_) (okp := fun _ => False) ?hr ?hp (fun _ hk => hk.elim) (Nat.le_refl _) (Below.refl _ _) (Nat.le_refl _) (by simp) ?_; (case hd => rfl); (case hg => rfl); (case hr => first | (go_simp; done) | (go_simp; rfl)); (case hp => exact (Reps.none _ _)); intro v5 w5 ho hb hg_ hnew_; clear hg_ hnew_; have HO5 := Aside0.mk (show Kd.R k105 105 w5 w.heap.size (fun k_ => k_ ≠ bm) v5 [] from Kd.R_lower (Kd.R_mono ho (fun k_ hk => by have h1_ := HM4.out.lt; omega)) (below_size HB.out)); have HM5 := Aside0.mk (HM4.out.later hb); have HT5 := Aside0.mk (Kd.R_below HT4.out hb); replace BKp := bS BKp hb; replace HB := hS HB hb; clear hp0 hp1 HT4 HM4 ho hb; have hp0 := cz BKp 0; have hp1 := cz BKp 1; obtain ⟨A5, c5, e5⟩ := Kd.R_slice HO5.out; subst e5)
    | ((with_reducible refine gate_dst (N := 3) rfl ?_); refine bxE 3 #[.slice none 0 0, .map none] 137 rfl ?_; intro gm hg w6 hbox hb; have BKm := Aside0.mk hbox; have GM := Aside0.mk hg; have GEm := gS HB hg; have HM5l := Aside0.mk HM5.out.lt; have HM6 := Aside0.mk (HM5.out.later hb); have HT6 := Aside0.mk (Kd.R_below (Kd.R_elderB HT5.out gm (Nat.le_of_eq hg.symm)) hb); have HO6 := Aside0.mk (Kd.R_below (Kd.R_elderB HO5.out gm (Nat.le_of_eq hg.symm)) hb); have NPm := nL BKp hg; replace BKp := bS BKp hb; replace HB := hS HB hb; clear hp0 hp1 HT5 HO5 HM5 hg hbox hb; have hp0 := cz BKp 0; have hp1 := cz BKp 1; have hm0 := cz BKm 0; have hm1 := cz BKm 1; have hm2 := fz BKm 0; have hm3 := fz BKm 1)
    | ((with_reducible refine gate_dst (N := 16) rfl ?_); have HT7 := Aside0.mk (Kd.R_far (p := ⟨gm, 1, none⟩) (Kd.R_far (p := ⟨gm, 0, none⟩) HT6.out (fun _ hk => hk.2) (.slice At t.length ct)) (fun _ hk => hk.2) (.map (some bm))); have HO7 := Aside0.mk (Kd.R_far (p := ⟨gm, 1, none⟩) (Kd.R_far (p := ⟨gm, 0, none⟩) HO6.out (fun _ hk => hk.2) (.slice At t.length ct)) (fun _ hk => hk.2) (.map (some bm))); have NBM := Aside0.mk (show bm ≠ gm from by have h1_ := HM5l.out; have h2_ := GM.out; omega); have HM7 := Aside0.mk (impl_mostInPairs.moS (p := ⟨gm, 1, none⟩) (impl_mostInPairs.moS (p := ⟨gm, 0, none⟩) HM6.out NBM.out (.slice At t.length ct)) NBM.out (.map (some bm))); have BKm7 := Aside0.mk (blk_set (blk_set BKm.out 0 (.slice At t.length ct)) 1 (.map (some bm))); have BKp7 := Aside0.mk (blk_far (blk_far BKp.out (p := ⟨gm, 0, none⟩) NPm.out (.slice At t.length ct)) (p := ⟨gm, 1, none⟩) NPm.out (.map (some bm))); have HB7 := Aside0.mk (below_set (j := 1) (v := .map (some bm)) (below_set (j := 0) (v := .slice At t.length ct) HB.out GEm.out) GEm.out); clear hp0 hp1 hm0 hm1 hm2 hm3; refine goC (N := some 16) Tryd.func79 #[.slice At t.length ct] rfl ?_; refine (impl_table_all.calls At ct t s0 _ (Kd.R_reads' HT7.out).2.2 (Kd.R_reads' HT7.out).2.1 HS0.out).mono ?_; rintro e w7 ⟨rfl, ⟨nd, hnd⟩⟩; refine ⟨_, rfl, ?_⟩; have HT8 := Aside0.mk (show Kd.R (Kd.int .u16) 97 w7 w.heap.size (fun k_ => k_ ≠ bm) (.slice At t.length ct) t from by rw [hnd]; exact Kd.R_drewN (Kd.R_mono HT7.out (fun _ hk => hk.1)) _); have HO8 := Aside0.mk (show Kd.R k105 105 w7 w.heap.size (fun k_ => k_ ≠ bm) (.slice A5 0 c5) [] from by rw [hnd]; exact Kd.R_drewN (Kd.R_mono HO7.out (fun _ hk => hk.1)) _); have HM8 := Aside0.mk (show impl_matcher_most.Mo w7 bm t from by rw [hnd]; exact HM7.out.later (pw_below_drewN (Below.refl _ _) _)); have BKm8 := Aside0.mk (show w7.heap[gm]? = some (.cells #[.slice At t.length ct, .map (some bm)] 137 (0, 0)) from by rw [hnd]; exact blk_drewN BKm7.out _); have BKp8 := Aside0.mk (show w7.heap[gp]? = some (.cells #[.int .i64 n, .slice Ap l.length cp] 33 (0, 0)) from by rw [hnd]; exact blk_drewN BKp7.out _); have HB8 := Aside0.mk (show Below w.heap.size w w7 from by rw [hnd]; exact pw_below_drewN HB7.out _); clear HT7 HO7 HM7 BKm7 BKp7 HB7 hnd HT6 HO6 HM6 BKm BKp HB; have hp1 := cz BKp8 1))
  have HCT := Aside0.mk (Kd.R_reads' HT8.out).2.1
  go_loopg [4, 5, 20] k (fun kq v4 v5 v20 W => ∃ (A4 : Option Addr) (c4 : Nat) (out : List S105) (s i : Int), v4 = .slice A4 out.length c4 ∧ v5 = .int .u16 s ∧ v20 = .int .i64 i ∧ Aside0 (impl_mostInPairs.l0 kq t l i out s = some r) ∧ Aside0 (kq ≤ k) ∧ Aside0 (impl_matcher_most.Mo W bm t) ∧ Aside0 (Kd.R (Kd.int .u16) 97 W w.heap.size (fun k_ => k_ ≠ bm) (.slice At t.length ct) t) ∧ Aside0 (Kd.R k105 105 W w.heap.size (fun k_ => k_ ≠ bm) (.slice A4 out.length c4) out) ∧ Aside0 (W.heap[gm]? = some (.cells #[.slice At t.length ct, .map (some bm)] 137 (0, 0))) ∧ Aside0 (Below w.heap.size w W))
  case atStart => exact ⟨A5, c5, [], s0, 0, rfl, rfl, rfl, HL, ⟨Nat.le_refl _⟩, HM8, HT8, HO8, BKm8, HB8⟩
  case round =>
    obtain ⟨A4, c4, out, s, i, rfl, rfl, rfl, HA, HK1, HM, HT, HO, BKm, HB⟩ := hrel
    clear HL HM8 HT8 HO8 BKm8 HB8
    cases gk with
    | zero => exact absurd HA.out (by simp [impl_mostInPairs.l0])
    | succ k1 =>
      have H := HA.out
      clear HA
      simp only [impl_mostInPairs.l0] at H
      by_cases c1_ : i < (l.length : Int)
      · rw [if_pos c1_] at H
        by_cases c2_ : 0 ≤ i
        · rw [if_pos c2_] at H
          obtain ⟨ad, ea, hx0, hx1⟩ := at_T105 (Kd.C_below HR.out HB.out) i c2_ c1_
          subst ea
          obtain ⟨x0, hx0e⟩ : ∃ x_, x_ = (rd_T105 l i).f0 := ⟨_, rfl⟩
          obtain ⟨x1, hx1e⟩ : ∃ x_, x_ = (rd_T105 l i).f1 := ⟨_, rfl⟩
          rw [← hx0e] at H hx0
          rw [← hx1e] at H hx1
          by_cases c3_ : 0 ≤ x0
          · rw [if_pos c3_] at H
            by_cases c4_ : 0 ≤ x1
            · rw [if_pos c4_] at H
              obtain ⟨ja, hja⟩ : ∃ j_ : Int, shl .u16 1 x0 = j_ := ⟨_, rfl⟩
              have hja_ : IntKind.u16.wrap (1 * 2 ^ min (x0).toNat 16) = ja := hja
              have hjaz : x0 ≤ 16 → IntKind.u16.wrap (1 * 2 ^ (x0).toNat) = ja := shl_small hja
              have hjau : IntKind.u16.wrap (2 ^ min (x0).toNat 16) = ja := by have h_ := hja_; rw [Int.one_mul] at h_; exact h_
              have hjav : x0 ≤ 16 → IntKind.u16.wrap (2 ^ (x0).toNat) = ja := fun hle_ => by have h_ := hjaz hle_; rw [Int.one_mul] at h_; exact h_
              obtain ⟨jb, hjb⟩ : ∃ j_ : Int, shl .u16 1 x1 = j_ := ⟨_, rfl⟩
              have hjb_ : IntKind.u16.wrap (1 * 2 ^ min (x1).toNat 16) = jb := hjb
              have hjbz : x1 ≤ 16 → IntKind.u16.wrap (1 * 2 ^ (x1).toNat) = jb := shl_small hjb
              have hjbu : IntKind.u16.wrap (2 ^ min (x1).toNat 16) = jb := by have h_ := hjb_; rw [Int.one_mul] at h_; exact h_
              have hjbv : x1 ≤ 16 → IntKind.u16.wrap (2 ^ (x1).toNat) = jb := fun hle_ => by have h_ := hjbz hle_; rw [Int.one_mul] at h_; exact h_
              rw [hja, hjb] at H
              have H' := Aside0.mk H
              have HXE := Aside0.mk (And.intro hx0e hx1e)
              have c1b : decide (i < (l.length : Int)) = true := decide_eq_true c1_
              have c3b : decide (0 ≤ x0) = true := decide_eq_true c3_
              have c4b : decide (0 ≤ x1) = true := decide_eq_true c4_
              replace c1_ := eq_true c1_
              replace c2_ := eq_true c2_
              replace c3_ := eq_true c3_
              replace c4_ := eq_true c4_
              clear H hx0e hx1e hja hjb
              go_upto_region 6 with ((with_reducible refine gate_dst (N := 7) rfl ?_); refine bxE 7 #[.int .i64 0, .int .i64 0] 105 rfl ?_; intro gx hg w8 hbox hb; have BKx := Aside0.mk hbox; have HBx := Aside0.mk hb; have GX := Aside0.mk hg; clear hx0 hx1; have hcx0 := cz BKx 0; have hcx1 := cz BKx 1; have hfx0 := fz BKx 0; have hfx1 := fz BKx 1; clear hg hbox hb)
              have HB9 := Aside0.mk (below_drew1 (below_set (j := 1) (v := .int .i64 x1) (below_set (j := 0) (v := .int .i64 x0) HBx.out (Nat.le_of_eq GX.out.symm)) (Nat.le_of_eq GX.out.symm)))
              have BKx9 := Aside0.mk (blk_drew (blk_set (blk_set BKx.out 0 (.int .i64 x0)) 1 (.int .i64 x1)))
              clear hcx0 hcx1 hfx0 hfx1 BKx HBx
              refine start_ (n := 8) (S := fun w' => w'.cell? ⟨gx, 0, none⟩ = some (.int .i64 x0) ∧ w'.cell? ⟨gx, 1, none⟩ = some (.int .i64 x1)) (ds := []) (bz 8 0) (by kernel_rfl) rfl rfl ⟨(blk_cell BKx9.out 0).trans rfl, (blk_cell BKx9.out 1).trans rfl⟩ (fun hHeld => ?_)
              refine with_tabW impl_mostInPairs.tab6 impl_mostInPairs.bits6 (fun HT_ HW_ => ?_)
              generalize ((w8.setCell ⟨gx, 0, none⟩ (.int .i64 x0)).setCell ⟨gx, 1, none⟩ (.int .i64 x1)).drew = w9 at HB9 BKx9 hHeld ⊢
              refine run_ [(0, 0, 1, some 24), (1, 1, 3, some 25), (0, 2, 7, some 26), (0, 3, 15, some 27), (1, 4, 31, some 28), (0, 5, 63, some 29), (0, 6, 127, some 30), (0, 7, 255, some 8)] ?_
              repeat (first | (apply tag0; refine run_p (v := ?_) (a' := ?_) rfl rfl (any_of HT_.out (by kernel_rfl)) (fun _ _ _ h => h) (by rfl) ?_ ?_ ?_; rotate_left 2; (intro w'; go_simp; with_reducible rfl); (first | (simp only [Act.put, List.setIfInBounds_toArray, List.set_cons_zero, List.set_cons_succ, i64_w, i32_w]; rfl) | rfl)) | (apply tag1; refine run_t (v := ?_) (a' := ?_) rfl rfl (take_ofW HT_.out HW_.out (by kernel_rfl)) (fun _ _ _ h => h) (by rfl) ?_ hHeld ?_ ?_; rotate_left 2; (rintro w' ⟨s0, s1⟩; go_simp; with_reducible rfl); (first | (simp only [Act.put, List.setIfInBounds_toArray, List.set_cons_zero, List.set_cons_succ, i64_w, i32_w]; rfl) | rfl)) | (apply tag2; refine run_o (a' := ?_) rfl rfl (any_of HT_.out (by kernel_rfl)) (fun _ _ _ h => h) (by rfl) ?_ ?_; rotate_left; (first | (simp only [Act.put, List.setIfInBounds_toArray, List.set_cons_zero, List.set_cons_succ, i64_w, i32_w]; rfl) | rfl)))
              refine run_nil ?_
              refine done_ (done_of HT_.out (by kernel_rfl)) ?_
              clear hHeld HT_ HW_
              try go_wp2
              have HB10 := Aside0.mk (below_drew1 HB9.out)
              have BKx10 := Aside0.mk (blk_drew BKx9.out)
              have BKm10 := Aside0.mk (blk_below BKm.out HB10.out)
              have HM10 := Aside0.mk (HM.out.later HB10.out)
              have HT10 := Aside0.mk (Kd.R_below HT.out HB10.out)
              have HO10 := Aside0.mk (Kd.R_below (Kd.R_elderB HO.out gx (Nat.le_of_eq GX.out.symm)) HB10.out)
              have HBw10 := Aside0.mk (below_then HB.out (below_size HB.out) HB10.out)
              have NXM := Aside0.mk (show gx ≠ bm from by have h1_ := HM.out.lt; have h2_ := GX.out; omega)
              have NMM := Aside0.mk (show gm ≠ bm from fun e_ => NBM.out e_.symm)
              clear HM HT HO HB BKm HB9 BKx9
              refine start_ (n := 17) (S := fun w' => w'.cell? ⟨gm, 0, none⟩ = some (.slice At t.length ct) ∧ w'.cell? ⟨gm, 1, none⟩ = some (.map (some bm))) (ds := [14]) (bz 17 0) (by kernel_rfl) rfl rfl ⟨(blk_cell BKm10.out 0).trans rfl, (blk_cell BKm10.out 1).trans rfl⟩ (fun hHeld => ?_)
              refine with_tabW impl_mostInPairs.tab7 impl_mostInPairs.bits7 (fun HT_ HW_ => ?_)
              generalize w9.drew = w10 at HB10 BKx10 BKm10 HM10 HT10 HO10 HBw10 hHeld ⊢
              have H := H'.out
              clear H'
              by_cases ce : Go.bits .and .u16 s (Go.bits .or .u16 ja jb) = (Go.bits .or .u16 ja jb)
              · rw [if_pos ce] at H
                have ceb : (Go.bits .and .u16 s (Go.bits .or .u16 ja jb) == (Go.bits .or .u16 ja jb)) = true := beq_iff_eq.mpr ce
                clear ce
                replace H := Option.bind_eq_some_iff.mp H
                obtain ⟨v1, hv1, H⟩ := H
                replace H := Option.bind_eq_some_iff.mp H
                obtain ⟨v2, hv2, H⟩ := H
                have HV1 := Aside0.mk hv1
                have HV2 := Aside0.mk hv2
                have H' := Aside0.mk H
                clear hv1 hv2 H
                refine run_ [(0, 0, 1, some 31), (0, 1, 3, some 32), (0, 2, 7, some 33), (0, 3, 15, some 34), (0, 4, 31, some 35), (0, 5, 63, some 36), (1, 6, 127, some 37), (0, 7, 255, some 38), (0, 8, 511, some 39), (0, 9, 1023, some 40), (1, 12, 5119, some 43), (0, 13, 13311, some 44)] ?_
                repeat (first | (apply tag0; refine run_p (v := ?_) (a' := ?_) rfl rfl (any_of HT_.out (by kernel_rfl)) (fun _ _ _ h => h) (by rfl) ?_ ?_ ?_; rotate_left 2; (intro w'; go_simp; with_reducible rfl); (first | (simp only [Act.put, List.setIfInBounds_toArray, List.set_cons_zero, List.set_cons_succ, i64_w, i32_w]; rfl) | rfl)) | (apply tag1; refine run_t (v := ?_) (a' := ?_) rfl rfl (take_ofW HT_.out HW_.out (by kernel_rfl)) (fun _ _ _ h => h) (by rfl) ?_ hHeld ?_ ?_; rotate_left 2; (rintro w' ⟨s0, s1⟩; go_simp; with_reducible rfl); (first | (simp only [Act.put, List.setIfInBounds_toArray, List.set_cons_zero, List.set_cons_succ, i64_w, i32_w]; rfl) | rfl)) | (apply tag2; refine run_o (a' := ?_) rfl rfl (any_of HT_.out (by kernel_rfl)) (fun _ _ _ h => h) (by rfl) ?_ ?_; rotate_left; (first | (simp only [Act.put, List.setIfInBounds_toArray, List.set_cons_zero, List.set_cons_succ, i64_w, i32_w]; rfl) | rfl)))
                refine run_nil ?_
                refine one_ (i := 10) (N := some 41) (bz 17 14335) rfl rfl (one_of HT_.out (by kernel_rfl)) (by decide) (fun K hK => ?_)
                refine goes_ Tryd.func123 (by kernel_rfl) rfl #[.agg #[.slice At t.length ct, .map (some bm)], .int .u16 (Go.bits .andNot .u16 s (Go.bits .or .u16 ja jb))] (by rfl) rfl rfl (by first | rfl | exact mapT) ?_
                refine (impl_matcher_most.calls k1 At ct t _ bm v1 w10 w.heap.size (Kd.R_F HT10.out) HCT.out HM10.out GBM.out (below_size HBw10.out) (impl_mostInPairs.tabB HG.out HBw10.out hlt) hlt HV1.out).mono ?_
                rintro e w11 ⟨rfl, s11⟩
                refine ⟨_, rfl, ?_⟩
                have HBw11 := Aside0.mk (HBw10.out.trans s11.below)
                have BKm11 := Aside0.mk (s11.blk BKm10.out NMM.out)
                have BKx11 := Aside0.mk (s11.blk BKx10.out NXM.out)
                have HT11 := Aside0.mk (Kd.R_step HT10.out (fun k_ hk hl => s11.keep k_ hk hl))
                have HO11 := Aside0.mk (Kd.R_step HO10.out (fun k_ hk hl => s11.keep k_ hk.1 hl))
                have HM11 := Aside0.mk s11.memo
                refine hK.out _ _ ⟨(blk_cell BKm11.out 0).trans rfl, (blk_cell BKm11.out 1).trans rfl⟩ (fun hHeld2 => ?_)
                clear hK K s11 HBw10 BKm10 BKx10 HT10 HO10 HM10 hHeld
                refine norm_ (a' := ?_) ?_ ?_
                rotate_left
                · show Act.put _ (some 41) _ = _
                  simp only [Act.put, List.setIfInBounds_toArray, List.set_cons_zero, List.set_cons_succ, i64_w, i32_w]
                  rfl
                refine run_ [(0, 11, 16383, some 42)] ?_
                repeat (first | (apply tag0; refine run_p (v := ?_) (a' := ?_) rfl rfl (any_of HT_.out (by kernel_rfl)) (fun _ _ _ h => h) (by rfl) ?_ ?_ ?_; rotate_left 2; (intro w'; go_simp; with_reducible rfl); (first | (simp only [Act.put, List.setIfInBounds_toArray, List.set_cons_zero, List.set_cons_succ, i64_w, i32_w]; rfl) | rfl)) | (apply tag1; refine run_t (v := ?_) (a' := ?_) rfl rfl (take_ofW HT_.out HW_.out (by kernel_rfl)) (fun _ _ _ h => h) (by rfl) ?_ hHeld ?_ ?_; rotate_left 2; (rintro w' ⟨s0, s1⟩; go_simp; with_reducible rfl); (first | (simp only [Act.put, List.setIfInBounds_toArray, List.set_cons_zero, List.set_cons_succ, i64_w, i32_w]; rfl) | rfl)) | (apply tag2; refine run_o (a' := ?_) rfl rfl (any_of HT_.out (by kernel_rfl)) (fun _ _ _ h => h) (by rfl) ?_ ?_; rotate_left; (first | (simp only [Act.put, List.setIfInBounds_toArray, List.set_cons_zero, List.set_cons_succ, i64_w, i32_w]; rfl) | rfl)))
                refine run_nil ?_
                refine last_ (i := 14) (N := some 45) (bz 17 32767) rfl rfl (one_of HT_.out (by kernel_rfl)) (by decide) (fun K hK => ?_)
                refine goes_ Tryd.func123 (by kernel_rfl) rfl #[.agg #[.slice At t.length ct, .map (some bm)], .int .u16 s] (by rfl) rfl rfl (by first | rfl | exact mapT) ?_
                refine (impl_matcher_most.calls k1 At ct t _ bm v2 w11 w.heap.size (Kd.R_F HT11.out) HCT.out HM11.out GBM.out (below_size HBw11.out) (impl_mostInPairs.tabB HG.out HBw11.out hlt) hlt HV2.out).mono ?_
                rintro e w12 ⟨rfl, s12⟩
                refine ⟨_, rfl, ?_⟩
                have HBw12 := Aside0.mk (HBw11.out.trans s12.below)
                have BKm12 := Aside0.mk (s12.blk BKm11.out NMM.out)
                have BKx12 := Aside0.mk (s12.blk BKx11.out NXM.out)
                have HT12 := Aside0.mk (Kd.R_step HT11.out (fun k_ hk hl => s12.keep k_ hk hl))
                have HO12 := Aside0.mk (Kd.R_step HO11.out (fun k_ hk hl => s12.keep k_ hk.1 hl))
                have HM12 := Aside0.mk s12.memo
                refine hK.out _ _ ?_
                clear hK K s12 HBw11 BKm11 BKx11 HT11 HO11 HM11
                refine norm_ (a' := ?_) ?_ ?_
                rotate_left
                · show Act.put _ (some 45) _ = _
                  simp only [Act.put, List.setIfInBounds_toArray, List.set_cons_zero, List.set_cons_succ, i64_w, i32_w]
                  rfl
                refine run_ [(0, 15, 65535, some 46), (0, 16, 131071, some 47)] ?_
                repeat (first | (apply tag0; refine run_p (v := ?_) (a' := ?_) rfl rfl (any_of HT_.out (by kernel_rfl)) (fun _ _ _ h => h) (by rfl) ?_ ?_ ?_; rotate_left 2; (intro w'; go_simp; with_reducible rfl); (first | (simp only [Act.put, List.setIfInBounds_toArray, List.set_cons_zero, List.set_cons_succ, i64_w, i32_w]; rfl) | rfl)) | (apply tag1; refine run_t (v := ?_) (a' := ?_) rfl rfl (take_ofW HT_.out HW_.out (by kernel_rfl)) (fun _ _ _ h => h) (by rfl) ?_ hHeld ?_ ?_; rotate_left 2; (rintro w' ⟨s0, s1⟩; go_simp; with_reducible rfl); (first | (simp only [Act.put, List.setIfInBounds_toArray, List.set_cons_zero, List.set_cons_succ, i64_w, i32_w]; rfl) | rfl)) | (apply tag2; refine run_o (a' := ?_) rfl rfl (any_of HT_.out (by kernel_rfl)) (fun _ _ _ h => h) (by rfl) ?_ ?_; rotate_left; (first | (simp only [Act.put, List.setIfInBounds_toArray, List.set_cons_zero, List.set_cons_succ, i64_w, i32_w]; rfl) | rfl)))
                refine run_nil ?_
                refine done_ (done_of HT_.out (by kernel_rfl)) ?_
                clear HT_ HW_
                have H := H'.out
                clear H'
                by_cases cv : wrap64 (1 + v1) = v2
                · rw [if_pos cv] at H
                  have cvb : (wrap64 (1 + v1) == v2) = true := beq_iff_eq.mpr cv
                  by_cases cl : out.length < 8796093022206
                  · rw [if_pos cl] at H
                    obtain ⟨y2, hy2⟩ : ∃ y_ : List S105, y_ = out ++ [⟨x0, x1⟩] := ⟨_, rfl⟩
                    rw [← hy2] at H
                    have NY := Aside0.mk hy2
                    have LX := Aside0.mk cl
                    have HN := Aside0.mk H
                    have hx0 := cz BKx12 0
                    have hx1 := cz BKx12 1
                    clear cv cl hy2 H
                    go_wp2_with ((with_reducible refine gate_builtin (b := .append) (xs := #[.tmp 48, .tmp 50]) rfl ?_); at_builtin; refine Kd.R_append k105 (w0 := w) w.heap.size rfl (.tmp 48) (.tmp 50) 31 105 (.agg #[(.int .i64 0), (.int .i64 0)]) 16 rfl Tryd.underlying31 info105 rfl (by decide) (by omega) (.slice A4 out.length c4) out (⟨x0, x1⟩ : S105) [.int .i64 x0, .int .i64 x1] (fun k_ => k_ ≠ bm) (fun _ => False) rfl rfl ?bP (fun _ hk => hk.elim) ?bF ?bO ?bB ?bS ?bL ?_; (case bP => exact k105_mkM _ _ _ _); (case bB => exact HBw12.out); (case bF => exact fun k_ hk => by have h1_ := HM12.out.lt; omega); (case bO => exact Kd.R_mono HO12.out (fun _ hk => hk.1)); (case bS => exact below_size HBw12.out); (case bL => have := LX.out; omega); intro v6 w13 ho hb hg hat; rw [← NY.out] at ho; have HO13 := Aside0.mk ho; have HB13 := Aside0.mk hb; have HM13 := Aside0.mk (impl_mostInPairs.moK HM12.out hg (fun e_ => (HO12.out.1 bm e_.symm).1 rfl)); have BKm13 := Aside0.mk ((hg.block gm (blk_lt BKm12.out) (Kd.R_ne HO12.out BKm12.out (by decide))).trans BKm12.out); have HT13 := Aside0.mk (Kd.R_over' HT12.out (Kd.R_typed HO12.out) (by decide) hg); clear ho hb hg hat hx0 hx1; obtain ⟨A6, c6, e6⟩ := Kd.R_slice HO13.out; subst e6)
                    go_roundg k1
                    case measure => have := HK1.out; omega
                    case rel => exact ⟨_, _, y2, _, _, by first | rfl | (simp; done), by first | rfl | (simp; done), by first | rfl | (simp; done), HN, ⟨by have := HK1.out; omega⟩, HM13, HT13, HO13, BKm13, HB13⟩
                  · rw [if_neg cl] at H; cases H
                · rw [if_neg cv] at H
                  have cvb : (wrap64 (1 + v1) == v2) = false := beq_eq_false_iff_ne.mpr cv
                  have HN := Aside0.mk H
                  clear cv H
                  go_wp2
                  go_roundg k1
                  case measure => have := HK1.out; omega
                  case rel => exact ⟨_, _, out, _, _, by first | rfl | (simp; done), by first | rfl | (simp; done), by first | rfl | (simp; done), HN, ⟨by have := HK1.out; omega⟩, HM12, HT12, ⟨Kd.R_mono HO12.out (fun _ hk => hk.1)⟩, BKm12, HBw12⟩
              · rw [if_neg ce] at H
                have ceb : (Go.bits .and .u16 s (Go.bits .or .u16 ja jb) == (Go.bits .or .u16 ja jb)) = false := beq_eq_false_iff_ne.mpr ce
                have HN := Aside0.mk H
                clear ce H
                refine run_ [(0, 0, 1, some 31), (0, 1, 3, some 32), (0, 2, 7, some 33), (0, 3, 15, some 34), (0, 4, 31, some 35), (0, 5, 63, some 36), (2, 6, 127, some 37), (2, 7, 255, some 38), (2, 8, 511, some 39), (2, 9, 1023, some 40), (2, 10, 2047, some 41), (2, 11, 4095, some 42), (2, 12, 8191, some 43), (2, 13, 16383, some 44), (2, 14, 32767, some 45), (2, 15, 65535, some 46), (0, 16, 131071, some 47)] ?_
                repeat (first | (apply tag0; refine run_p (v := ?_) (a' := ?_) rfl rfl (any_of HT_.out (by kernel_rfl)) (fun _ _ _ h => h) (by rfl) ?_ ?_ ?_; rotate_left 2; (intro w'; go_simp; with_reducible rfl); (first | (simp only [Act.put, List.setIfInBounds_toArray, List.set_cons_zero, List.set_cons_succ, i64_w, i32_w]; rfl) | rfl)) | (apply tag1; refine run_t (v := ?_) (a' := ?_) rfl rfl (take_ofW HT_.out HW_.out (by kernel_rfl)) (fun _ _ _ h => h) (by rfl) ?_ hHeld ?_ ?_; rotate_left 2; (rintro w' ⟨s0, s1⟩; go_simp; with_reducible rfl); (first | (simp only [Act.put, List.setIfInBounds_toArray, List.set_cons_zero, List.set_cons_succ, i64_w, i32_w]; rfl) | rfl)) | (apply tag2; refine run_o (a' := ?_) rfl rfl (any_of HT_.out (by kernel_rfl)) (fun _ _ _ h => h) (by rfl) ?_ ?_; rotate_left; (first | (simp only [Act.put, List.setIfInBounds_toArray, List.set_cons_zero, List.set_cons_succ, i64_w, i32_w]; rfl) | rfl)))
                refine run_nil ?_
                refine done_ (done_of HT_.out (by kernel_rfl)) ?_
                clear HT_ HW_ hHeld
                go_wp2
                go_roundg k1
                case measure => have := HK1.out; omega
                case rel => exact ⟨_, _, out, _, _, by first | rfl | (simp; done), by first | rfl | (simp; done), by first | rfl | (simp; done), HN, ⟨by have := HK1.out; omega⟩, HM10, HT10, ⟨Kd.R_mono HO10.out (fun _ hk => hk.1)⟩, BKm10, HBw10⟩
            · rw [if_neg c4_] at H; cases H
          · rw [if_neg c3_] at H; cases H
        · rw [if_neg c2_] at H; cases H
      · rw [if_neg c1_] at H
        have c1b : decide (i < (l.length : Int)) = false := decide_eq_false c1_
        clear c1_
        obtain rfl := Option.some.inj H
        go_wp2
        go_ret
        exact ⟨_, rfl, Kd.R_mono HO.out (fun _ _ => trivial), HB.out⟩

/-! ### impl_MostInPairs: function 38 -/
def impl_MostInPairs.f (k : Nat) (a0_0 : Int) (l0_1 : List (S105)) : Option ((List (S105)) × Bool) := (impl_IsParty.f k a0_0 l0_1).bind fun t202 => (if t202 = true then ((impl_mostInPairs.f k a0_0 l0_1).bind fun t203 => (some (t203, true))) else (some (([] : List (S105)), false)))
theorem impl_MostInPairs.mono : ∀ a0 a1 k, LeO (impl_MostInPairs.f k a0 a1) (impl_MostInPairs.f (k + 1) a0 a1) := by
 intro a0 a1 k
 unfold impl_MostInPairs.f
 repeat' first
   | (with_reducible exact impl_IsParty.mono _ _ _)
   | (with_reducible exact impl_mostInPairs.mono _ _ _)
   | (with_reducible exact LeO.refl _)
   | (with_reducible exact LeO.none _)
   | (with_reducible refine LeO.ite ?_ ?_)
   | (with_reducible refine LeO.bind ?_ (fun _ => ?_))
   | exact impl_IsParty.mono _ _ _
   | exact impl_mostInPairs.mono _ _ _
   | exact LeO.none _
   | refine LeO.ite ?_ ?_
   | refine LeO.bind ?_ (fun _ => ?_)
set_option maxHeartbeats 8000000 in
set_option maxRecDepth 100000 in
theorem impl_MostInPairs.calls (k : Nat) (a0_0 : Int) (A0_1 : Option Addr) (c0_1 : Nat) (l0_1 : List (S105)) (r1 : List (S105)) (r2 : Bool) (w : World) (hr0_1 : Kd.C k105 w A0_1 l0_1.length l0_1) (hc0_1 : l0_1.length ≤ c0_1) (h : impl_MostInPairs.f k a0_0 l0_1 = some (r1, r2)) (hG : GTab 0 w := by first | exact Aside0.out ‹Aside0 (GTab _ _)› | exact GTab.up (Aside0.out ‹Aside0 (GTab _ _)›) (by repeat (first | (with_reducible first | exact Below.refl _ _ | exact Aside0.out ‹Aside0 (Below _ _ _)› | apply below_alloc | apply pw_below_drewN | apply below_drew1 | refine below_set ?_ (Aside0.out (by assumption))) | exact Aside0.out ‹Aside0 (Below _ _ _)›))) :
  Calls Tryd.prog 38 #[.agg #[.int .i64 a0_0, .slice A0_1 l0_1.length c0_1]] w fun e w' => ∃ v0_ : Value, e = .returned (.tuple #[v0_, .bool r2]) ∧ Kd.R k105 105 w' w.heap.size (fun _ => True) v0_ r1 ∧ Below w.heap.size w w' := by
 have hu33 := Tryd.underlying33
 have HG := Aside0.mk (p := GTab _ _) hG
 clear hG
 have HR0_1 := Aside0.mk hr0_1
 have HC0_1 := Aside0.mk hc0_1
 clear hr0_1 hc0_1
 have HB := Aside0.mk (Below.refl w.heap.size w)
 have H : ((impl_IsParty.f k a0_0 l0_1).bind fun t202 => (if t202 = true then ((impl_mostInPairs.f k a0_0 l0_1).bind fun t203 => (some (t203, true))) else (some (([] : List (S105)), false)))) = some (r1, r2) := h
 clear h
 replace H := Option.bind_eq_some_iff.mp H
 obtain ⟨t202, A20, H⟩ := H
 try dsimp only at H
 have A2 := Aside0.mk A20
 clear A20
 by_cases c3 : t202 = true
 ·subst c3
  rw [if_pos rfl] at H
  replace H := Option.bind_eq_some_iff.mp H
  obtain ⟨t203, A40, H⟩ := H
  replace H : (some (t203, true)) = some (r1, r2) := H
  have A4 := Aside0.mk A40
  clear A40
  simp only [Option.some.injEq, Prod.mk.injEq] at H
  obtain ⟨rfl, rfl⟩ := H
  go_enter Tryd.func38, Tryd.ntmps38
  go_wp2_with (first | ((with_reducible refine gate_dst (N := 1) rfl ?_); refine bxE 1 #[.int .i64 a0_0, .slice A0_1 l0_1.length c0_1] 33 rfl ?_; intro gb201 hg w5 hbox hb; have BK201 := Aside0.mk (hbox); have GW201 := gS HB hg; have GE201 := gS HB hg; replace HB := hS HB hb; clear hb hbox hg; have hcz6_0 := cz BK201 0; have hcz6_1 := cz BK201 1; have hfz6_0 := fz BK201 0; have hfz6_1 := fz BK201 1) | ((with_reducible refine gate_callee (f := 76) rfl ?_); refine goC (N := some 5) Tryd.func76 #[.agg #[.int .i64 a0_0, .slice A0_1 l0_1.length c0_1]] rfl ?_; (with_reducible refine (impl_IsParty.calls k a0_0 _ _ l0_1 true _ ?side1 ?side2 A2.out).mono ?_); (case side1 => exact cS (Kd.C_below HR0_1.out HB.out)); (case side2 => exact HC0_1.out); rintro e w7 ⟨rfl, hb⟩; refine ⟨_, rfl, ?_⟩; replace BK201 := bS BK201 hb; replace HB := hS HB hb; (try clear hb); (try clear hb2); (try clear hk); (try clear hi); have hcz8_0 := cz BK201 0; have hcz8_1 := cz BK201 1; have hfz8_0 := fz BK201 0; have hfz8_1 := fz BK201 1) | ((with_reducible refine gate_callee (f := 87) rfl ?_); refine goC (N := some 8) Tryd.func87 #[.agg #[.int .i64 a0_0, .slice A0_1 l0_1.length c0_1]] rfl ?_; (with_reducible refine (impl_mostInPairs.calls k a0_0 _ _ l0_1 t203 _ ?side1 ?side2 A4.out).mono ?_); (case side1 => exact cS (Kd.C_below HR0_1.out HB.out)); (case side2 => exact HC0_1.out); rintro e w9 ⟨v204, rfl, ho0, hb⟩; refine ⟨_, rfl, ?_⟩; have HO205 := Aside0.mk (Kd.R_lower ho0 (below_size hB)); replace BK201 := bS BK201 hb; replace HB := hS HB hb; (try clear hb); (try clear hb2); (try clear hk); (try clear hi); (try clear ho0)))
  go_ret2
  exact ⟨_, by first | rfl | (simp [errW_none, errW_some] <;> rfl) | (simp [*, errW_none, errW_some] <;> rfl), rU HO205, hB⟩
 ·replace c3 := Bool.eq_false_iff.mpr c3
  subst c3
  rw [if_neg (show ¬ (false = true) by decide)] at H
  simp only [Option.some.injEq, Prod.mk.injEq] at H
  obtain ⟨rfl, rfl⟩ := H
  go_enter Tryd.func38, Tryd.ntmps38
  go_wp2_with (first | ((with_reducible refine gate_dst (N := 1) rfl ?_); refine bxE 1 #[.int .i64 a0_0, .slice A0_1 l0_1.length c0_1] 33 rfl ?_; intro gb201 hg w10 hbox hb; have BK201 := Aside0.mk (hbox); have GW201 := gS HB hg; have GE201 := gS HB hg; replace HB := hS HB hb; clear hb hbox hg; have hcz11_0 := cz BK201 0; have hcz11_1 := cz BK201 1; have hfz11_0 := fz BK201 0; have hfz11_1 := fz BK201 1) | ((with_reducible refine gate_callee (f := 76) rfl ?_); refine goC (N := some 5) Tryd.func76 #[.agg #[.int .i64 a0_0, .slice A0_1 l0_1.length c0_1]] rfl ?_; (with_reducible refine (impl_IsParty.calls k a0_0 _ _ l0_1 false _ ?side1 ?side2 A2.out).mono ?_); (case side1 => exact cS (Kd.C_below HR0_1.out HB.out)); (case side2 => exact HC0_1.out); rintro e w12 ⟨rfl, hb⟩; refine ⟨_, rfl, ?_⟩; replace BK201 := bS BK201 hb; replace HB := hS HB hb; (try clear hb); (try clear hb2); (try clear hk); (try clear hi)))
  go_ret2
  exact ⟨_, by first | rfl | (simp [errW_none, errW_some] <;> rfl) | (simp [*, errW_none, errW_some] <;> rfl), by first | exact Kd.R_nil _ _ _ _ _ | exact Kd.N_nil _ _ _ _ _ | exact Kd.V_nil _ _ _ _ _ | exact Kd.Q_nil _ _ _ _ _ | exact Kd.S_nil _ _ _ _ _, hB⟩

/-! ### impl_FirstPairing: function 33 -/
def impl_FirstPairing.f (k : Nat) (a0_0 : Int) (l0_1 : List (S105)) : Option ((List (S105)) × Bool) := (impl_MostInPairs.f k a0_0 l0_1).bind fun bt207 => (if bt207.2 = true then (if (wrap64 (2 * (bt207.1.length : Int))) < a0_0 then (some (([] : List (S105)), false)) else (some (bt207.1, true))) else (some (([] : List (S105)), false)))
theorem impl_FirstPairing.mono : ∀ a0 a1 k, LeO (impl_FirstPairing.f k a0 a1) (impl_FirstPairing.f (k + 1) a0 a1) := by
 intro a0 a1 k
 unfold impl_FirstPairing.f
 repeat' first
   | (with_reducible exact impl_MostInPairs.mono _ _ _)
   | (with_reducible exact LeO.refl _)
   | (with_reducible exact LeO.none _)
   | (with_reducible refine LeO.ite ?_ ?_)
   | (with_reducible refine LeO.bind ?_ (fun _ => ?_))
   | exact impl_MostInPairs.mono _ _ _
   | exact LeO.none _
   | refine LeO.ite ?_ ?_
   | refine LeO.bind ?_ (fun _ => ?_)
set_option maxHeartbeats 8000000 in
set_option maxRecDepth 100000 in
theorem impl_FirstPairing.calls (k : Nat) (a0_0 : Int) (A0_1 : Option Addr) (c0_1 : Nat) (l0_1 : List (S105)) (r1 : List (S105)) (r2 : Bool) (w : World) (hr0_1 : Kd.C k105 w A0_1 l0_1.length l0_1) (hc0_1 : l0_1.length ≤ c0_1) (h : impl_FirstPairing.f k a0_0 l0_1 = some (r1, r2)) (hG : GTab 0 w := by first | exact Aside0.out ‹Aside0 (GTab _ _)› | exact GTab.up (Aside0.out ‹Aside0 (GTab _ _)›) (by repeat (first | (with_reducible first | exact Below.refl _ _ | exact Aside0.out ‹Aside0 (Below _ _ _)› | apply below_alloc | apply pw_below_drewN | apply below_drew1 | refine below_set ?_ (Aside0.out (by assumption))) | exact Aside0.out ‹Aside0 (Below _ _ _)›))) :
  Calls Tryd.prog 33 #[.agg #[.int .i64 a0_0, .slice A0_1 l0_1.length c0_1]] w fun e w' => ∃ v0_ : Value, e = .returned (.tuple #[v0_, .bool r2]) ∧ Kd.R k105 105 w' w.heap.size (fun _ => True) v0_ r1 ∧ Below w.heap.size w w' := by
 have hu33 := Tryd.underlying33
 have HG := Aside0.mk (p := GTab _ _) hG
 clear hG
 have HR0_1 := Aside0.mk hr0_1
 have HC0_1 := Aside0.mk hc0_1
 clear hr0_1 hc0_1
 have HB := Aside0.mk (Below.refl w.heap.size w)
 have H : ((impl_MostInPairs.f k a0_0 l0_1).bind fun bt207 => (if bt207.2 = true then (if (wrap64 (2 * (bt207.1.length : Int))) < a0_0 then (some (([] : List (S105)), false)) else (some (bt207.1, true))) else (some (([] : List (S105)), false)))) = some (r1, r2) := h
 clear h
 replace H := Option.bind_eq_some_iff.mp H
 obtain ⟨⟨t207, t210⟩, A20, H⟩ := H
 try dsimp only at H
 have A2 := Aside0.mk A20
 clear A20
 by_cases c3 : t210 = true
 ·subst c3
  rw [if_pos rfl] at H
  by_cases c4 : (wrap64 (2 * (t207.length : Int))) < a0_0
  ·rw [if_pos c4] at H
   have c4b0 : decide ((wrap64 (2 * (t207.length : Int))) < a0_0) = true := decide_eq_true c4
   clear c4
   simp only [Option.some.injEq, Prod.mk.injEq] at H
   obtain ⟨rfl, rfl⟩ := H
   go_enter Tryd.func33, Tryd.ntmps33
   go_wp2_with (first | ((with_reducible refine gate_dst (N := 1) rfl ?_); (try (refine gate_guard (by rfl) ?_; dsimp only)); refine box_event ?hg (N := 1) ?hd (cs := #[.int .i64 a0_0, .slice A0_1 l0_1.length c0_1]) (t := 33) ?hr ?_; (case hd => rfl); (case hg => rfl); (case hr => first | (go_simp; done) | (go_simp; rfl)); intro gb206 hg w5 hbox hb; have BK206 := Aside0.mk (hbox); have GW206 := gS HB hg; have GE206 := gS HB hg; replace HB := hS HB hb; clear hb hbox hg; have hcz6_0 := cz BK206 0; have hcz6_1 := cz BK206 1; have hfz6_0 := fz BK206 0; have hfz6_1 := fz BK206 1) | ((with_reducible refine gate_callee (f := 38) rfl ?_); refine goC (N := some 8) Tryd.func38 #[.agg #[.int .i64 a0_0, .slice A0_1 l0_1.length c0_1]] rfl ?_; (with_reducible refine (impl_MostInPairs.calls k a0_0 _ _ l0_1 t207 true _ ?side1 ?side2 A2.out).mono ?_); (case side1 => exact cS (Kd.C_below HR0_1.out HB.out)); (case side2 => exact HC0_1.out); rintro e w7 ⟨v208, rfl, ho0, hb⟩; refine ⟨_, rfl, ?_⟩; have HO209 := Aside0.mk (Kd.R_lower ho0 (below_size hB)); replace BK206 := bS BK206 hb; replace HB := hS HB hb; (try clear hb); (try clear hb2); (try clear hk); (try clear hi); (try clear ho0); obtain ⟨Ao8, co8, eo8⟩ := Kd.R_slice HO209.out; subst eo8; have hcz9_0 := cz BK206 0; have hcz9_1 := cz BK206 1; have hfz9_0 := fz BK206 0; have hfz9_1 := fz BK206 1))
   go_ret2
   exact ⟨_, by first | rfl | (simp [errW_none, errW_some] <;> rfl) | (simp [*, errW_none, errW_some] <;> rfl), by first | exact Kd.R_nil _ _ _ _ _ | exact Kd.N_nil _ _ _ _ _ | exact Kd.V_nil _ _ _ _ _ | exact Kd.Q_nil _ _ _ _ _ | exact Kd.S_nil _ _ _ _ _, hB⟩
  ·rw [if_neg c4] at H
   have c4b0 : decide ((wrap64 (2 * (t207.length : Int))) < a0_0) = false := decide_eq_false c4
   clear c4
   simp only [Option.some.injEq, Prod.mk.injEq] at H
   obtain ⟨rfl, rfl⟩ := H
   go_enter Tryd.func33, Tryd.ntmps33
   go_wp2_with (first | ((with_reducible refine gate_dst (N := 1) rfl ?_); (try (refine gate_guard (by rfl) ?_; dsimp only)); refine box_event ?hg (N := 1) ?hd (cs := #[.int .i64 a0_0, .slice A0_1 l0_1.length c0_1]) (t := 33) ?hr ?_; (case hd => rfl); (case hg => rfl); (case hr => first | (go_simp; done) | (go_simp; rfl)); intro gb206 hg w10 hbox hb; have BK206 := Aside0.mk (hbox); have GW206 := gS HB hg; have GE206 := gS HB hg; replace HB := hS HB hb; clear hb hbox hg; have hcz11_0 := cz BK206 0; have hcz11_1 := cz BK206 1; have hfz11_0 := fz BK206 0; have hfz11_1 := fz BK206 1) | ((with_reducible refine gate_callee (f := 38) rfl ?_); refine goC (N := some 8) Tryd.func38 #[.agg #[.int .i64 a0_0, .slice A0_1 l0_1.length c0_1]] rfl ?_; (with_reducible refine (impl_MostInPairs.calls k a0_0 _ _ l0_1 t207 true _ ?side1 ?side2 A2.out).mono ?_); (case side1 => exact cS (Kd.C_below HR0_1.out HB.out)); (case side2 => exact HC0_1.out); rintro e w12 ⟨v208, rfl, ho0, hb⟩; refine ⟨_, rfl, ?_⟩; have HO209 := Aside0.mk (Kd.R_lower ho0 (below_size hB)); replace BK206 := bS BK206 hb; replace HB := hS HB hb; (try clear hb); (try clear hb2); (try clear hk); (try clear hi); (try clear ho0); obtain ⟨Ao13, co13, eo13⟩ := Kd.R_slice HO209.out; subst eo13; have hcz14_0 := cz BK206 0; have hcz14_1 := cz BK206 1; have hfz14_0 := fz BK206 0; have hfz14_1 := fz BK206 1))
   go_ret2
   exact ⟨_, by first | rfl | (simp [errW_none, errW_some] <;> rfl) | (simp [*, errW_none, errW_some] <;> rfl), rU HO209, hB⟩
 ·replace c3 := Bool.eq_false_iff.mpr c3
  subst c3
  rw [if_neg (show ¬ (false = true) by decide)] at H
  simp only [Option.some.injEq, Prod.mk.injEq] at H
  obtain ⟨rfl, rfl⟩ := H
  go_enter Tryd.func33, Tryd.ntmps33
  go_wp2_with (first | ((with_reducible refine gate_dst (N := 1) rfl ?_); (try (refine gate_guard (by rfl) ?_; dsimp only)); refine box_event ?hg (N := 1) ?hd (cs := #[.int .i64 a0_0, .slice A0_1 l0_1.length c0_1]) (t := 33) ?hr ?_; (case hd => rfl); (case hg => rfl); (case hr => first | (go_simp; done) | (go_simp; rfl)); intro gb206 hg w15 hbox hb; have BK206 := Aside0.mk (hbox); have GW206 := gS HB hg; have GE206 := gS HB hg; replace HB := hS HB hb; clear hb hbox hg; have hcz16_0 := cz BK206 0; have hcz16_1 := cz BK206 1; have hfz16_0 := fz BK206 0; have hfz16_1 := fz BK206 1) | ((with_reducible refine gate_callee (f := 38) rfl ?_); refine goC (N := some 8) Tryd.func38 #[.agg #[.int .i64 a0_0, .slice A0_1 l0_1.length c0_1]] rfl ?_; (with_reducible refine (impl_MostInPairs.calls k a0_0 _ _ l0_1 t207 false _ ?side1 ?side2 A2.out).mono ?_); (case side1 => exact cS (Kd.C_below HR0_1.out HB.out)); (case side2 => exact HC0_1.out); rintro e w17 ⟨v208, rfl, ho0, hb⟩; refine ⟨_, rfl, ?_⟩; have HO209 := Aside0.mk (Kd.R_lower ho0 (below_size hB)); replace BK206 := bS BK206 hb; replace HB := hS HB hb; (try clear hb); (try clear hb2); (try clear hk); (try clear hi); (try clear ho0)))
  go_ret2
  exact ⟨_, by first | rfl | (simp [errW_none, errW_some] <;> rfl) | (simp [*, errW_none, errW_some] <;> rfl), by first | exact Kd.R_nil _ _ _ _ _ | exact Kd.N_nil _ _ _ _ _ | exact Kd.V_nil _ _ _ _ _ | exact Kd.Q_nil _ _ _ _ _ | exact Kd.S_nil _ _ _ _ _, hB⟩

/-! ### laws_heldPairS: function 36 -/
def laws_heldPairS.l0 : Nat → List (S105) → Int → Int → Option (Int)
 | 0, _, _, _ => none
 | k + 1, x0, x1, x5 => if x5 < (x0.length : Int) then (if 0 ≤ x5 then (if ((rd_T105 x0 x5).f0) = x1 then (if ((rd_T105 x0 x5).f1) = (wrap64 (x1 + 1)) then (laws_heldPairS.l0 k x0 (wrap64 ((wrap64 (x1 + 1)) + 1)) (wrap64 (x5 + 1))) else (some (-1))) else (some (-1))) else (none)) else (some x1)
def laws_heldPairS.f (k : Nat) (l0 : List (S105)) (a1 : Int) : Option (Int) := laws_heldPairS.l0 k l0 a1 0
theorem laws_heldPairS.mono_l : ∀ k, (∀ y0 y1 y2, LeO (laws_heldPairS.l0 k y0 y1 y2) (laws_heldPairS.l0 (k + 1) y0 y1 y2))
 | 0 => fun _ _ _ r h => by simp [laws_heldPairS.l0] at h
 | k + 1 => by
  have ih0 := laws_heldPairS.mono_l k
  ·intro y0 y1 y2
   unfold laws_heldPairS.l0
   repeat' first
   | (with_reducible exact ih0 _ _ _)
   | (with_reducible exact LeO.refl _)
   | (with_reducible exact LeO.none _)
   | (with_reducible refine LeO.ite ?_ ?_)
   | (with_reducible refine LeO.bind ?_ (fun _ => ?_))
   | exact ih0 _ _ _
   | exact LeO.none _
   | refine LeO.ite ?_ ?_
   | refine LeO.bind ?_ (fun _ => ?_)
theorem laws_heldPairS.mono : ∀ a0 a1 k, LeO (laws_heldPairS.f k a0 a1) (laws_heldPairS.f (k + 1) a0 a1) := by
 intro a0 a1 k
 have ih0 := laws_heldPairS.mono_l k
 unfold laws_heldPairS.f
 repeat' first
   | (with_reducible exact ih0 _ _ _)
   | (with_reducible exact LeO.refl _)
   | (with_reducible exact LeO.none _)
   | (with_reducible refine LeO.ite ?_ ?_)
   | (with_reducible refine LeO.bind ?_ (fun _ => ?_))
   | exact ih0 _ _ _
   | exact LeO.none _
   | refine LeO.ite ?_ ?_
   | refine LeO.bind ?_ (fun _ => ?_)
set_option maxHeartbeats 8000000 in
set_option maxRecDepth 100000 in
theorem laws_heldPairS.calls (k : Nat) (A0 : Option Addr) (c0 : Nat) (l0 : List (S105)) (a1 : Int) (r : Int) (w : World) (hr0 : Kd.C k105 w A0 l0.length l0) (hc0 : l0.length ≤ c0) (h : laws_heldPairS.f k l0 a1 = some r) :
  Calls Tryd.prog 36 #[.slice A0 l0.length c0, .int .i64 a1] w fun e w' => e = .returned (.int .i64 r) ∧ Drawn0 w w' := by
 have HR0 := Aside0.mk hr0
 have HC0 := Aside0.mk hc0
 clear hr0 hc0
 have H : (laws_heldPairS.l0 k l0 a1 0) = some r := h
 clear h
 have H' := Aside0.mk H
 clear H
 go_enter Tryd.func36, Tryd.ntmps36
 go_wp2
 go_loopg [1, 5] k (fun kq v1 v5 w' => ∃ (x1_1 : Int) (x5_1 : Int), v1 = .int .i64 x1_1 ∧ v5 = .int .i64 x5_1 ∧ Aside0 (laws_heldPairS.l0 kq l0 x1_1 x5_1 = some r) ∧ Aside0 (kq ≤ k) ∧ Drawn0 w w')
 case atStart => exact ⟨(a1), (0), (by first | rfl | (simp; done) | (simp [*]; done)), (by first | rfl | (simp; done) | (simp [*]; done)), H', ⟨Nat.le_refl _⟩, by repeat (first | exact Drawn0.refl _ | apply Drawn0.step)⟩
 case round =>
  clear H'
  try clear p2
  obtain ⟨x1_1, x5_1, rfl, rfl, HA, HK1, ⟨m1, rfl⟩⟩ := hrel
  cases gk with
  | zero => exact absurd HA.out (by simp [laws_heldPairS.l0])
  | succ k1 =>
   have H := HA.out
   clear HA
   simp only [laws_heldPairS.l0] at H
   by_cases c3 : x5_1 < (l0.length : Int)
   ·rw [if_pos c3] at H
    have c3b0 : decide (x5_1 < (l0.length : Int)) = true := decide_eq_true c3
    clear c3
    by_cases c4 : 0 ≤ x5_1
    ·rw [if_pos c4] at H
     have c4b0 : decide (0 ≤ x5_1) = true := decide_eq_true c4
     clear c4
     by_cases c5 : ((rd_T105 l0 x5_1).f0) = x1_1
     ·rw [if_pos c5] at H
      have c5b0 : (((rd_T105 l0 x5_1).f0) == x1_1) = true := beq_iff_eq.mpr c5
      have c5b1 : (((rd_T105 l0 x5_1).f0) != x1_1) = false := bne_eq_false_iff_eq.mpr c5
      clear c5
      by_cases c6 : ((rd_T105 l0 x5_1).f1) = (wrap64 (x1_1 + 1))
      ·rw [if_pos c6] at H
       have c6b0 : (((rd_T105 l0 x5_1).f1) == (wrap64 (x1_1 + 1))) = true := beq_iff_eq.mpr c6
       have c6b1 : (((rd_T105 l0 x5_1).f1) != (wrap64 (x1_1 + 1))) = false := bne_eq_false_iff_eq.mpr c6
       clear c6
       have H' := Aside0.mk H
       clear H
       have p211 : 0 ≤ (x5_1 : Int) := of_decide_eq_true (by first | (with_reducible assumption) | assumption)
       have q211 : x5_1 < (l0.length : Int) := of_decide_eq_true (by first | (with_reducible assumption) | assumption)
       obtain ⟨ad211, e211, hx211_0, hx211_1⟩ := at_T105 HR0.out x5_1 p211 q211
       cases e211
       replace p211 := eq_true p211
       replace q211 := eq_true q211
       have p212 : 0 ≤ (x5_1 : Int) := of_decide_eq_true (by first | (with_reducible assumption) | assumption)
       have q212 : x5_1 < (l0.length : Int) := of_decide_eq_true (by first | (with_reducible assumption) | assumption)
       obtain ⟨ad212, e212, hx212_0, hx212_1⟩ := at_T105 HR0.out x5_1 p212 q212
       obtain rfl : ad211 = ad212 := (by injection e212)
       replace p212 := eq_true p212
       replace q212 := eq_true q212
       go_wp2
       go_roundg k1
       case measure => have := HK1.out; omega
       case rel => exact ⟨(wrap64 ((wrap64 (x1_1 + 1)) + 1)), (wrap64 (x5_1 + 1)), (by first | rfl | (simp; done) | (simp [*]; done)), (by first | rfl | (simp; done) | (simp [*]; done)), H', ⟨by have := HK1.out; omega⟩, by repeat (first | exact Drawn0.refl _ | apply Drawn0.step)⟩
      ·rw [if_neg c6] at H
       have c6b0 : (((rd_T105 l0 x5_1).f1) == (wrap64 (x1_1 + 1))) = false := beq_eq_false_iff_ne.mpr c6
       have c6b1 : (((rd_T105 l0 x5_1).f1) != (wrap64 (x1_1 + 1))) = true := bne_iff_ne.mpr c6
       obtain rfl := Option.some.inj H
       have p211 : 0 ≤ (x5_1 : Int) := of_decide_eq_true (by first | (with_reducible assumption) | assumption)
       have q211 : x5_1 < (l0.length : Int) := of_decide_eq_true (by first | (with_reducible assumption) | assumption)
       obtain ⟨ad211, e211, hx211_0, hx211_1⟩ := at_T105 HR0.out x5_1 p211 q211
       cases e211
       replace p211 := eq_true p211
       replace q211 := eq_true q211
       have p212 : 0 ≤ (x5_1 : Int) := of_decide_eq_true (by first | (with_reducible assumption) | assumption)
       have q212 : x5_1 < (l0.length : Int) := of_decide_eq_true (by first | (with_reducible assumption) | assumption)
       obtain ⟨ad212, e212, hx212_0, hx212_1⟩ := at_T105 HR0.out x5_1 p212 q212
       obtain rfl : ad211 = ad212 := (by injection e212)
       replace p212 := eq_true p212
       replace q212 := eq_true q212
       go_wp2
       go_ret
       exact ⟨by first | rfl | (simp; done) | (simp [*]; done), by repeat (first | exact Drawn0.refl _ | apply Drawn0.step)⟩
     ·rw [if_neg c5] at H
      have c5b0 : (((rd_T105 l0 x5_1).f0) == x1_1) = false := beq_eq_false_iff_ne.mpr c5
      have c5b1 : (((rd_T105 l0 x5_1).f0) != x1_1) = true := bne_iff_ne.mpr c5
      obtain rfl := Option.some.inj H
      have p211 : 0 ≤ (x5_1 : Int) := of_decide_eq_true (by first | (with_reducible assumption) | assumption)
      have q211 : x5_1 < (l0.length : Int) := of_decide_eq_true (by first | (with_reducible assumption) | assumption)
      obtain ⟨ad211, e211, hx211_0, hx211_1⟩ := at_T105 HR0.out x5_1 p211 q211
      cases e211
      replace p211 := eq_true p211
      replace q211 := eq_true q211
      go_wp2
      go_ret
      exact ⟨by first | rfl | (simp; done) | (simp [*]; done), by repeat (first | exact Drawn0.refl _ | apply Drawn0.step)⟩
    ·rw [if_neg c4] at H
     exact absurd H (by simp)
   ·rw [if_neg c3] at H
    have c3b0 : decide (x5_1 < (l0.length : Int)) = false := decide_eq_false c3
    clear c3
    obtain rfl := Option.some.inj H
    go_wp2
    go_ret
    exact ⟨by first | rfl | (simp; done) | (simp [*]; done), by repeat (first | exact Drawn0.refl _ | apply Drawn0.step)⟩

/-! ### laws_FnExactFirstPairing: function 7 -/
def laws_FnExactFirstPairing.f (k : Nat) (a0_0 : Int) (l0_1 : List (S118)) : Option (Bool) := (laws_szParty.f a0_0 l0_1 1048576).bind fun t214 => (if t214 < 0 then (some true) else ((laws_toParty.f k a0_0 l0_1).bind fun bt215 => ((spec_FirstPairing.f k bt215.1 bt215.2).bind fun bt219 => ((laws_toParty.f k a0_0 l0_1).bind fun bt223 => ((impl_FirstPairing.f k bt223.1 bt223.2).bind fun bt228 => ((laws_eqPairS.f k bt228.1 bt219.1).bind fun t232 => (if t232 = true then (if (bt228.2 != bt219.2) = true then (none) else ((laws_toParty.f k a0_0 l0_1).bind fun bt233 => ((laws_eqParty.f k bt223.1 bt223.2 bt233.1 bt233.2).bind fun t237 => (if t237 = true then ((laws_markParty.f k bt223.1 bt223.2 1).bind fun bt238 => (if bt238.1 < 0 then (none) else ((laws_eqPairS.f k bt228.1 bt219.1).bind fun t240 => (if t240 = true then ((laws_markPairS.f k bt228.1 1).bind fun bt241 => ((laws_heldPairS.f k bt241.2 1).bind fun t243 => (if t243 < 0 then (none) else (if t243 = bt241.1 then ((laws_toParty.f k a0_0 l0_1).bind fun bt244 => ((impl_FirstPairing.f k bt244.1 bt244.2).bind fun bt248 => ((laws_eqPairS.f k bt248.1 bt219.1).bind fun t252 => (if t252 = true then (if (bt248.2 != bt219.2) = true then (none) else ((laws_heldPairS.f k bt241.2 1).bind fun t253 => (if t253 < 0 then (none) else (if t253 = bt241.1 then (some true) else (none))))) else (none))))) else (none))))) else (none))))) else (none))))) else (none))))))))
theorem laws_FnExactFirstPairing.mono : ∀ a0 a1 k, LeO (laws_FnExactFirstPairing.f k a0 a1) (laws_FnExactFirstPairing.f (k + 1) a0 a1) := by
 intro a0 a1 k
 unfold laws_FnExactFirstPairing.f
 repeat' first
   | (with_reducible exact impl_FirstPairing.mono _ _ _)
   | (with_reducible exact laws_eqPairS.mono _ _ _)
   | (with_reducible exact laws_eqParty.mono _ _ _ _ _)
   | (with_reducible exact laws_heldPairS.mono _ _ _)
   | (with_reducible exact laws_markPairS.mono _ _ _)
   | (with_reducible exact laws_markParty.mono _ _ _ _)
   | (with_reducible exact laws_toParty.mono _ _ _)
   | (with_reducible exact spec_FirstPairing.mono _ _ _)
   | (with_reducible exact LeO.refl _)
   | (with_reducible exact LeO.none _)
   | (with_reducible refine LeO.ite ?_ ?_)
   | (with_reducible refine LeO.bind ?_ (fun _ => ?_))
   | exact impl_FirstPairing.mono _ _ _
   | exact laws_eqPairS.mono _ _ _
   | exact laws_eqParty.mono _ _ _ _ _
   | exact laws_heldPairS.mono _ _ _
   | exact laws_markPairS.mono _ _ _
   | exact laws_markParty.mono _ _ _ _
   | exact laws_toParty.mono _ _ _
   | exact spec_FirstPairing.mono _ _ _
   | exact LeO.none _
   | refine LeO.ite ?_ ?_
   | refine LeO.bind ?_ (fun _ => ?_)
set_option maxHeartbeats 8000000 in
set_option maxRecDepth 100000 in
theorem laws_FnExactFirstPairing.calls (k : Nat) (a0_0 : Int) (A0_1 : Option Addr) (c0_1 : Nat) (l0_1 : List (S118)) (r : Bool) (w : World) (hr0_1 : Kd.C k118 w A0_1 l0_1.length l0_1) (hc0_1 : l0_1.length ≤ c0_1) (h : laws_FnExactFirstPairing.f k a0_0 l0_1 = some r) (hG : GTab 0 w := by first | exact Aside0.out ‹Aside0 (GTab _ _)› | exact GTab.up (Aside0.out ‹Aside0 (GTab _ _)›) (by repeat (first | (with_reducible first | exact Below.refl _ _ | exact Aside0.out ‹Aside0 (Below _ _ _)› | apply below_alloc | apply pw_below_drewN | apply below_drew1 | refine below_set ?_ (Aside0.out (by assumption))) | exact Aside0.out ‹Aside0 (Below _ _ _)›))) :
  Calls Tryd.prog 7 #[.agg #[.int .i64 a0_0, .slice A0_1 l0_1.length c0_1]] w fun e w' => e = .returned (.bool r) ∧ Below w.heap.size w w' := by
 have hu24 := Tryd.underlying24
 have hu33 := Tryd.underlying33
 have HG := Aside0.mk (p := GTab _ _) hG
 clear hG
 have HR0_1 := Aside0.mk hr0_1
 have HC0_1 := Aside0.mk hc0_1
 clear hr0_1 hc0_1
 have HB := Aside0.mk (Below.refl w.heap.size w)
 have H : ((laws_szParty.f a0_0 l0_1 1048576).bind fun t214 => (if t214 < 0 then (some true) else ((laws_toParty.f k a0_0 l0_1).bind fun bt215 => ((spec_FirstPairing.f k bt215.1 bt215.2).bind fun bt219 => ((laws_toParty.f k a0_0 l0_1).bind fun bt223 => ((impl_FirstPairing.f k bt223.1 bt223.2).bind fun bt228 => ((laws_eqPairS.f k bt228.1 bt219.1).bind fun t232 => (if t232 = true then (if (bt228.2 != bt219.2) = true then (none) else ((laws_toParty.f k a0_0 l0_1).bind fun bt233 => ((laws_eqParty.f k bt223.1 bt223.2 bt233.1 bt233.2).bind fun t237 => (if t237 = true then ((laws_markParty.f k bt223.1 bt223.2 1).bind fun bt238 => (if bt238.1 < 0 then (none) else ((laws_eqPairS.f k bt228.1 bt219.1).bind fun t240 => (if t240 = true then ((laws_markPairS.f k bt228.1 1).bind fun bt241 => ((laws_heldPairS.f k bt241.2 1).bind fun t243 => (if t243 < 0 then (none) else (if t243 = bt241.1 then ((laws_toParty.f k a0_0 l0_1).bind fun bt244 => ((impl_FirstPairing.f k bt244.1 bt244.2).bind fun bt248 => ((laws_eqPairS.f k bt248.1 bt219.1).bind fun t252 => (if t252 = true then (if (bt248.2 != bt219.2) = true then (none) else ((laws_heldPairS.f k bt241.2 1).bind fun t253 => (if t253 < 0 then (none) else (if t253 = bt241.1 then (some true) else (none))))) else (none))))) else (none))))) else (none))))) else (none))))) else (none))))))))) = some r := h
 clear h
 replace H := Option.bind_eq_some_iff.mp H
 obtain ⟨t214, A20, H⟩ := H
 try dsimp only at H
 have A2 := Aside0.mk A20
 clear A20
 by_cases c3 : t214 < 0
 ·rw [if_pos c3] at H
  have c3b0 : decide (t214 < 0) = true := decide_eq_true c3
  clear c3
  obtain rfl := Option.some.inj H
  go_enter Tryd.func7, Tryd.ntmps7
  go_wp2_with (first | ((with_reducible refine gate_dst (N := 1) rfl ?_); refine bxE 1 #[.int .i64 a0_0, .slice A0_1 l0_1.length c0_1] 24 rfl ?_; intro gb213 hg w4 hbox hb; have BK213 := Aside0.mk (hbox); have GW213 := gS HB hg; have GE213 := gS HB hg; replace HB := hS HB hb; clear hb hbox hg; have hcz5_0 := cz BK213 0; have hcz5_1 := cz BK213 1; have hfz5_0 := fz BK213 0; have hfz5_1 := fz BK213 1) | ((with_reducible refine gate_callee (f := 12) rfl ?_); refine goC (N := some 16) Tryd.func12 #[.agg #[.int .i64 a0_0, .slice A0_1 l0_1.length c0_1], .int .i64 1048576] rfl ?_; (with_reducible refine (laws_szParty.calls a0_0 _ _ l0_1 1048576 t214 _ ?side1 ?side2 A2.out).mono ?_); (case side1 => exact cS (Kd.C_below HR0_1.out HB.out)); (case side2 => exact HC0_1.out); rintro e w6 ⟨rfl, hb⟩; refine ⟨_, rfl, ?_⟩; replace BK213 := bS BK213 hb; replace HB := hS HB hb; (try clear hb); (try clear hb2); (try clear hk); (try clear hi)))
  go_ret
  exact ⟨by first | rfl | (simp [errW_none, errW_some] <;> rfl) | (simp [*, errW_none, errW_some] <;> rfl), hB⟩
 ·rw [if_neg c3] at H
  have c3b0 : decide (t214 < 0) = false := decide_eq_false c3
  clear c3
  replace H := Option.bind_eq_some_iff.mp H
  obtain ⟨⟨t215, t216⟩, A70, H⟩ := H
  try dsimp only at H
  have A7 := Aside0.mk A70
  clear A70
  replace H := Option.bind_eq_some_iff.mp H
  obtain ⟨⟨t219, t222⟩, A80, H⟩ := H
  try dsimp only at H
  have A8 := Aside0.mk A80
  clear A80
  replace H := Option.bind_eq_some_iff.mp H
  obtain ⟨⟨t223, t224⟩, A90, H⟩ := H
  try dsimp only at H
  have A9 := Aside0.mk A90
  clear A90
  replace H := Option.bind_eq_some_iff.mp H
  obtain ⟨⟨t228, t231⟩, A100, H⟩ := H
  try dsimp only at H
  have A10 := Aside0.mk A100
  clear A100
  replace H := Option.bind_eq_some_iff.mp H
  obtain ⟨t232, A110, H⟩ := H
  try dsimp only at H
  have A11 := Aside0.mk A110
  clear A110
  by_cases c12 : t232 = true
  ·subst c12
   rw [if_pos rfl] at H
   by_cases c13 : (t231 != t222) = true
   ·rw [if_pos c13] at H
    exact absurd H (by simp)
   ·rw [if_neg c13] at H
    have c13b0 : (t231 != t222) = false := by simpa using c13
    (try (have c13b1 : decide (t231 = t222) = true := by simpa using c13))
    (try (have c13b2 : (t231 == t222) = true := by simpa using c13))
    clear c13
    replace H := Option.bind_eq_some_iff.mp H
    obtain ⟨⟨t233, t234⟩, A140, H⟩ := H
    try dsimp only at H
    have A14 := Aside0.mk A140
    clear A140
    replace H := Option.bind_eq_some_iff.mp H
    obtain ⟨t237, A150, H⟩ := H
    try dsimp only at H
    have A15 := Aside0.mk A150
    clear A150
    by_cases c16 : t237 = true
    ·subst c16
     rw [if_pos rfl] at H
     replace H := Option.bind_eq_some_iff.mp H
     obtain ⟨⟨t238, t239⟩, A170, H⟩ := H
     try dsimp only at H
     have A17 := Aside0.mk A170
     clear A170
     by_cases c18 : t238 < 0
     ·rw [if_pos c18] at H
      exact absurd H (by simp)
     ·rw [if_neg c18] at H
      have c18b0 : decide (t238 < 0) = false := decide_eq_false c18
      clear c18
      replace H := Option.bind_eq_some_iff.mp H
      obtain ⟨t240, A190, H⟩ := H
      try dsimp only at H
      have A19 := Aside0.mk A190
      clear A190
      by_cases c20 : t240 = true
      ·subst c20
       rw [if_pos rfl] at H
       replace H := Option.bind_eq_some_iff.mp H
       obtain ⟨⟨t241, t242⟩, A210, H⟩ := H
       try dsimp only at H
       have A21 := Aside0.mk A210
       clear A210
       replace H := Option.bind_eq_some_iff.mp H
       obtain ⟨t243, A220, H⟩ := H
       try dsimp only at H
       have A22 := Aside0.mk A220
       clear A220
       by_cases c23 : t243 < 0
       ·rw [if_pos c23] at H
        exact absurd H (by simp)
       ·rw [if_neg c23] at H
        have c23b0 : decide (t243 < 0) = false := decide_eq_false c23
        clear c23
        by_cases c24 : t243 = t241
        ·rw [if_pos c24] at H
         have c24b0 : (t243 == t241) = true := beq_iff_eq.mpr c24
         have c24b1 : (t243 != t241) = false := bne_eq_false_iff_eq.mpr c24
         clear c24
         replace H := Option.bind_eq_some_iff.mp H
         obtain ⟨⟨t244, t245⟩, A250, H⟩ := H
         try dsimp only at H
         have A25 := Aside0.mk A250
         clear A250
         replace H := Option.bind_eq_some_iff.mp H
         obtain ⟨⟨t248, t251⟩, A260, H⟩ := H
         try dsimp only at H
         have A26 := Aside0.mk A260
         clear A260
         replace H := Option.bind_eq_some_iff.mp H
         obtain ⟨t252, A270, H⟩ := H
         try dsimp only at H
         have A27 := Aside0.mk A270
         clear A270
         by_cases c28 : t252 = true
         ·subst c28
          rw [if_pos rfl] at H
          by_cases c29 : (t251 != t222) = true
          ·rw [if_pos c29] at H
           exact absurd H (by simp)
          ·rw [if_neg c29] at H
           have c29b0 : (t251 != t222) = false := by simpa using c29
           (try (have c29b1 : decide (t251 = t222) = true := by simpa using c29))
           (try (have c29b2 : (t251 == t222) = true := by simpa using c29))
           clear c29
           replace H := Option.bind_eq_some_iff.mp H
           obtain ⟨t253, A300, H⟩ := H
           try dsimp only at H
           have A30 := Aside0.mk A300
           clear A300
           by_cases c31 : t253 < 0
           ·rw [if_pos c31] at H
            exact absurd H (by simp)
           ·rw [if_neg c31] at H
            have c31b0 : decide (t253 < 0) = false := decide_eq_false c31
            clear c31
            by_cases c32 : t253 = t241
            ·rw [if_pos c32] at H
             have c32b0 : (t253 == t241) = true := beq_iff_eq.mpr c32
             have c32b1 : (t253 != t241) = false := bne_eq_false_iff_eq.mpr c32
             clear c32
             obtain rfl := Option.some.inj H
             go_enter Tryd.func7, Tryd.ntmps7
             try go_wp2_with (first | ((with_reducible refine gate_dst (N := 1) rfl ?_); refine bxE 1 #[.int .i64 a0_0, .slice A0_1 l0_1.length c0_1] 24 rfl ?_; intro gb213 hg w33 hbox hb; have BK213 := Aside0.mk (hbox); have GW213 := gS HB hg; have GE213 := gS HB hg; replace HB := hS HB hb; clear hb hbox hg; have hcz34_0 := cz BK213 0; have hcz34_1 := cz BK213 1; have hfz34_0 := fz BK213 0; have hfz34_1 := fz BK213 1) | ((with_reducible refine gate_callee (f := 12) rfl ?_); refine goC (N := some 16) Tryd.func12 #[.agg #[.int .i64 a0_0, .slice A0_1 l0_1.length c0_1], .int .i64 1048576] rfl ?_; (with_reducible refine (laws_szParty.calls a0_0 _ _ l0_1 1048576 t214 _ ?side1 ?side2 A2.out).mono ?_); (case side1 => exact cS (Kd.C_below HR0_1.out HB.out)); (case side2 => exact HC0_1.out); rintro e w35 ⟨rfl, hb⟩; refine ⟨_, rfl, ?_⟩; replace BK213 := bS BK213 hb; replace HB := hS HB hb; (try clear hb); (try clear hb2); (try clear hk); (try clear hi); have hcz36_0 := cz BK213 0; have hcz36_1 := cz BK213 1; have hfz36_0 := fz BK213 0; have hfz36_1 := fz BK213 1) | ((with_reducible refine gate_callee (f := 14) rfl ?_); refine goC (N := some 21) Tryd.func14 #[.agg #[.int .i64 a0_0, .slice A0_1 l0_1.length c0_1]] rfl ?_; (with_reducible refine (laws_toParty.calls k a0_0 _ _ l0_1 t215 t216 _ ?side1 ?side2 A7.out).mono ?_); (case side1 => exact cS (Kd.C_below HR0_1.out HB.out)); (case side2 => exact HC0_1.out); rintro e w37 ⟨v217, rfl, ho0, hb⟩; refine ⟨_, rfl, ?_⟩; have HO218 := Aside0.mk (Kd.R_lower ho0 (below_size hB)); replace BK213 := bS BK213 hb; replace HB := hS HB hb; (try clear hb); (try clear hb2); (try clear hk); (try clear hi); (try clear ho0); obtain ⟨Ao38, co38, eo38⟩ := Kd.R_slice HO218.out; subst eo38) | ((with_reducible refine gate_callee (f := 32) rfl ?_); refine goC (N := some 22) Tryd.func32 #[.agg #[.int .i64 t215, .slice Ao38 t216.length co38]] rfl ?_; (with_reducible refine (spec_FirstPairing.calls k t215 _ _ t216 t219 t222 _ ?side1 ?side2 A8.out).mono ?_); (case side1 => exact cS (Kd.R_reads' HO218.out).2.2); (case side2 => exact (Kd.R_reads' HO218.out).2.1); rintro e w39 ⟨v220, rfl, ho0, hb⟩; refine ⟨_, rfl, ?_⟩; have HO221 := Aside0.mk (Kd.R_lower (Kd.R_new' ho0 (Kd.R_lt (rU HO218))) (below_size hB)); replace HO218 := Aside0.mk (Kd.R_elder' (rU HO218) (Kd.R_base ho0) hb); replace BK213 := bS BK213 hb; replace HB := hS HB hb; (try clear hb); (try clear hb2); (try clear hk); (try clear hi); (try clear ho0); have hcz40_0 := cz BK213 0; have hcz40_1 := cz BK213 1; have hfz40_0 := fz BK213 0; have hfz40_1 := fz BK213 1) | ((with_reducible refine gate_callee (f := 14) rfl ?_); refine goC (N := some 26) Tryd.func14 #[.agg #[.int .i64 a0_0, .slice A0_1 l0_1.length c0_1]] rfl ?_; (with_reducible refine (laws_toParty.calls k a0_0 _ _ l0_1 t223 t224 _ ?side1 ?side2 A9.out).mono ?_); (case side1 => exact cS (Kd.C_below HR0_1.out HB.out)); (case side2 => exact HC0_1.out); rintro e w41 ⟨v225, rfl, ho0, hb⟩; refine ⟨_, rfl, ?_⟩; have HO226 := Aside0.mk (Kd.R_lower (Kd.R_new' (Kd.R_new' ho0 (Kd.R_lt (rU HO218))) (Kd.R_lt (rU HO221))) (below_size hB)); replace HO218 := Aside0.mk (Kd.R_elder' (rU HO218) (Kd.R_base ho0) hb); replace HO221 := Aside0.mk (Kd.R_elder' (rU HO221) (Kd.R_base ho0) hb); replace BK213 := bS BK213 hb; replace HB := hS HB hb; (try clear hb); (try clear hb2); (try clear hk); (try clear hi); (try clear ho0)) | ((with_reducible refine gate_dst (N := 6) rfl ?_); refine bxE 6 #[.int .i64 0, .slice none 0 0] 33 rfl ?_; intro gb227 hg w42 hbox hb; have BK227 := Aside0.mk (hbox); have GW227 := gS HB hg; have GE227 := gS HB hg; have NB213_227 := nL BK213 hg; have NB227_213 := nG BK213 hg; replace HO218 := Aside0.mk (Kd.R_below (rU HO218) hb); replace HO221 := Aside0.mk (Kd.R_below (rU HO221) hb); replace HO226 := Aside0.mk (Kd.R_below (rU HO226) hb); replace BK213 := bS BK213 hb; replace HB := hS HB hb; clear hb hbox hg; have hnb43 := NB227_213.out; have hnc43 := NB213_227.out; have hcz44_0 := cz BK227 0; have hcz44_1 := cz BK227 1; have hfz44_0 := fz BK227 0; have hfz44_1 := fz BK227 1; obtain ⟨Ao45, co45, eo45⟩ := Kd.R_slice HO226.out; subst eo45) | ((with_reducible refine gate_callee (f := 33) rfl ?_); refine goC (N := some 29) Tryd.func33 #[.agg #[.int .i64 t223, .slice Ao45 t224.length co45]] rfl ?_; (with_reducible refine (impl_FirstPairing.calls k t223 _ _ t224 t228 t231 _ ?side1 ?side2 A10.out).mono ?_); (case side1 => refine (Kd.R_reads' (e := 105) (base := w.heap.size) (ok := fun k_ => ((True ∧ some k_ ≠ (.slice Ao38 t216.length co38 : Value).ownBlock) ∧ some k_ ≠ (v220 : Value).ownBlock)) (n := t224.length) (c := co45) ?_).2.2; exact (by (with_reducible repeat (first | apply Kd.R_alloc | apply Kd.R_drewN | apply Kd.R_drew)); exact (Kd.R_mono (Kd.R_far (p := ⟨gb227, 1, none⟩) (Kd.R_far (p := ⟨gb227, 0, none⟩) (Kd.R_types HO226.out BK227.out (by decide)) (fun _ hk => hk.2) (.int .i64 t223)) (fun _ hk => hk.2) (.slice Ao45 t224.length co45)) (fun _ h_ => h_.1)))); (case side2 => exact (Kd.R_reads' HO226.out).2.1); rintro e w46 ⟨v229, rfl, ho0, hb⟩; refine ⟨_, rfl, ?_⟩; have HO230 := Aside0.mk (Kd.R_lower (Kd.R_new' (Kd.R_new' (Kd.R_new' ho0 (Kd.R_lt (by (with_reducible repeat (first | apply Kd.R_alloc | apply Kd.R_drewN | apply Kd.R_drew)); exact (Kd.R_mono (Kd.R_far (p := ⟨gb227, 1, none⟩) (Kd.R_far (p := ⟨gb227, 0, none⟩) (Kd.R_types HO218.out BK227.out (by decide)) (fun _ hk => hk.2) (.int .i64 t223)) (fun _ hk => hk.2) (.slice Ao45 t224.length co45)) (fun _ h_ => h_.1))))) (Kd.R_lt (by (with_reducible repeat (first | apply Kd.R_alloc | apply Kd.R_drewN | apply Kd.R_drew)); exact (Kd.R_mono (Kd.R_far (p := ⟨gb227, 1, none⟩) (Kd.R_far (p := ⟨gb227, 0, none⟩) (Kd.R_types HO221.out BK227.out (by decide)) (fun _ hk => hk.2) (.int .i64 t223)) (fun _ hk => hk.2) (.slice Ao45 t224.length co45)) (fun _ h_ => h_.1))))) (Kd.R_lt (by (with_reducible repeat (first | apply Kd.R_alloc | apply Kd.R_drewN | apply Kd.R_drew)); exact (Kd.R_mono (Kd.R_far (p := ⟨gb227, 1, none⟩) (Kd.R_far (p := ⟨gb227, 0, none⟩) (Kd.R_types HO226.out BK227.out (by decide)) (fun _ hk => hk.2) (.int .i64 t223)) (fun _ hk => hk.2) (.slice Ao45 t224.length co45)) (fun _ h_ => h_.1))))) (below_size hB)); replace HO218 := Aside0.mk (Kd.R_elder' (by (with_reducible repeat (first | apply Kd.R_alloc | apply Kd.R_drewN | apply Kd.R_drew)); exact (Kd.R_mono (Kd.R_far (p := ⟨gb227, 1, none⟩) (Kd.R_far (p := ⟨gb227, 0, none⟩) (Kd.R_types HO218.out BK227.out (by decide)) (fun _ hk => hk.2) (.int .i64 t223)) (fun _ hk => hk.2) (.slice Ao45 t224.length co45)) (fun _ h_ => h_.1))) (Kd.R_base ho0) hb); replace HO221 := Aside0.mk (Kd.R_elder' (by (with_reducible repeat (first | apply Kd.R_alloc | apply Kd.R_drewN | apply Kd.R_drew)); exact (Kd.R_mono (Kd.R_far (p := ⟨gb227, 1, none⟩) (Kd.R_far (p := ⟨gb227, 0, none⟩) (Kd.R_types HO221.out BK227.out (by decide)) (fun _ hk => hk.2) (.int .i64 t223)) (fun _ hk => hk.2) (.slice Ao45 t224.length co45)) (fun _ h_ => h_.1))) (Kd.R_base ho0) hb); replace HO226 := Aside0.mk (Kd.R_elder' (by (with_reducible repeat (first | apply Kd.R_alloc | apply Kd.R_drewN | apply Kd.R_drew)); exact (Kd.R_mono (Kd.R_far (p := ⟨gb227, 1, none⟩) (Kd.R_far (p := ⟨gb227, 0, none⟩) (Kd.R_types HO226.out BK227.out (by decide)) (fun _ hk => hk.2) (.int .i64 t223)) (fun _ hk => hk.2) (.slice Ao45 t224.length co45)) (fun _ h_ => h_.1))) (Kd.R_base ho0) hb); replace BK213 := Aside0.mk (blk_below (g := gb213) (o := .cells #[.int .i64 a0_0, .slice A0_1 l0_1.length c0_1] 24 (0, 0)) (by (with_reducible repeat (first | refine blk_drewN ?_ _ | refine blk_drew ?_ | refine blk_alloc ?_ _)); refine blk_far ?_ NB213_227.out _; (with_reducible repeat (first | refine blk_drewN ?_ _ | refine blk_drew ?_ | refine blk_alloc ?_ _)); refine blk_far ?_ NB213_227.out _; (with_reducible repeat (first | refine blk_drewN ?_ _ | refine blk_drew ?_ | refine blk_alloc ?_ _)); exact BK213.out) hb); replace BK227 := Aside0.mk (blk_below (g := gb227) (o := .cells #[.int .i64 t223, .slice Ao45 t224.length co45] 33 (0, 0)) (by (with_reducible repeat (first | refine blk_drewN ?_ _ | refine blk_drew ?_ | refine blk_alloc ?_ _)); refine blk_put (cs := #[.int .i64 t223, .slice none 0 0]) ?_ 1 _ rfl; (with_reducible repeat (first | refine blk_drewN ?_ _ | refine blk_drew ?_ | refine blk_alloc ?_ _)); refine blk_put (cs := #[.int .i64 0, .slice none 0 0]) ?_ 0 _ rfl; (with_reducible repeat (first | refine blk_drewN ?_ _ | refine blk_drew ?_ | refine blk_alloc ?_ _)); exact BK227.out) hb); replace HB := hS HB hb; (try clear hb); (try clear hb2); (try clear hk); (try clear hi); (try clear ho0); obtain ⟨Ao47, co47, eo47⟩ := Kd.R_slice HO230.out; subst eo47; obtain ⟨Ao48, co48, eo48⟩ := Kd.R_slice HO221.out; subst eo48) | ((with_reducible refine gate_callee (f := 34) rfl ?_); refine goC (N := some 34) Tryd.func34 #[.slice Ao47 t228.length co47, .slice Ao48 t219.length co48] rfl ?_; (with_reducible refine (laws_eqPairS.calls k _ _ t228 _ _ t219 true _ ?side1 ?side2 ?side3 ?side4 A11.out).mono ?_); (case side1 => exact cS (Kd.R_reads' HO230.out).2.2); (case side2 => exact (Kd.R_reads' HO230.out).2.1); (case side3 => exact cS (Kd.R_reads' HO221.out).2.2); (case side4 => exact (Kd.R_reads' HO221.out).2.1); rintro e w49 ⟨rfl, hb⟩; refine ⟨_, rfl, ?_⟩; replace HO218 := Aside0.mk (Kd.R_below (rU HO218) hb); replace HO221 := Aside0.mk (Kd.R_below (rU HO221) hb); replace HO226 := Aside0.mk (Kd.R_below (rU HO226) hb); replace HO230 := Aside0.mk (Kd.R_below (rU HO230) hb); replace BK213 := bS BK213 hb; replace BK227 := bS BK227 hb; replace HB := hS HB hb; (try clear hb); (try clear hb2); (try clear hk); (try clear hi)))
             replace HO218 := Aside0.mk (Kd.R_drew HO218.out)
             replace HO221 := Aside0.mk (Kd.R_drew HO221.out)
             replace HO226 := Aside0.mk (Kd.R_drew HO226.out)
             replace HO230 := Aside0.mk (Kd.R_drew HO230.out)
             replace BK213 := Aside0.mk (blk_drew BK213.out)
             replace BK227 := Aside0.mk (blk_drew BK227.out)
             replace HB := Aside0.mk (below_drew1 HB.out)
             refine start_ (n := 5) (S := fun w' => w'.cell? ⟨gb227, 0, none⟩ = some (.int .i64 t223) ∧ w'.cell? ⟨gb227, 1, none⟩ = some (.slice Ao45 t224.length co45) ∧ w'.cell? ⟨gb213, 0, none⟩ = some (.int .i64 a0_0) ∧ w'.cell? ⟨gb213, 1, none⟩ = some (.slice A0_1 l0_1.length c0_1)) (ds := []) (bz 5 0) (by kernel_rfl) rfl rfl ⟨(blk_cell BK227.out 0).trans rfl, (blk_cell BK227.out 1).trans rfl, (blk_cell BK213.out 0).trans rfl, (blk_cell BK213.out 1).trans rfl⟩ (fun hHeld => ?_)
             generalize w49.drew = w50 at HO218 HO221 HO226 HO230 BK213 BK227 HB hHeld ⊢
             refine run_ [(1, 0, 1, some 41), (1, 1, 3, some 42)] ?_
             repeat ((apply tag1; refine run_t (v := ?_) (a' := ?_) rfl rfl (by kernel_rfl) (fun _ _ _ h => h) (by rfl) ?_ hHeld ?_ ?_; rotate_left 2; (rintro w' ⟨s0, s1, s2, s3⟩; go_simp; with_reducible rfl); (first | (simp only [Act.put, List.setIfInBounds_toArray, List.set_cons_zero, List.set_cons_succ, i64_w, i32_w]; rfl) | rfl)))
             refine run_nil ?_
             refine one_ (i := 2) (N := some 43) (bz 5 7) rfl rfl (by kernel_rfl) (by decide) (fun K hK => ?_)
             refine goes_ Tryd.func14 (by kernel_rfl) rfl #[.agg #[.int .i64 a0_0, .slice A0_1 l0_1.length c0_1]] (by rfl) rfl rfl mapT ?_
             with_reducible refine (laws_toParty.calls k a0_0 _ _ l0_1 t233 t234 _ ?side1 ?side2 A14.out).mono ?_
             (case side1 => exact cS (Kd.C_below HR0_1.out HB.out))
             (case side2 => exact HC0_1.out)
             rintro e w51 ⟨v235, rfl, ho0, hb⟩
             refine ⟨_, rfl, ?_⟩
             have HO236 := Aside0.mk (Kd.R_lower (Kd.R_new' (Kd.R_new' (Kd.R_new' (Kd.R_new' ho0 (Kd.R_lt (rU HO218))) (Kd.R_lt (rU HO221))) (Kd.R_lt (rU HO226))) (Kd.R_lt (rU HO230))) (below_size hB))
             replace HO218 := Aside0.mk (Kd.R_elder' (rU HO218) (Kd.R_base ho0) hb)
             replace HO221 := Aside0.mk (Kd.R_elder' (rU HO221) (Kd.R_base ho0) hb)
             replace HO226 := Aside0.mk (Kd.R_elder' (rU HO226) (Kd.R_base ho0) hb)
             replace HO230 := Aside0.mk (Kd.R_elder' (rU HO230) (Kd.R_base ho0) hb)
             replace BK213 := bS BK213 hb
             replace BK227 := bS BK227 hb
             replace HB := hS HB hb
             (try clear hb)
             (try clear hb2)
             (try clear hk)
             (try clear hi)
             (try clear ho0)
             obtain ⟨Ao52, co52, eo52⟩ := Kd.R_slice HO236.out
             (first | subst eo52 | (injection eo52 with f1_ f2_ f3_; have f4_ := f1_.symm; have f5_ := f3_.symm; clear f1_ f2_ f3_; subst f4_; subst f5_))
             refine hK.out _ _ ⟨(blk_cell BK227.out 0).trans rfl, (blk_cell BK227.out 1).trans rfl, (blk_cell BK213.out 0).trans rfl, (blk_cell BK213.out 1).trans rfl⟩ (fun hHeld => ?_)
             clear hK K
             refine norm_ (a' := ?_) ?_ ?_
             rotate_left
             ·show Act.put _ (some 43) _ = _
              simp only [Act.put, List.setIfInBounds_toArray, List.set_cons_zero, List.set_cons_succ, i64_w, i32_w]
              rfl
             refine one_ (i := 3) (N := some 44) (bz 5 15) rfl rfl (by kernel_rfl) (by decide) (fun K hK => ?_)
             refine goes_ Tryd.func17 (by kernel_rfl) rfl #[.agg #[.int .i64 t223, .slice Ao45 t224.length co45], .agg #[.int .i64 t233, .slice Ao52 t234.length co52]] (by rfl) rfl rfl mapT ?_
             with_reducible refine (laws_eqParty.calls k t223 _ _ t224 t233 _ _ t234 true _ ?side1 ?side2 ?side3 ?side4 A15.out).mono ?_
             (case side1 => exact cS (Kd.R_reads' HO226.out).2.2)
             (case side2 => exact (Kd.R_reads' HO226.out).2.1)
             (case side3 => exact cS (Kd.R_reads' HO236.out).2.2)
             (case side4 => exact (Kd.R_reads' HO236.out).2.1)
             rintro e w53 ⟨rfl, hb⟩
             refine ⟨_, rfl, ?_⟩
             replace HO218 := Aside0.mk (Kd.R_below (rU HO218) hb)
             replace HO221 := Aside0.mk (Kd.R_below (rU HO221) hb)
             replace HO226 := Aside0.mk (Kd.R_below (rU HO226) hb)
             replace HO230 := Aside0.mk (Kd.R_below (rU HO230) hb)
             replace HO236 := Aside0.mk (Kd.R_below (rU HO236) hb)
             replace BK213 := bS BK213 hb
             replace BK227 := bS BK227 hb
             replace HB := hS HB hb
             (try clear hb)
             (try clear hb2)
             (try clear hk)
             (try clear hi)
             refine hK.out _ _ ⟨(blk_cell BK227.out 0).trans rfl, (blk_cell BK227.out 1).trans rfl, (blk_cell BK213.out 0).trans rfl, (blk_cell BK213.out 1).trans rfl⟩ (fun hHeld => ?_)
             clear hK K
             refine norm_ (a' := ?_) ?_ ?_
             rotate_left
             ·show Act.put _ (some 44) _ = _
              simp only [Act.put, List.setIfInBounds_toArray, List.set_cons_zero, List.set_cons_succ, i64_w, i32_w]
              rfl
             refine run_ [(0, 4, 31, some 45)] ?_
             repeat ((apply tag0; refine run_p (v := ?_) (a' := ?_) rfl rfl (by kernel_rfl) (fun _ _ _ h => h) (by rfl) ?_ ?_ ?_; rotate_left 2; (intro w'; go_simp; with_reducible rfl); (first | (simp only [Act.put, List.setIfInBounds_toArray, List.set_cons_zero, List.set_cons_succ, i64_w, i32_w]; rfl) | rfl)))
             refine run_nil ?_
             refine done_ (by kernel_rfl) ?_
             have hcz54_0 := cz BK227 0
             have hcz54_1 := cz BK227 1
             have hfz54_0 := fz BK227 0
             have hfz54_1 := fz BK227 1
             try go_wp2_with (first | ((with_reducible refine gate_callee (f := 18) rfl ?_); refine goC (N := some 48) Tryd.func18 #[.agg #[.int .i64 t223, .slice Ao45 t224.length co45], .int .i64 1] rfl ?_; (with_reducible refine (laws_markParty.calls k t223 (fun k_ => some k_ = (.slice Ao45 t224.length co45 : Value).ownBlock) (.slice Ao45 t224.length co45) t224 1 t238 t239 w _ ?side1 ?side2 A17.out).mono ?_); (case side1 => repeat (first | (with_reducible first | exact HB.out | apply below_alloc | apply pw_below_drewN | apply below_drew1 | refine below_set ?_ GE213.out | refine below_set ?_ GE227.out) | exact HB.out)); (case side2 => exact Kd.R_tight rfl (rU HO226)); rintro e w55 ⟨rfl, hy0, hb, hkp⟩; refine ⟨_, rfl, ?_⟩; have n0_ := Aside0.mk (blk_kept bK hkp (fun hs_ => (fun e_ => (Kd.R_ne HO226.out BK213.out (by decide)) e_) hs_)); have n1_ := Aside0.mk (Kd.R_mono (ok' := fun k_ => some k_ ≠ (.slice Ao48 t219.length co48 : Value).ownBlock ∧ some k_ ≠ (.slice Ao45 t224.length co45 : Value).ownBlock ∧ some k_ ≠ (.slice Ao47 t228.length co47 : Value).ownBlock ∧ some k_ ≠ (.slice Ao52 t234.length co52 : Value).ownBlock) (Kd.R_keptB (rU HO218) hkp (fun k_ hk_ hs_ => pjn hk_ hs_)) (fun k_ hk_ => pj hk_)); have n2_ := Aside0.mk (Kd.R_mono (ok' := fun k_ => some k_ ≠ (.slice Ao38 t216.length co38 : Value).ownBlock ∧ some k_ ≠ (.slice Ao45 t224.length co45 : Value).ownBlock ∧ some k_ ≠ (.slice Ao47 t228.length co47 : Value).ownBlock ∧ some k_ ≠ (.slice Ao52 t234.length co52 : Value).ownBlock) (Kd.R_keptB (rU HO221) hkp (fun k_ hk_ hs_ => pjn hk_ hs_)) (fun k_ hk_ => pj hk_)); have n3_ := Aside0.mk (Kd.R_reok rfl hy0 (fun k_ e_ => HO226.out.1 k_ e_)); have n4_ := Aside0.mk (blk_kept bK hkp (fun hs_ => (fun e_ => (Kd.R_ne HO226.out BK227.out (by decide)) e_) hs_)); have n5_ := Aside0.mk (Kd.R_mono (ok' := fun k_ => some k_ ≠ (.slice Ao38 t216.length co38 : Value).ownBlock ∧ some k_ ≠ (.slice Ao48 t219.length co48 : Value).ownBlock ∧ some k_ ≠ (.slice Ao45 t224.length co45 : Value).ownBlock ∧ some k_ ≠ (.slice Ao52 t234.length co52 : Value).ownBlock) (Kd.R_keptB (rU HO230) hkp (fun k_ hk_ hs_ => pjn hk_ hs_)) (fun k_ hk_ => pj hk_)); have n6_ := Aside0.mk (Kd.R_mono (ok' := fun k_ => some k_ ≠ (.slice Ao38 t216.length co38 : Value).ownBlock ∧ some k_ ≠ (.slice Ao48 t219.length co48 : Value).ownBlock ∧ some k_ ≠ (.slice Ao45 t224.length co45 : Value).ownBlock ∧ some k_ ≠ (.slice Ao47 t228.length co47 : Value).ownBlock) (Kd.R_keptB (rU HO236) hkp (fun k_ hk_ hs_ => pjn hk_ hs_)) (fun k_ hk_ => pj hk_)); have n7_ := Aside0.mk (hb); clear BK213; clear HO218; clear HO221; clear HO226; clear BK227; clear HO230; clear HO236; clear HB; have BK213 := n0_; have HO218 := n1_; have HO221 := n2_; have HO226 := n3_; have BK227 := n4_; have HO230 := n5_; have HO236 := n6_; have HB := n7_; clear n0_ n1_ n2_ n3_ n4_ n5_ n6_ n7_; (try clear hb); (try clear hkp); (try clear hy0)) | (go_at_call 34; (with_reducible refine (laws_eqPairS.calls k _ _ t228 _ _ t219 true _ ?side1 ?side2 ?side3 ?side4 A19.out).mono ?_); (case side1 => exact cS (Kd.R_reads' HO230.out).2.2); (case side2 => exact (Kd.R_reads' HO230.out).2.1); (case side3 => exact cS (Kd.R_reads' HO221.out).2.2); (case side4 => exact (Kd.R_reads' HO221.out).2.1); rintro e w56 ⟨rfl, hb⟩; replace HO218 := Aside0.mk (Kd.R_below (rU HO218) hb); replace HO221 := Aside0.mk (Kd.R_below (rU HO221) hb); replace HO226 := Aside0.mk (Kd.R_below (rU HO226) hb); replace HO230 := Aside0.mk (Kd.R_below (rU HO230) hb); replace HO236 := Aside0.mk (Kd.R_below (rU HO236) hb); replace BK213 := bS BK213 hb; replace BK227 := bS BK227 hb; replace HB := hS HB hb; (try clear hb); (try clear hb2); (try clear hk); (try clear hi)) | ((with_reducible refine gate_callee (f := 35) rfl ?_); refine goC (N := some 64) Tryd.func35 #[.slice Ao47 t228.length co47, .int .i64 1] rfl ?_; (with_reducible refine (laws_markPairS.calls k (fun k_ => some k_ = (.slice Ao47 t228.length co47 : Value).ownBlock) (.slice Ao47 t228.length co47) t228 1 t241 t242 w _ ?side1 ?side2 A21.out).mono ?_); (case side1 => repeat (first | (with_reducible first | exact HB.out | apply below_alloc | apply pw_below_drewN | apply below_drew1 | refine below_set ?_ GE213.out | refine below_set ?_ GE227.out) | exact HB.out)); (case side2 => exact Kd.R_tight rfl (rU HO230)); rintro e w57 ⟨rfl, hy0, hb, hkp⟩; refine ⟨_, rfl, ?_⟩; have n0_ := Aside0.mk (blk_kept bK hkp (fun hs_ => (fun e_ => (Kd.R_ne HO230.out BK213.out (by decide)) e_) hs_)); have n1_ := Aside0.mk (Kd.R_mono (ok' := fun k_ => some k_ ≠ (.slice Ao48 t219.length co48 : Value).ownBlock ∧ some k_ ≠ (.slice Ao45 t224.length co45 : Value).ownBlock ∧ some k_ ≠ (.slice Ao47 t228.length co47 : Value).ownBlock ∧ some k_ ≠ (.slice Ao52 t234.length co52 : Value).ownBlock) (Kd.R_keptB (rU HO218) hkp (fun k_ hk_ hs_ => pjn hk_ hs_)) (fun k_ hk_ => pj hk_)); have n2_ := Aside0.mk (Kd.R_mono (ok' := fun k_ => some k_ ≠ (.slice Ao38 t216.length co38 : Value).ownBlock ∧ some k_ ≠ (.slice Ao45 t224.length co45 : Value).ownBlock ∧ some k_ ≠ (.slice Ao47 t228.length co47 : Value).ownBlock ∧ some k_ ≠ (.slice Ao52 t234.length co52 : Value).ownBlock) (Kd.R_keptB (rU HO221) hkp (fun k_ hk_ hs_ => pjn hk_ hs_)) (fun k_ hk_ => pj hk_)); have n3_ := Aside0.mk (Kd.R_mono (ok' := fun k_ => some k_ ≠ (.slice Ao38 t216.length co38 : Value).ownBlock ∧ some k_ ≠ (.slice Ao48 t219.length co48 : Value).ownBlock ∧ some k_ ≠ (.slice Ao47 t228.length co47 : Value).ownBlock ∧ some k_ ≠ (.slice Ao52 t234.length co52 : Value).ownBlock) (Kd.R_keptB (rU HO226) hkp (fun k_ hk_ hs_ => pjn hk_ hs_)) (fun k_ hk_ => pj hk_)); have n4_ := Aside0.mk (blk_kept bK hkp (fun hs_ => (fun e_ => (Kd.R_ne HO230.out BK227.out (by decide)) e_) hs_)); have n5_ := Aside0.mk (Kd.R_reok rfl hy0 (fun k_ e_ => HO230.out.1 k_ e_)); have n6_ := Aside0.mk (Kd.R_mono (ok' := fun k_ => some k_ ≠ (.slice Ao38 t216.length co38 : Value).ownBlock ∧ some k_ ≠ (.slice Ao48 t219.length co48 : Value).ownBlock ∧ some k_ ≠ (.slice Ao45 t224.length co45 : Value).ownBlock ∧ some k_ ≠ (.slice Ao47 t228.length co47 : Value).ownBlock) (Kd.R_keptB (rU HO236) hkp (fun k_ hk_ hs_ => pjn hk_ hs_)) (fun k_ hk_ => pj hk_)); have n7_ := Aside0.mk (hb); clear BK213; clear HO218; clear HO221; clear HO226; clear BK227; clear HO230; clear HO236; clear HB; have BK213 := n0_; have HO218 := n1_; have HO221 := n2_; have HO226 := n3_; have BK227 := n4_; have HO230 := n5_; have HO236 := n6_; have HB := n7_; clear n0_ n1_ n2_ n3_ n4_ n5_ n6_ n7_; (try clear hb); (try clear hkp); (try clear hy0)) | ((with_reducible refine gate_callee (f := 36) rfl ?_); refine goesL_ (some 67) rfl rfl Tryd.func36 (by kernel_rfl) rfl #[.slice Ao47 t242.length co47, .int .i64 1] rfl (by (try simp only [List.map_toArray, List.map_cons, List.map_nil]); first | done | (rw [show t242.length = t228.length from (Kd.R_reads' HO230.out).1.symm] <;> rfl) | rfl | (simp only [List.length_drop, List.length_take]; rfl)) ?_; (with_reducible refine (laws_heldPairS.calls k _ _ t242 1 t243 _ ?side1 ?side2 A22.out).mono ?_); (case side1 => exact cS (Kd.R_reads' HO230.out).2.2); (case side2 => rw [show t242.length = t228.length from (Kd.R_reads' HO230.out).1.symm]; exact (Kd.R_reads' HO230.out).2.1); rintro e w' ⟨rfl, ⟨nd, rfl⟩⟩; refine ⟨_, rfl, ?_⟩; have hcz58_0 := cz BK213 0; have hcz58_1 := cz BK213 1; have hfz58_0 := fz BK213 0; have hfz58_1 := fz BK213 1) | ((with_reducible refine gate_callee (f := 14) rfl ?_); refine goC (N := some 75) Tryd.func14 #[.agg #[.int .i64 a0_0, .slice A0_1 l0_1.length c0_1]] rfl ?_; (with_reducible refine (laws_toParty.calls k a0_0 _ _ l0_1 t244 t245 _ ?side1 ?side2 A25.out).mono ?_); (case side1 => repeat (first | exact (Kd.C_below HR0_1.out hB) | (with_reducible refine Kd.C_alloc ?_ _) | (with_reducible refine Kd.C_drewN ?_ _) | (with_reducible refine Kd.C_drew ?_))); (case side2 => exact HC0_1.out); rintro e w59 ⟨v246, rfl, ho0, hb⟩; refine ⟨_, rfl, ?_⟩; have HO247 := Aside0.mk (Kd.R_lower (Kd.R_new' (Kd.R_new' (Kd.R_new' (Kd.R_new' (Kd.R_new' ho0 (Kd.R_lt (rU HO218))) (Kd.R_lt (rU HO221))) (Kd.R_lt (rU HO226))) (Kd.R_lt (rU HO230))) (Kd.R_lt (rU HO236))) (below_size hB)); replace HO218 := Aside0.mk (Kd.R_elder' (rU HO218) (Kd.R_base ho0) hb); replace HO221 := Aside0.mk (Kd.R_elder' (rU HO221) (Kd.R_base ho0) hb); replace HO226 := Aside0.mk (Kd.R_elder' (rU HO226) (Kd.R_base ho0) hb); replace HO230 := Aside0.mk (Kd.R_elder' (rU HO230) (Kd.R_base ho0) hb); replace HO236 := Aside0.mk (Kd.R_elder' (rU HO236) (Kd.R_base ho0) hb); replace BK213 := bS BK213 hb; replace BK227 := bS BK227 hb; replace HB := hS HB hb; (try clear hb); (try clear hb2); (try clear hk); (try clear hi); (try clear ho0); obtain ⟨Ao60, co60, eo60⟩ := Kd.R_slice HO247.out; subst eo60) | ((with_reducible refine gate_callee (f := 33) rfl ?_); refine goC (N := some 76) Tryd.func33 #[.agg #[.int .i64 t244, .slice Ao60 t245.length co60]] rfl ?_; (with_reducible refine (impl_FirstPairing.calls k t244 _ _ t245 t248 t251 _ ?side1 ?side2 A26.out).mono ?_); (case side1 => exact cS (Kd.R_reads' HO247.out).2.2); (case side2 => exact (Kd.R_reads' HO247.out).2.1); rintro e w61 ⟨v249, rfl, ho0, hb⟩; refine ⟨_, rfl, ?_⟩; have HO250 := Aside0.mk (Kd.R_lower (Kd.R_new' (Kd.R_new' (Kd.R_new' (Kd.R_new' (Kd.R_new' (Kd.R_new' ho0 (Kd.R_lt (rU HO218))) (Kd.R_lt (rU HO221))) (Kd.R_lt (rU HO226))) (Kd.R_lt (rU HO230))) (Kd.R_lt (rU HO236))) (Kd.R_lt (rU HO247))) (below_size hB)); replace HO218 := Aside0.mk (Kd.R_elder' (rU HO218) (Kd.R_base ho0) hb); replace HO221 := Aside0.mk (Kd.R_elder' (rU HO221) (Kd.R_base ho0) hb); replace HO226 := Aside0.mk (Kd.R_elder' (rU HO226) (Kd.R_base ho0) hb); replace HO230 := Aside0.mk (Kd.R_elder' (rU HO230) (Kd.R_base ho0) hb); replace HO236 := Aside0.mk (Kd.R_elder' (rU HO236) (Kd.R_base ho0) hb); replace HO247 := Aside0.mk (Kd.R_elder' (rU HO247) (Kd.R_base ho0) hb); replace BK213 := bS BK213 hb; replace BK227 := bS BK227 hb; replace HB := hS HB hb; (try clear hb); (try clear hb2); (try clear hk); (try clear hi); (try clear ho0); obtain ⟨Ao62, co62, eo62⟩ := Kd.R_slice HO250.out; subst eo62) | ((with_reducible refine gate_callee (f := 34) rfl ?_); refine goC (N := some 81) Tryd.func34 #[.slice Ao62 t248.length co62, .slice Ao48 t219.length co48] rfl ?_; (with_reducible refine (laws_eqPairS.calls k _ _ t248 _ _ t219 true _ ?side1 ?side2 ?side3 ?side4 A27.out).mono ?_); (case side1 => exact cS (Kd.R_reads' HO250.out).2.2); (case side2 => exact (Kd.R_reads' HO250.out).2.1); (case side3 => exact cS (Kd.R_reads' HO221.out).2.2); (case side4 => exact (Kd.R_reads' HO221.out).2.1); rintro e w63 ⟨rfl, hb⟩; refine ⟨_, rfl, ?_⟩; replace HO218 := Aside0.mk (Kd.R_below (rU HO218) hb); replace HO221 := Aside0.mk (Kd.R_below (rU HO221) hb); replace HO226 := Aside0.mk (Kd.R_below (rU HO226) hb); replace HO230 := Aside0.mk (Kd.R_below (rU HO230) hb); replace HO236 := Aside0.mk (Kd.R_below (rU HO236) hb); replace HO247 := Aside0.mk (Kd.R_below (rU HO247) hb); replace HO250 := Aside0.mk (Kd.R_below (rU HO250) hb); replace BK213 := bS BK213 hb; replace BK227 := bS BK227 hb; replace HB := hS HB hb; (try clear hb); (try clear hb2); (try clear hk); (try clear hi)) | ((with_reducible refine gate_callee (f := 36) rfl ?_); refine goesL_ (some 90) rfl rfl Tryd.func36 (by kernel_rfl) rfl #[.slice Ao47 t242.length co47, .int .i64 1] rfl (by (try simp only [List.map_toArray, List.map_cons, List.map_nil]); first | done | (rw [show t242.length = t228.length from (Kd.R_reads' HO230.out).1.symm] <;> rfl) | rfl | (simp only [List.length_drop, List.length_take]; rfl)) ?_; (with_reducible refine (laws_heldPairS.calls k _ _ t242 1 t253 _ ?side1 ?side2 A30.out).mono ?_); (case side1 => exact cS (Kd.R_reads' HO230.out).2.2); (case side2 => rw [show t242.length = t228.length from (Kd.R_reads' HO230.out).1.symm]; exact (Kd.R_reads' HO230.out).2.1); rintro e w' ⟨rfl, ⟨nd, rfl⟩⟩; refine ⟨_, rfl, ?_⟩))
             go_ret
             exact ⟨by first | rfl | (simp [errW_none, errW_some] <;> rfl) | (simp [*, errW_none, errW_some] <;> rfl), hB⟩
            ·rw [if_neg c32] at H
             exact absurd H (by simp)
         ·replace c28 := Bool.eq_false_iff.mpr c28
          subst c28
          have H1 : (none) = some r := by rw [if_neg (show ¬ (false = true) by decide)] at H; exact H
          clear H
          have H := H1
          clear H1
          exact absurd H (by simp)
        ·rw [if_neg c24] at H
         exact absurd H (by simp)
      ·replace c20 := Bool.eq_false_iff.mpr c20
       subst c20
       have H1 : (none) = some r := by rw [if_neg (show ¬ (false = true) by decide)] at H; exact H
       clear H
       have H := H1
       clear H1
       exact absurd H (by simp)
    ·replace c16 := Bool.eq_false_iff.mpr c16
     subst c16
     have H1 : (none) = some r := by rw [if_neg (show ¬ (false = true) by decide)] at H; exact H
     clear H
     have H := H1
     clear H1
     exact absurd H (by simp)
  ·replace c12 := Bool.eq_false_iff.mpr c12
   subst c12
   have H1 : (none) = some r := by rw [if_neg (show ¬ (false = true) by decide)] at H; exact H
   clear H
   have H := H1
   clear H1
   exact absurd H (by simp)

end Go.Proofs.YtjpfbkkikcpmhaaDoor.PFnExactFirstPairing
