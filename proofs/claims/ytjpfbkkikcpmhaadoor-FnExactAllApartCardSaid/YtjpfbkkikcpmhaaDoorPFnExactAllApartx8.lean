-- Of this session's own program wip/gen/gen.py (it drives the kit's print): contracts of the functions that the law reaches.
import Derived.Test.YtjpfbkkikcpmhaaDoorPFnExactAllApartx0
import Derived.Test.YtjpfbkkikcpmhaaDoorPFnExactAllApartx1
import Derived.Test.YtjpfbkkikcpmhaaDoorPFnExactAllApartx2
import Derived.Test.YtjpfbkkikcpmhaaDoorPFnExactAllApartx6
import Derived.Test.YtjpfbkkikcpmhaaDoorPFnExactAllApartx7
namespace Go.Proofs.YtjpfbkkikcpmhaaDoor.PFnExactAllApart
open Go.RowKit Go.Proofs.YtjpfbkkikcpmhaaDoorW.PrintWords Go.Proofs.YtjpfbkkikcpmhaaDoorW.PrintLast Go.Proofs.YtjpfbkkikcpmhaaDoorW.PrintMore Go.Proofs.YtjpfbkkikcpmhaaDoor.Base
attribute [local go_sem] max2_int min2_int max_two min_two max_three min_three max_four min_four   -- for this text's walks alone
set_option linter.unusedVariables false
set_option linter.unusedSimpArgs false

/-! ### slices_Clone_int_int: function 147 (a text of this session's own) -/

def slices_Clone_int_int.f (l0 : List (Int)) : Option (List (Int)) := if l0.length < 17592186044416 then some l0 else none
set_option maxHeartbeats 8000000 in
set_option maxRecDepth 100000 in
theorem slices_Clone_int_int.calls (A0 : Option Addr) (c0 : Nat) (l0 : List (Int)) (r : List (Int)) (w : World) (hr0 : Kd.C (Kd.int .i64) w A0 l0.length l0) (hc0 : l0.length ≤ c0) (h : slices_Clone_int_int.f l0 = some r) :
    Calls Tryd.prog 147 #[.slice A0 l0.length c0] w fun e w' => ∃ v0_ : Value, e = .returned (v0_) ∧ Kd.R (Kd.int .i64) 3 w' w.heap.size (fun _ => True) v0_ r ∧ Below w.heap.size w w' := by
  unfold slices_Clone_int_int.f at h
  by_cases c2 : l0.length < 17592186044416
  · rw [if_pos c2] at h
    obtain rfl := Option.some.inj h
    have heq := fun (w : World) (n : Nat) => Go.Lib.run_eql_slice_nil (P := Tryd.prog) w 75 3 A0 n c0 0 0 Tryd.underlying75
    cases A0 with
    | none =>
      obtain rfl : l0 = [] := by
        rcases l0 with _ | ⟨x, l⟩
        · rfl
        · obtain ⟨_, h, _⟩ := hr0.2.2 (by simp); cases h
      clear hr0 h c2
      go_enter Tryd.func147, Tryd.ntmps147
      go_wp2
      go_ret
      exact ⟨_, rfl, Kd.R_nil _ _ _ _ _, Below.refl _ _⟩
    | some ad =>
      have HR0 := Aside0.mk hr0
      have LM := Aside0.mk c2
      have HB := Aside0.mk (Below.refl w.heap.size w)
      have NL := Aside0.mk (List.nil_append l0)
      clear hr0 hc0 h c2
      go_enter Tryd.func147, Tryd.ntmps147
      go_wp2_with (first | ((with_reducible refine gate_dst (N := 5) rfl ?_); refine Kd.R_lit (Kd.int .i64) _ 3 ?hg (N := 5) ?hd (xs := ([] : List (Int))) (inner := []) (ok := fun _ => True) (okp := fun _ => True) ?hr ?hp (fun _ hk => hk) trivial (Below.refl _ _) (Nat.le_refl _) (by simp) ?_; (case hd => rfl); (case hg => rfl); (case hr => first | (go_simp; done) | (go_simp; rfl)); (case hp => exact (Reps.none _ _)); intro v132 w3 ho4 hb hg_ hnew_; clear hg_ hnew_; have n0_ := Aside0.mk (Kd.R_lower ho4 (below_size (by repeat (first | (with_reducible first | exact HB.out | apply below_alloc | apply pw_below_drewN | apply below_drew1) | exact HB.out)))); have n1_ := Aside0.mk (below_step (by repeat (first | (with_reducible first | exact HB.out | apply below_alloc | apply pw_below_drewN | apply below_drew1) | exact HB.out)) hb); clear HB; have HO133 := n0_; have HB := n1_; clear n0_ n1_; clear hb ho4) | ((with_reducible refine gate_builtin (b := .append) (xs := #[.tmp 5, .tmp 6]) rfl ?_); at_builtin; refine Kd.R_append_rows (Kd.int .i64) (Rr := (Kd.int .i64).K w3) (w0 := w) w.heap.size rfl (.tmp 5) (.tmp 6) 75 3 (.int .i64 0) 8 rfl Tryd.underlying75 info3 rfl (by decide) (by omega) v132 [] l0 _ _ _ (fun _ => True) (fun _ => False) rfl rfl ?aO ?aR ?aK (fun _ h => h.elim) ?aF ?aB ?aS ?aL ?_; (case aR => repeat (first | exact (Kd.C_below HR0.out HB.out) | (with_reducible refine Kd.C_alloc ?_ _) | (with_reducible refine Kd.C_drewN ?_ _) | (with_reducible refine Kd.C_drew ?_))); (case aK => exact (fun _ _ h => h)); (case aB => exact (by repeat (first | (with_reducible first | exact HB.out | apply below_alloc | apply pw_below_drewN | apply below_drew1) | exact HB.out))); (case aF => exact (fun _ _ => trivial)); (case aO => exact (by (with_reducible repeat (first | apply Kd.R_alloc | apply Kd.R_drewN | apply Kd.R_drew)); exact HO133.out)); (case aS => exact (below_size (by repeat (first | (with_reducible first | exact HB.out | apply below_alloc | apply pw_below_drewN | apply below_drew1) | exact HB.out)))); (case aL => have := LM.out; simp only [List.length_nil]; omega); intro v135 w5 ho hb hg hat; rw [NL.out] at ho; have n0_ := Aside0.mk (hb); have n1_ := Aside0.mk (ho); clear HB; clear HO133; have HB := n0_; have HO136 := n1_; clear n0_ n1_; clear ho hb hg hat))
      go_ret
      exact ⟨_, rfl, by (with_reducible repeat (first | apply Kd.R_alloc | apply Kd.R_drewN | apply Kd.R_drew)); exact HO136.out, by repeat (first | (with_reducible first | exact HB.out | apply below_alloc | apply pw_below_drewN | apply below_drew1) | exact HB.out)⟩
  · rw [if_neg c2] at h; cases h

/-! ### impl_table_groups_1: function 146 (a text of this session's own) -/

def impl_table_groups_1.T4 : Bool × List (List Nat × List Nat) := (true, [([], []), ([], []), ([1], [1]), ([], []), ([3], [3]), ([2, 4, 2], [2, 4]), ([], []), ([], []), ([], []), ([7, 8], [7, 8]), ([9], [9]), ([6, 10], [6, 10]), ([], []), ([12], [12]), ([13], [13]), ([11, 14], [11, 14]), ([0, 5, 15, 5], [0, 5, 15])])
def impl_table_groups_1.B4 : List Nat := [0, 0, 2, 0, 8, 30, 0, 0, 0, 384, 896, 1984, 0, 4096, 12288, 32704, 65535]
theorem impl_table_groups_1.tab4 : rtab .any (opsOf Tryd.f146 4) = impl_table_groups_1.T4 := by kernel_rfl
theorem impl_table_groups_1.bits4 : waitsOk impl_table_groups_1.T4.2 impl_table_groups_1.B4 = true := by kernel_rfl
mutual
def impl_table_groups_1.l0 : Nat → List Int → List Int → Int → List Int → Int → List (List Int) → Option (List (List Int))
 | 0, _, _, _, _, _, _ => none
 | k + 1, t, l, s, q, i, xs => if i < (q.length : Int) then (if 0 ≤ i then (if 0 ≤ rd q i then (if rd q i < (t.length : Int) then ((slices_Clone_int_int.f l).bind fun z => if z.length < 17592186044416 then ((impl_table_groups_1.f k t (z ++ [rd q i]) (Go.bits .andNot .u16 (Go.bits .and .u16 s (rd t (rd q i))) (IntKind.u16.wrap (shl .u16 1 (rd q i) - 1))) xs).bind fun ys => impl_table_groups_1.l0 k t l s q (wrap64 (i + 1)) ys) else none) else none) else none) else none) else some xs
def impl_table_groups_1.f : Nat → List Int → List Int → Int → List (List Int) → Option (List (List Int))
 | 0, _, _, _, _ => none
 | k + 1, t, l, s, xs => (impl_table_full_1.f k t l xs).bind fun ys => (impl_listed.f k s).bind fun q => impl_table_groups_1.l0 k t l s q 0 ys
end
theorem impl_table_groups_1.mono_l : ∀ k, (∀ y0 y1 y2 y3 y4 y5, LeO (impl_table_groups_1.l0 k y0 y1 y2 y3 y4 y5) (impl_table_groups_1.l0 (k + 1) y0 y1 y2 y3 y4 y5)) ∧ (∀ y0 y1 y2 y3, LeO (impl_table_groups_1.f k y0 y1 y2 y3) (impl_table_groups_1.f (k + 1) y0 y1 y2 y3))
 | 0 => ⟨fun _ _ _ _ _ _ r h => by simp [impl_table_groups_1.l0] at h, fun _ _ _ _ r h => by simp [impl_table_groups_1.f] at h⟩
 | k + 1 => by
  obtain ⟨ih0, ih1⟩ := impl_table_groups_1.mono_l k
  refine ⟨?_, ?_⟩
  · intro y0 y1 y2 y3 y4 y5
    unfold impl_table_groups_1.l0
    repeat' first
      | (with_reducible exact ih0 _ _ _ _ _ _)
      | (with_reducible exact ih1 _ _ _ _)
      | (with_reducible exact LeO.refl _)
      | (with_reducible exact LeO.none _)
      | (with_reducible refine LeO.ite ?_ ?_)
      | (with_reducible refine LeO.bind ?_ (fun _ => ?_))
  · intro y0 y1 y2 y3
    unfold impl_table_groups_1.f
    repeat' first
      | (with_reducible exact ih0 _ _ _ _ _ _)
      | (with_reducible exact impl_table_full_1.mono _ _ _ _)
      | (with_reducible exact impl_listed.mono _ _)
      | (with_reducible exact LeO.refl _)
      | (with_reducible exact LeO.none _)
      | (with_reducible refine LeO.bind ?_ (fun _ => ?_))
/-- The boxes of what the call goes on with: what is called for each group, itself, the table (twice). -/
structure impl_table_groups_1.Bx (w : World) (base b : Nat) (v : Value) (t : List Int) (At : Option Addr) (ct be ba bt bt1 : Nat) : Prop where
  e_ : w.heap[be]? = some (.cells #[(.func (.func 126) #[] #[.pointer (some ⟨bt1, 0, none⟩), .pointer (some ⟨b, 0, none⟩)])] 140 (0, 0))
  a_ : w.heap[ba]? = some (.cells #[(.func (.func 146) #[] #[.pointer (some ⟨be, 0, none⟩), .pointer (some ⟨ba, 0, none⟩), .pointer (some ⟨bt, 0, none⟩)])] 160 (0, 0))
  t_ : w.heap[bt]? = some (.cells #[.slice At t.length ct] 81 (0, 0))
  u_ : w.heap[bt1]? = some (.cells #[.slice At t.length ct] 81 (0, 0))
  ts_ : Kd.F (Kd.int .u16) w (fun k => k ≠ b ∧ some k ≠ v.ownBlock) At t.length t
  tc_ : t.length ≤ ct
  g_ : GTab 0 w
  lt : bt1 < base ∧ 0 < base ∧ be ≠ b ∧ ba ≠ b ∧ bt ≠ b ∧ base ≤ b
section
variable {w w' w'' : World} {base b : Nat} {v v' v'' : Value} {xs ys zs : List (List Int)} {t : List Int} {At : Option Addr} {ct be ba bt bt1 : Nat}
theorem impl_table_groups_1.Bx.later (x : impl_table_groups_1.Bx w base b v t At ct be ba bt bt1) (hb : Below w.heap.size w w') : impl_table_groups_1.Bx w' base b v t At ct be ba bt bt1 :=
  ⟨blk_below x.e_ hb, blk_below x.a_ hb, blk_below x.t_ hb, blk_below x.u_ hb, Kd.F_below x.ts_ hb, x.tc_, GTab.up x.g_ hb, x.lt⟩
theorem impl_table_groups_1.Bx.step (x : impl_table_groups_1.Bx w base b v t At ct be ba bt bt1) (hr : Kd.S (Kd.slice 3 (Kd.int .i64)) 75 w base (fun k => k ≠ b ∧ base ≤ k) v xs) (s : impl_table_full_1.St w base b v w' v' ys) : impl_table_groups_1.Bx w' base b v' t At ct be ba bt bt1 :=
  ⟨(s.keep be ⟨x.lt.2.2.1, Kd.S_ne hr x.e_ (by decide)⟩ (blk_lt x.e_)).trans x.e_, (s.keep ba ⟨x.lt.2.2.2.1, Kd.S_ne hr x.a_ (by decide)⟩ (blk_lt x.a_)).trans x.a_, (s.keep bt ⟨x.lt.2.2.2.2.1, Kd.S_ne hr x.t_ (by decide)⟩ (blk_lt x.t_)).trans x.t_, s.blk x.u_ x.lt.1, s.foot x.ts_, x.tc_, fun j hj => (s.below.cell (p := ⟨0, j, none⟩) x.lt.2.1).trans (x.g_ j hj), x.lt⟩
end
set_option maxHeartbeats 16000000 in
set_option maxRecDepth 100000 in
theorem impl_table_groups_1.calls : ∀ (k : Nat) (t : List Int) (At : Option Addr) (ct be ba bt bt1 : Nat) (A1 : Option Addr) (c1 : Nat) (l1 : List Int) (s : Int) (b : Nat) (v : Value) (xs r : List (List Int)) (w : World) (base : Nat)
    (_hx : impl_table_groups_1.Bx w base b v t At ct be ba bt bt1) (_h1 : Kd.R (Kd.int .i64) 3 w base (fun k => k ≠ b ∧ base ≤ k) (.slice A1 l1.length c1) l1)
    (_hd : Kd.S (Kd.slice 3 (Kd.int .i64)) 75 w base (fun k => (k ≠ b ∧ base ≤ k) ∧ ¬ some k = (Value.slice A1 l1.length c1).ownBlock) v xs) (_hS : impl_table_full_1.St w base b v w v xs) (_hbase : base ≤ w.heap.size) (_h : impl_table_groups_1.f k t l1 s xs = some r),
    Calls Tryd.prog 146 #[.slice A1 l1.length c1, .int .u16 s, .pointer (some ⟨be, 0, none⟩), .pointer (some ⟨ba, 0, none⟩), .pointer (some ⟨bt, 0, none⟩)] w fun e w' => e = .returned (.tuple #[]) ∧ ∃ v', impl_table_full_1.St w base b v w' v' r := by
  intro k
  induction k using Nat.strongRecOn with
  | ind k ih =>
    intro t At ct be ba bt bt1 A1 c1 l1 s b v xs r w base hx h1 hd hS hbase h
    cases k with
    | zero => simp [impl_table_groups_1.f] at h
    | succ k =>
      simp only [impl_table_groups_1.f] at h
      replace h := Option.bind_eq_some_iff.mp h
      obtain ⟨ys, hys, h⟩ := h
      replace h := Option.bind_eq_some_iff.mp h
      obtain ⟨q, hq, h⟩ := h
      obtain ⟨Av, cv, rfl⟩ := Kd.S_slice hS.row
      have HX := Aside0.mk hx
      have HS := Aside0.mk hS
      have HD := Aside0.mk hd
      have H1 := Aside0.mk h1
      have HC1 := Aside0.mk (Kd.R_reads' h1).2.1
      have H1F := Aside0.mk (Kd.F_mono (Kd.R_F (Kd.R_apart' h1 (Kd.S_typed hS.row) (by decide))) (fun k_ hk => (⟨hk.1.1, hk.2⟩ : k_ ≠ b ∧ some k_ ≠ (Value.slice Av xs.length cv).ownBlock)))
      have HYS := Aside0.mk hys
      have HQ := Aside0.mk hq
      have HL := Aside0.mk h
      have hse : w.cell? ⟨be, 0, none⟩ = some (.func (.func 126) #[] #[.pointer (some ⟨bt1, 0, none⟩), .pointer (some ⟨b, 0, none⟩)]) := (blk_cell hx.e_ 0).trans rfl
      clear hx h1 hd hS hys hq h
      go_enter Tryd.func146, Tryd.ntmps146
      go_wp2_with (first
        | (go_at_call 126; refine (impl_table_full_1.calls k t At ct bt1 b A1 c1 l1 (.slice Av xs.length cv) xs ys w base HX.out.u_ HX.out.ts_ HX.out.tc_ H1.out HD.out HS.out hbase HX.out.lt.2.2.2.2.2 HYS.out).mono ?_; rintro e w2 ⟨rfl, v2, s2⟩; have S2 := Aside0.mk s2; have X2 := Aside0.mk (HX.out.step HS.out.row s2); have L2 := Aside0.mk (s2.foot H1F.out); have B2 := Aside0.mk (Nat.le_trans hbase s2.below.size); clear s2 hse)
        | (go_at_call 78; refine (impl_listed.calls k s q _ HQ.out (X2.out.later (by first | exact Below.refl _ _ | exact pw_below_drewN (Below.refl _ _) _)).g_).mono ?_; rintro e w3 ⟨v3, rfl, ho, hb⟩; have HOq := Aside0.mk ho; have H23 := Aside0.mk (below_step (by first | exact Below.refl _ _ | exact pw_below_drewN (Below.refl _ _) _) hb); clear ho hb; obtain ⟨Aq, cq, rfl⟩ := Kd.R_slice HOq.out))
      have S3 := Aside0.mk (S2.out.later B2.out H23.out)
      have X3 := Aside0.mk (X2.out.later H23.out)
      have L3 := Aside0.mk (Kd.F_below L2.out H23.out)
      have B3 := Aside0.mk (Nat.le_trans B2.out H23.out.size)
      have HQF := Aside0.mk (Kd.F_mono (Kd.R_F (Kd.R_bound HOq.out)) (fun k_ hk => (by have hl_ := blk_lt S2.out.box; exact ⟨by have := hk.2.1; omega, fun he => by have := Kd.S_lt S2.out.row k_ he.symm; have := hk.2.1; omega⟩ : k_ ≠ b ∧ some k_ ≠ v2.ownBlock)))
      clear S2 X2 L2
      go_loopg [15] k (fun kq v15 W => ∃ (i : Int) (zs : List (List Int)) (v' : Value), v15 = .int .i64 i ∧ Aside0 (impl_table_groups_1.l0 kq t l1 s q i zs = some r) ∧ Aside0 (kq ≤ k) ∧ Aside0 (impl_table_full_1.St w3 base b v2 W v' zs))
      case atStart => exact ⟨0, ys, v2, rfl, HL, ⟨Nat.le_refl _⟩, ⟨by first | exact S3.out.self | exact S3.out.self.drewN B3.out _⟩⟩
      case round =>
        obtain ⟨i, zs, v', rfl, HA, HK1, HS4⟩ := hrel
        cases gk with
        | zero => exact absurd HA.out (by simp [impl_table_groups_1.l0])
        | succ k1 =>
          have H := HA.out
          clear HA HL
          simp only [impl_table_groups_1.l0] at H
          have hbr : base ≤ wr.heap.size := Nat.le_trans B3.out HS4.out.below.size
          have hbl : b < wr.heap.size := blk_lt HS4.out.box
          by_cases c1_ : i < (q.length : Int)
          · rw [if_pos c1_] at H
            by_cases c2_ : 0 ≤ i
            · rw [if_pos c2_] at H
              obtain ⟨a, ha⟩ : ∃ a_, a_ = rd q i := ⟨_, rfl⟩
              rw [← ha] at H
              by_cases c3_ : 0 ≤ a
              · rw [if_pos c3_] at H
                by_cases c4_ : a < (t.length : Int)
                · rw [if_pos c4_] at H
                  have XR := Aside0.mk (X3.out.step S3.out.row HS4.out)
                  replace H := Option.bind_eq_some_iff.mp H
                  obtain ⟨z, hz, H⟩ := H
                  by_cases c5_ : z.length < 17592186044416
                  · rw [if_pos c5_] at H
                    replace H := Option.bind_eq_some_iff.mp H
                    obtain ⟨ys2, hy, H⟩ := H
                    obtain ⟨y2, hy2⟩ : ∃ y_ : List Int, y_ = z ++ [a] := ⟨_, rfl⟩
                    rw [← hy2] at hy
                    have NY := Aside0.mk hy2
                    have HZ := Aside0.mk hz
                    have HN := Aside0.mk H
                    have LZ := Aside0.mk c5_
                    obtain ⟨adq, eq_, hxq⟩ := Kd.at_int (Kd.F_now (HS4.out.foot HQF.out)) i c2_ c1_
                    subst eq_
                    rw [← ha] at hxq
                    obtain ⟨adt, et, hxt⟩ := Kd.at_int (Kd.F_now XR.out.ts_) a c3_ c4_
                    subst et
                    have HREC := Aside0.mk (fun (A9 : Option Addr) (c9 : Nat) (w9 : World) (hb : Below wr.heap.size wr w9) (ho : Kd.R (Kd.int .i64) 3 w9 wr.heap.size (fun k_ => wr.heap.size ≤ k_) (.slice A9 y2.length c9) y2) =>
                      ih k1 (by have := HK1.out; omega) t (some adt) ct be ba bt bt1 A9 c9 y2 (Go.bits .andNot .u16 (Go.bits .and .u16 s (rd t a)) (IntKind.u16.wrap (shl .u16 1 a - 1))) b v' zs ys2 w9 base (XR.out.later hb) (Kd.R_lower (Kd.R_mono ho (fun k_ hk => (⟨by omega, by omega⟩ : k_ ≠ b ∧ base ≤ k_))) hbr) (Kd.S_below (Kd.S_mono (Kd.S_bound HS4.out.row) (fun k_ hk => ⟨hk.1, fun he => by have := Kd.R_base ho _ he.symm; have := hk.2.2.1; omega⟩)) hb) (HS4.out.later hbr hb).self (Nat.le_trans hbr hb.size) hy)
                    obtain ⟨ja, hja⟩ : ∃ j_ : Int, shl .u16 1 a = j_ := ⟨_, rfl⟩
                    have hja_ : IntKind.u16.wrap (1 * 2 ^ min (a).toNat 16) = ja := hja
                    have hjaz : a ≤ 16 → IntKind.u16.wrap (1 * 2 ^ (a).toNat) = ja := shl_small hja
                    have hjau : IntKind.u16.wrap (2 ^ min (a).toNat 16) = ja := by have h_ := hja_; rw [Int.one_mul] at h_; exact h_
                    have hjav : a ≤ 16 → IntKind.u16.wrap (2 ^ (a).toNat) = ja := fun hle_ => by have h_ := hjaz hle_; rw [Int.one_mul] at h_; exact h_
                    rw [hja] at HREC
                    have LF := Aside0.mk (HS4.out.foot L3.out)
                    have c1b : decide (i < (q.length : Int)) = true := decide_eq_true c1_
                    have c3b : decide (0 ≤ a) = true := decide_eq_true c3_
                    have SW := Aside0.mk (fun (W : World) (hb : Below wr.heap.size wr W) => (⟨pw_cell_below hb ((blk_cell XR.out.a_ 0).trans rfl), pw_cell_below hb ((blk_cell XR.out.t_ 0).trans rfl), pw_cell_below hb hxt⟩ : (fun w' : World => w'.cell? ⟨ba, 0, none⟩ = some (.func (.func 146) #[] #[.pointer (some ⟨be, 0, none⟩), .pointer (some ⟨ba, 0, none⟩), .pointer (some ⟨bt, 0, none⟩)]) ∧ w'.cell? ⟨bt, 0, none⟩ = some (.slice (some adt) t.length ct) ∧ w'.cell? (adt.add a.toNat) = some (.int .u16 (rd t a))) W))
                    replace c1_ := eq_true c1_
                    replace c2_ := eq_true c2_
                    replace c3_ := eq_true c3_
                    replace c4_ := eq_true c4_
                    clear hz hy H hy2 ha c5_ hja
                    go_wp2
                    refine start_ (n := 17) (S := fun w' => w'.cell? ⟨ba, 0, none⟩ = some (.func (.func 146) #[] #[.pointer (some ⟨be, 0, none⟩), .pointer (some ⟨ba, 0, none⟩), .pointer (some ⟨bt, 0, none⟩)]) ∧ w'.cell? ⟨bt, 0, none⟩ = some (.slice (some adt) t.length ct) ∧ w'.cell? (adt.add a.toNat) = some (.int .u16 (rd t a))) (ds := [16]) (bz 17 0) (by kernel_rfl) rfl rfl (SW.out _ (by repeat (first | exact Below.refl _ _ | apply below_drew1 | apply pw_below_drewN))) (fun hHeld => ?_)
                    refine with_tabW impl_table_groups_1.tab4 impl_table_groups_1.bits4 (fun HT_ HW_ => ?_)
                    have HBd := Aside0.mk (show Below wr.heap.size wr wr.drew from (by repeat (first | exact Below.refl _ _ | apply below_drew1 | apply pw_below_drewN)))
                    clear hxq hxt
                    generalize wr.drew = w1 at HBd hHeld ⊢
                    refine run_ [(1, 0, 1, some 19), (0, 1, 3, some 20), (0, 3, 11, some 22), (0, 6, 75, some 25), (1, 7, 203, some 26), (0, 8, 459, some 27), (0, 9, 971, some 28), (1, 10, 1995, some 29), (0, 11, 4043, some 30), (0, 12, 8139, some 31), (0, 13, 16331, some 32), (0, 14, 32715, some 33), (0, 15, 65483, some 34)] ?_
                    repeat (first | (apply tag0; refine run_p (v := ?_) (a' := ?_) rfl rfl (any_of HT_.out (by kernel_rfl)) (fun _ _ _ h => h) (by rfl) ?_ ?_ ?_; rotate_left 2; (intro w'; go_simp; with_reducible rfl); (first | (simp only [Act.put, List.setIfInBounds_toArray, List.set_cons_zero, List.set_cons_succ, i64_w, i32_w]; rfl) | rfl)) | (apply tag1; refine run_t (v := ?_) (a' := ?_) rfl rfl (take_ofW HT_.out HW_.out (by kernel_rfl)) (fun _ _ _ h => h) (by rfl) ?_ hHeld ?_ ?_; rotate_left 2; (rintro w' ⟨s0, s1, s2⟩; go_simp; with_reducible rfl); (first | (simp only [Act.put, List.setIfInBounds_toArray, List.set_cons_zero, List.set_cons_succ, i64_w, i32_w]; rfl) | rfl)))
                    refine run_nil ?_
                    refine join_ (σ := Value × Value) 2 (bz 17 65503) (fun s_ => [(21, s_.1), (23, s_.2)]) (fun s_ w' => (w'.cell? ⟨ba, 0, none⟩ = some (.func (.func 146) #[] #[.pointer (some ⟨be, 0, none⟩), .pointer (some ⟨ba, 0, none⟩), .pointer (some ⟨bt, 0, none⟩)]) ∧ w'.cell? ⟨bt, 0, none⟩ = some (.slice (some adt) t.length ct) ∧ w'.cell? (adt.add a.toNat) = some (.int .u16 (rd t a))) ∧ (Kd.R (Kd.int .i64) 3 w' wr.heap.size (fun k_ => wr.heap.size ≤ k_ ∧ some k_ ≠ (s_.2 : Value).ownBlock) s_.1 z) ∧ (Kd.R (Kd.int .i64) 3 w' wr.heap.size (fun k_ => some k_ ≠ (s_.1 : Value).ownBlock) s_.2 [a]) ∧ (Below wr.heap.size wr w')) ?_ ?_
                    rotate_left
                    · intro hCont
                      refine two_ (i := 2) (j := 4) (Ni := some 21) (Nj := some 23) (bz 17 65487) (bz 17 65499) rfl rfl rfl rfl (two_of HT_.out (by kernel_rfl)) (by decide) (by decide) (fun K hK => ?_) (fun K hK => ?_)
                      · refine goes_ Tryd.func147 (by kernel_rfl) rfl #[.slice A1 l1.length c1] (by rfl) rfl rfl mapT ?_
                        refine (slices_Clone_int_int.calls A1 c1 l1 z _ (Kd.F_now (Kd.F_below LF.out HBd.out)) HC1.out HZ.out).mono ?_
                        rintro e w2' ⟨v1, rfl, ho, hb⟩
                        refine ⟨_, rfl, ?_⟩
                        have HB2 := Aside0.mk (below_step HBd.out hb)
                        have HO2 := Aside0.mk (Kd.R_lower ho (below_size HBd.out))
                        clear ho hb
                        refine hK.out _ _ (SW.out _ HB2.out) (fun hHeld2 => ?_)
                        clear hK K
                        refine one_ (i := 4) (N := some 23) (bz 17 65503) rfl rfl (one_of HT_.out (by kernel_rfl)) (by decide) (fun K hK => ?_)
                        refine Kd.R_lit_step (Kd.int .i64) (w0 := wr) wr.heap.size 3 (by rfl) (N := 23) rfl (xs := [a]) (inner := [.int .i64 a]) (ok := fun k_ => some k_ ≠ v1.ownBlock) (okp := fun _ => False) ?hr ?hp (fun _ h => h.elim) ?hf HB2.out (below_size HB2.out) (by simp) ?_
                        case hr => first | (go_simp; done) | (go_simp; rfl)
                        case hp => exact Reps.one rfl (Reps.none _ _)
                        case hf => exact fun he => by have := Kd.R_lt HO2.out _ he.symm; omega
                        intro v2' w3' ho2 hb2 hg2 hnew2
                        refine hK.out _ _ (SW.out _ hb2) (fun hHeld3 => ?_)
                        refine norm_ ?_ (hCont (v1, v2') w3' ⟨SW.out _ hb2, Kd.R_mono (Kd.R_grown (Kd.R_bound HO2.out) hg2 (fun k_ _ => by simp)) (fun k_ hk => ⟨hk.2.1, fun he => by obtain ⟨g, e, hg⟩ := hnew2; rw [e] at he; injection he with he; have := hk.2.2.1; omega⟩), ho2, hb2⟩)
                        first | rfl | (simp only [putAll, Act.put, List.setIfInBounds_toArray, List.set_cons_zero, List.set_cons_succ, i64_w, i32_w]; rfl)
                      · refine Kd.R_lit_step (Kd.int .i64) (w0 := wr) wr.heap.size 3 (by rfl) (N := 23) rfl (xs := [a]) (inner := [.int .i64 a]) (ok := fun _ => True) (okp := fun _ => False) ?hr ?hp (fun _ h => h.elim) trivial HBd.out (below_size HBd.out) (by simp) ?_
                        case hr => first | (go_simp; done) | (go_simp; rfl)
                        case hp => exact Reps.one rfl (Reps.none _ _)
                        intro v2' w2' ho2 hb2 hg2 hnew2
                        have HB2 := Aside0.mk hb2
                        have HO2 := Aside0.mk ho2
                        clear hb2 ho2 hg2
                        refine hK.out _ _ (SW.out _ HB2.out) (fun hHeld2 => ?_)
                        clear hK K
                        refine one_ (i := 2) (N := some 21) (bz 17 65503) rfl rfl (one_of HT_.out (by kernel_rfl)) (by decide) (fun K hK => ?_)
                        refine goes_ Tryd.func147 (by kernel_rfl) rfl #[.slice A1 l1.length c1] (by rfl) rfl rfl mapT ?_
                        refine (slices_Clone_int_int.calls A1 c1 l1 z _ (Kd.F_now (Kd.F_below LF.out HB2.out)) HC1.out HZ.out).mono ?_
                        rintro e w3' ⟨v1, rfl, ho, hb⟩
                        refine ⟨_, rfl, ?_⟩
                        refine hK.out _ _ (SW.out _ (below_step HB2.out hb)) (fun hHeld3 => ?_)
                        refine norm_ ?_ (hCont (v1, v2') w3' ⟨SW.out _ (below_step HB2.out hb), Kd.R_mono (Kd.R_lower (Kd.R_bound ho) (below_size HB2.out)) (fun k_ hk => ⟨Nat.le_trans (below_size HB2.out) hk.2.1, fun he => by have := Kd.R_lt HO2.out _ he.symm; have := hk.2.1; omega⟩), Kd.R_mono (Kd.R_below (Kd.R_bound HO2.out) hb) (fun k_ hk he => by have := Kd.R_base ho _ he.symm; have := hk.2.2.1; omega), below_step HB2.out hb⟩)
                        first | rfl | (simp only [putAll, Act.put, List.setIfInBounds_toArray, List.set_cons_zero, List.set_cons_succ, i64_w, i32_w]; rfl)
                    · rintro ⟨v1, v2'⟩ w3' ⟨hHeld3, R1, R2, HB3⟩
                      simp only at R1 R2
                      refine norm_ (a' := ?_) ?_ ?_
                      rotate_left
                      · simp only [putAll, Act.put, List.setIfInBounds_toArray, List.set_cons_zero, List.set_cons_succ, i64_w, i32_w]
                        rfl
                      obtain ⟨A2, c2, rfl⟩ := Kd.R_slice R2
                      have HR1 := Aside0.mk R1
                      have HR2 := Aside0.mk R2
                      have HB4 := Aside0.mk HB3
                      clear R1 R2 HB3
                      refine one_ (i := 5) (N := some 24) (bz 17 65535) rfl rfl (one_of HT_.out (by kernel_rfl)) (by decide) (fun K hK => ?_)
                      refine Kd.R_append_rows_step (Kd.int .i64) (w0 := wr) wr.heap.size (by rfl) (.tmp 21) (.tmp 23) 75 3 (.int .i64 0) 8 rfl Tryd.underlying75 info3 rfl (by decide) (by omega) v1 z [a] A2 1 c2 (fun k_ => wr.heap.size ≤ k_) (fun _ => False) rfl rfl (Kd.R_mono HR1.out (fun _ hk => hk.1)) (Kd.R_reads' HR2.out).2.2 (fun _ _ h => h) (fun _ h => h.elim) (fun k_ hk => Nat.le_trans (below_size HB4.out) hk) HB4.out (below_size HB4.out) (by have := LZ.out; omega) ?_
                      intro v4 w4 ho hb hg hat
                      rw [← NY.out] at ho
                      obtain ⟨A9, c9, rfl⟩ := Kd.R_slice ho
                      refine hK.out _ _ (SW.out _ hb) (fun hHeld4 => ?_)
                      clear hK K
                      refine norm_ (a' := ?_) ?_ ?_
                      rotate_left
                      · show Act.put _ (some 24) _ = _
                        simp only [Act.put, List.setIfInBounds_toArray, List.set_cons_zero, List.set_cons_succ, i64_w, i32_w]
                        rfl
                      have HB5 := Aside0.mk hb
                      have HO5 := Aside0.mk ho
                      clear hb ho hg hat
                      refine last_ (i := 16) (N := some 35) (bz 17 131071) rfl rfl (one_of HT_.out (by kernel_rfl)) (by decide) (fun K hK => ?_)
                      refine call_ 146 #[.slice A9 y2.length c9, .int .u16 (Go.bits .andNot .u16 (Go.bits .and .u16 s (rd t a)) (IntKind.u16.wrap (ja - 1))), .pointer (some ⟨be, 0, none⟩), .pointer (some ⟨ba, 0, none⟩), .pointer (some ⟨bt, 0, none⟩)] (by rfl) rfl ?_ ?_
                      · have he := fun W_ => enters_ Tryd.func146 (by kernel_rfl) rfl #[.slice A9 y2.length c9, .int .u16 (Go.bits .andNot .u16 (Go.bits .and .u16 s (rd t a)) (IntKind.u16.wrap (ja - 1))), .pointer (some ⟨be, 0, none⟩), .pointer (some ⟨ba, 0, none⟩), .pointer (some ⟨bt, 0, none⟩)] W_
                        unfold execOp
                        simp [resolve, Deferred.ofValue, invoke, Act.eval, he]
                      refine (HREC.out A9 c9 w4 HB5.out HO5.out).mono ?_
                      rintro e w7' ⟨rfl, v7, s7⟩
                      refine ⟨_, rfl, ?_⟩
                      have HS7 := Aside0.mk ((HS4.out.later hbr HB5.out).trans s7)
                      refine hK.out _ _ ?_
                      clear hK K s7
                      refine done_ (done_of HT_.out (by kernel_rfl)) ?_
                      go_wp2
                      go_roundg k1
                      case measure => have := HK1.out; omega
                      case rel => exact ⟨wrap64 (i + 1), ys2, v7, by first | rfl | (simp; done), HN, ⟨by have := HK1.out; omega⟩, HS7⟩
                  · rw [if_neg c5_] at H; cases H
                · rw [if_neg c4_] at H; cases H
              · rw [if_neg c3_] at H; cases H
            · rw [if_neg c2_] at H; cases H
          · rw [if_neg c1_] at H
            have c1b : decide (i < (q.length : Int)) = false := decide_eq_false c1_
            clear c1_
            obtain rfl := Option.some.inj H
            go_wp2
            first | go_end0 | ((try simp only [Exit.inBlock, Exit.then]); refine bodyPost_ret (results_none rfl _ _ _) rfl ?_)
            exact ⟨rfl, v', by first | exact S3.out.trans HS4.out | exact (S3.out.trans HS4.out).drewN hbr _⟩

/-! ### impl_table_groups: function 125 (a text of this session's own) -/

def impl_table_groups.T3 : Bool × List (List Nat × List Nat) := (true, [([], []), ([], []), ([], []), ([2], [2]), ([3], [3]), ([4], [4]), ([0, 1, 5], [0, 1, 5])])
def impl_table_groups.B3 : List Nat := [0, 0, 0, 4, 12, 28, 63]
theorem impl_table_groups.tab3 : rtab .any (opsOf Tryd.f125 3) = impl_table_groups.T3 := by kernel_rfl
theorem impl_table_groups.bits3 : waitsOk impl_table_groups.T3.2 impl_table_groups.B3 = true := by kernel_rfl
def impl_table_groups.f (k : Nat) (t : List Int) : Option (List (List Int)) := impl_table_groups_1.f k t [] (IntKind.u16.wrap (shl .u16 1 (t.length : Int) - 1)) []
theorem impl_table_groups.mono : ∀ a0 k, LeO (impl_table_groups.f k a0) (impl_table_groups.f (k + 1) a0) := fun a0 k => (impl_table_groups_1.mono_l k).2 _ _ _ _
set_option maxHeartbeats 8000000 in
set_option maxRecDepth 100000 in
theorem impl_table_groups.calls (k : Nat) (t : List Int) (At : Option Addr) (ct b bt1 : Nat) (v : Value) (r : List (List Int)) (w : World) (base : Nat)
    (hbt : w.heap[bt1]? = some (.cells #[.slice At t.length ct] 81 (0, 0))) (hts : Kd.F (Kd.int .u16) w (fun k => k ≠ b ∧ some k ≠ v.ownBlock) At t.length t) (hct : t.length ≤ ct)
    (hS : impl_table_full_1.St w base b v w v []) (hbase : base ≤ w.heap.size) (hG : GTab 0 w) (hlt : bt1 < base ∧ 0 < base ∧ base ≤ b) (h : impl_table_groups.f k t = some r) :
    Calls Tryd.prog 125 #[.slice At t.length ct, (.func (.func 126) #[] #[.pointer (some ⟨bt1, 0, none⟩), .pointer (some ⟨b, 0, none⟩)])] w fun e w' => e = .returned (.tuple #[]) ∧ ∃ v', impl_table_full_1.St w base b v w' v' r := by
  have HBT := Aside0.mk hbt
  have HTS := Aside0.mk hts
  have HS := Aside0.mk hS
  have HG := Aside0.mk hG
  have HL := Aside0.mk hlt
  have HF := Aside0.mk h
  have HB := Aside0.mk (Below.refl w.heap.size w)
  have LB := Aside0.mk (show b < w.heap.size from blk_lt hS.box)
  have hst := fun (a : Addr) (fn : Fn) (x y : Array Value) (m : Mode) (w : World) => run_store Tryd.prog w a (.func fn x y) m rfl
  clear hbt hts hS hG hlt h
  go_enter Tryd.func125, Tryd.ntmps125
  go_wp2_with (first
    | ((with_reducible refine gate_dst (N := 2) rfl ?_); refine bxE 2 #[.slice At t.length ct] 81 rfl ?_; intro bt hg w2 hbox hb; have BKt := Aside0.mk hbox; have NBt := Aside0.mk (show b ≠ bt from by have := LB.out; omega); have GEt := gS HB hg; replace HB := hS HB hb; clear hg hbox hb)
    | ((with_reducible refine gate_dst (N := 3) rfl ?_); refine bxE 3 #[(.func (.func 126) #[] #[.pointer (some ⟨bt1, 0, none⟩), .pointer (some ⟨b, 0, none⟩)])] 140 rfl ?_; intro be hg w3 hbox hb; have BKe := Aside0.mk hbox; have NBe := Aside0.mk (show b ≠ be from by have := LB.out; have := HB.out.size; omega); replace BKt := bS BKt hb; replace HB := hS HB hb; clear hg hbox hb)
    | ((with_reducible refine gate_dst (N := 4) rfl ?_); refine bxE 4 #[.nilFunc] 160 rfl ?_; intro ba hg w4 hbox hb; have BKa := Aside0.mk hbox; have NBa := Aside0.mk (show b ≠ ba from by have := LB.out; have := HB.out.size; omega); have NEa := nL BKe hg; have NTa := nL BKt hg; have GEa := gS HB hg; replace BKt := bS BKt hb; replace BKe := bS BKe hb; replace HB := hS HB hb; have ha0 := cz BKa 0; have ha1 := fz BKa 0; clear hg hbox hb))
  have BKa7 := Aside0.mk (blk_set BKa.out 0 (.func (.func 146) #[] #[.pointer (some ⟨be, 0, none⟩), .pointer (some ⟨ba, 0, none⟩), .pointer (some ⟨bt, 0, none⟩)]))
  have BKe7 := Aside0.mk (blk_far BKe.out (p := ⟨ba, 0, none⟩) NEa.out (.func (.func 146) #[] #[.pointer (some ⟨be, 0, none⟩), .pointer (some ⟨ba, 0, none⟩), .pointer (some ⟨bt, 0, none⟩)]))
  have BKt7 := Aside0.mk (blk_far BKt.out (p := ⟨ba, 0, none⟩) NTa.out (.func (.func 146) #[] #[.pointer (some ⟨be, 0, none⟩), .pointer (some ⟨ba, 0, none⟩), .pointer (some ⟨bt, 0, none⟩)]))
  have HB7 := Aside0.mk (below_set (j := 0) (v := (.func (.func 146) #[] #[.pointer (some ⟨be, 0, none⟩), .pointer (some ⟨ba, 0, none⟩), .pointer (some ⟨bt, 0, none⟩)])) HB.out GEa.out)
  clear ha0 ha1
  generalize w4.setCell ⟨ba, 0, none⟩ (.func (.func 146) #[] #[.pointer (some ⟨be, 0, none⟩), .pointer (some ⟨ba, 0, none⟩), .pointer (some ⟨bt, 0, none⟩)]) = w5 at BKa7 BKe7 BKt7 HB7 ⊢
  have SW := Aside0.mk (fun (W' : World) (hb : Below w5.heap.size w5 W') => (⟨pw_cell_below hb ((blk_cell BKa7.out 0).trans rfl), pw_cell_below hb ((blk_cell BKt7.out 0).trans rfl)⟩ : (fun w' : World => w'.cell? ⟨ba, 0, none⟩ = some (.func (.func 146) #[] #[.pointer (some ⟨be, 0, none⟩), .pointer (some ⟨ba, 0, none⟩), .pointer (some ⟨bt, 0, none⟩)]) ∧ w'.cell? ⟨bt, 0, none⟩ = some (.slice At t.length ct)) W'))
  have c0 : decide (0 ≤ (t.length : Int)) = true := by simp
  try go_wp2
  refine start_ (n := 7) (S := fun w' => w'.cell? ⟨ba, 0, none⟩ = some (.func (.func 146) #[] #[.pointer (some ⟨be, 0, none⟩), .pointer (some ⟨ba, 0, none⟩), .pointer (some ⟨bt, 0, none⟩)]) ∧ w'.cell? ⟨bt, 0, none⟩ = some (.slice At t.length ct)) (ds := [6]) (bz 7 0) (by kernel_rfl) rfl rfl (SW.out _ (by repeat (first | exact Below.refl _ _ | apply below_drew1 | apply pw_below_drewN))) (fun hHeld => ?_)
  refine with_tabW impl_table_groups.tab3 impl_table_groups.bits3 (fun HT_ HW_ => ?_)
  have HBd := Aside0.mk (show Below w5.heap.size w5 w5.drew from (by repeat (first | exact Below.refl _ _ | apply below_drew1 | apply pw_below_drewN)))
  generalize w5.drew = w6 at HBd hHeld ⊢
  obtain ⟨jt, hjt⟩ : ∃ j_ : Int, shl .u16 1 (t.length : Int) = j_ := ⟨_, rfl⟩
  have hjt_ : IntKind.u16.wrap (1 * 2 ^ min ((t.length : Int)).toNat 16) = jt := hjt
  have hjtz : (t.length : Int) ≤ 16 → IntKind.u16.wrap (1 * 2 ^ ((t.length : Int)).toNat) = jt := shl_small hjt
  have hjtu : IntKind.u16.wrap (2 ^ min ((t.length : Int)).toNat 16) = jt := by have h_ := hjt_; rw [Int.one_mul] at h_; exact h_
  have hjtv : (t.length : Int) ≤ 16 → IntKind.u16.wrap (2 ^ ((t.length : Int)).toNat) = jt := fun hle_ => by have h_ := hjtz hle_; rw [Int.one_mul] at h_; exact h_
  have hjtw : IntKind.u16.wrap (2 ^ min t.length 16) = jt := by have h_ := hjtu; rwa [Int.toNat_natCast] at h_
  have hjtx : IntKind.u16.wrap (1 * 2 ^ min t.length 16) = jt := by rw [Int.one_mul]; exact hjtw
  refine run_ [(1, 0, 1, some 6), (1, 2, 5, some 8), (0, 3, 13, some 9), (0, 4, 29, some 10), (0, 5, 61, some 11)] ?_
  repeat (first | (apply tag0; refine run_p (v := ?_) (a' := ?_) rfl rfl (any_of HT_.out (by kernel_rfl)) (fun _ _ _ h => h) (by rfl) ?_ ?_ ?_; rotate_left 2; (intro w'; go_simp; with_reducible rfl); (first | (simp only [Act.put, List.setIfInBounds_toArray, List.set_cons_zero, List.set_cons_succ, i64_w, i32_w]; rfl) | rfl)) | (apply tag1; refine run_t (v := ?_) (a' := ?_) rfl rfl (take_ofW HT_.out HW_.out (by kernel_rfl)) (fun _ _ _ h => h) (by rfl) ?_ hHeld ?_ ?_; rotate_left 2; (rintro w' ⟨s0, s1⟩; go_simp; with_reducible rfl); (first | (simp only [Act.put, List.setIfInBounds_toArray, List.set_cons_zero, List.set_cons_succ, i64_w, i32_w]; rfl) | rfl)))
  refine run_nil ?_
  refine one_ (i := 1) (N := some 7) (bz 7 63) rfl rfl (one_of HT_.out (by kernel_rfl)) (by decide) (fun K hK => ?_)
  refine Kd.R_lit_step (Kd.int .i64) (w0 := w5) w5.heap.size 3 (by rfl) (N := 7) rfl (xs := ([] : List Int)) (inner := []) (ok := fun _ => True) (okp := fun _ => False) ?hr ?hp (fun _ h => h.elim) trivial HBd.out (below_size HBd.out) (by simp) ?_
  case hr => first | (go_simp; done) | (go_simp; rfl)
  case hp => exact Reps.none _ _
  intro v7 w7 ho hb hg hnew
  obtain ⟨A7, c7, e7⟩ := Kd.R_slice ho
  rw [List.length_nil] at e7
  subst e7
  have HO7 := Aside0.mk ho
  have H57 := Aside0.mk hb
  refine hK.out _ _ (SW.out _ H57.out) (fun hHeld2 => ?_)
  clear hK K ho hb hg hnew
  refine norm_ (a' := ?_) ?_ ?_
  rotate_left
  · show Act.put _ (some 7) _ = _
    simp only [Act.put, List.setIfInBounds_toArray, List.set_cons_zero, List.set_cons_succ, i64_w, i32_w]
    rfl
  have HBw := Aside0.mk (below_step HB7.out H57.out)
  have S7 := Aside0.mk (HS.out.later hbase HBw.out)
  have B7 := Aside0.mk (Nat.le_trans hbase HBw.out.size)
  have HX7 := Aside0.mk (⟨blk_below BKe7.out H57.out, blk_below BKa7.out H57.out, blk_below BKt7.out H57.out, blk_below HBT.out HBw.out, Kd.F_below HTS.out HBw.out, hct, GTab.up HG.out HBw.out, ⟨HL.out.1, HL.out.2.1, Ne.symm NBe.out, Ne.symm NBa.out, Ne.symm NBt.out, HL.out.2.2⟩⟩ : impl_table_groups_1.Bx w7 base b v t At ct be ba bt bt1)
  refine last_ (i := 6) (N := some 12) (bz 7 127) rfl rfl (one_of HT_.out (by kernel_rfl)) (by decide) (fun K hK => ?_)
  refine call_ 146 #[.slice A7 0 c7, .int .u16 (IntKind.u16.wrap (jt - 1)), .pointer (some ⟨be, 0, none⟩), .pointer (some ⟨ba, 0, none⟩), .pointer (some ⟨bt, 0, none⟩)] (by rfl) rfl ?_ ?_
  · have he := fun W_ => enters_ Tryd.func146 (by kernel_rfl) rfl #[.slice A7 0 c7, .int .u16 (IntKind.u16.wrap (jt - 1)), .pointer (some ⟨be, 0, none⟩), .pointer (some ⟨ba, 0, none⟩), .pointer (some ⟨bt, 0, none⟩)] W_
    unfold execOp
    simp [resolve, Deferred.ofValue, invoke, Act.eval, he]
  have HF2 := HF.out
  unfold impl_table_groups.f at HF2
  rw [hjt] at HF2
  refine (impl_table_groups_1.calls k t At ct be ba bt bt1 A7 c7 [] _ b v [] r w7 base HX7.out (Kd.R_lower (Kd.R_mono (Kd.R_bound HO7.out) (fun k_ hk => (by have := LB.out; have := HB7.out.size; exact ⟨by have := hk.2.1; omega, by have := hk.2.1; have := hbase; omega⟩))) (Nat.le_trans hbase HB7.out.size)) (Kd.S_below (Kd.S_mono (Kd.S_bound HS.out.row) (fun k_ hk => ⟨hk.1, fun he => by have := Kd.R_base HO7.out k_ he.symm; have := hk.2.2.1; have := HB7.out.size; omega⟩)) HBw.out) S7.out.self B7.out HF2).mono ?_
  rintro e w8 ⟨rfl, v8, s8⟩
  refine ⟨_, rfl, ?_⟩
  have S8 := Aside0.mk (S7.out.trans s8)
  refine hK.out _ _ ?_
  clear hK K s8
  refine done_ (done_of HT_.out (by kernel_rfl)) ?_
  (try go_wp2)
  first | go_end0 | ((try simp only [Exit.inBlock, Exit.then]); refine bodyPost_ret (results_none rfl _ _ _) rfl ?_)
  exact ⟨rfl, v8, S8.out⟩

/-! ### impl_table_full: function 89 (a text of this session's own) -/

def impl_table_full.f (k : Nat) (t : List Int) : Option (List (List Int)) := impl_table_groups.f k t
theorem impl_table_full.mono : ∀ a0 k, LeO (impl_table_full.f k a0) (impl_table_full.f (k + 1) a0) := impl_table_groups.mono
set_option maxHeartbeats 8000000 in
set_option maxRecDepth 100000 in
theorem impl_table_full.calls (k : Nat) (At : Option Addr) (ct : Nat) (t : List Int) (r : List (List Int)) (w : World) (hr : Kd.C (Kd.int .u16) w At t.length t) (hc : t.length ≤ ct) (h : impl_table_full.f k t = some r) (hG : GTab 0 w := by first | exact Aside0.out ‹Aside0 (GTab _ _)› | exact GTab.up (Aside0.out ‹Aside0 (GTab _ _)›) (by repeat (first | (with_reducible first | exact Below.refl _ _ | exact Aside0.out ‹Aside0 (Below _ _ _)› | apply below_alloc | apply pw_below_drewN | apply below_drew1 | refine below_set ?_ (Aside0.out (by assumption))) | exact Aside0.out ‹Aside0 (Below _ _ _)›))) :
    Calls Tryd.prog 89 #[.slice At t.length ct] w fun e w' => ∃ v0_ : Value, e = .returned (v0_) ∧ Kd.S (Kd.slice 3 (Kd.int .i64)) 75 w' w.heap.size (fun _ => True) v0_ r ∧ Below w.heap.size w w' := by
  have HR := Aside0.mk (Kd.C_F (Kd.heap_int _) hr)
  have HG := Aside0.mk hG
  have HF := Aside0.mk h
  have LG := Aside0.mk (show 0 < w.heap.size from World.block_lt_of_cell? w _ (hG 0 (by decide)))
  clear hr hG h
  go_enter Tryd.func89, Tryd.ntmps89
  go_wp2_with (first
    | ((with_reducible refine gate_dst (N := 1) rfl ?_); refine bxE 1 #[.slice At t.length ct] 81 rfl ?_; intro bt1 hg w2 hbox hb; have BKt := Aside0.mk hbox; have H02 := Aside0.mk hb; have ht0 := cz BKt 0; clear hg hbox hb)
    | ((with_reducible refine gate_dst (N := 4) rfl ?_); refine Kd.S_lit (Kd.slice 3 (Kd.int .i64)) _ 75 ?hg (N := 4) ?hd (xs := ([] : List (List Int))) (inner := []) (ok := fun _ => True) (okp := fun _ => True) ?hr ?hp (fun _ hk => hk) trivial (Below.refl _ _) (Nat.le_refl _) (by simp) ?_; (case hd => rfl); (case hg => rfl); (case hr => first | (go_simp; done) | (go_simp; rfl)); (case hp => exact (Reps.none _ _)); intro v0 w3 ho hb hg_ hnew_; have HO3 := Aside0.mk ho; have H23 := Aside0.mk hb; clear ho hb hg_ hnew_ ht0; obtain ⟨A3, c3, e3⟩ := Kd.S_slice HO3.out; rw [List.length_nil] at e3; subst e3)
    | ((with_reducible refine gate_dst (N := 3) rfl ?_); refine bxE 3 #[.slice none 0 0] 58 rfl ?_; intro b hg w4 hbox hb; have BKb := Aside0.mk hbox; have GB := Aside0.mk (show b = w3.heap.size from hg); have H34 := Aside0.mk hb; have hbc := cz BKb 0; have hbf := fz BKb 0; have ht0 : w4.cell? ⟨bt1, 0, none⟩ = some (.slice At t.length ct) := (blk_cell (blk_below (blk_below BKt.out H23.out) hb) 0).trans rfl; have hnb : bt1 ≠ b := (by have := blk_lt BKt.out; have := H23.out.size; omega); have hnc : b ≠ bt1 := Ne.symm hnb; clear hg hbox hb)
    | (go_at_call 125; have q4 : Below w3.heap.size w3 (w4.setCell ⟨b, 0, none⟩ (.slice A3 0 c3)) := below_set H34.out (Nat.le_of_eq GB.out.symm); have q2 : Below w2.heap.size w2 (w4.setCell ⟨b, 0, none⟩ (.slice A3 0 c3)) := below_step H23.out q4; have q0 : Below w.heap.size w (w4.setCell ⟨b, 0, none⟩ (.slice A3 0 c3)) := below_step H02.out q2; have hb2 : w2.heap.size ≤ b := (by rw [GB.out]; exact H23.out.size); have hS9 : impl_table_full_1.St (w4.setCell ⟨b, 0, none⟩ (.slice A3 0 c3)) w2.heap.size b (.slice A3 0 c3) (w4.setCell ⟨b, 0, none⟩ (.slice A3 0 c3)) (.slice A3 0 c3) [] := ⟨blk_set BKb.out 0 _, Kd.S_below (Kd.S_mono (Kd.S_bound HO3.out) (fun k_ hk => ⟨by have := hk.2.2.1; have := GB.out; omega, hk.2.1⟩)) q4, Below.refl _ _, fun _ _ _ => rfl, .inl rfl⟩; have own : ∀ k_, k_ < w2.heap.size → some k_ ≠ (Value.slice A3 0 c3).ownBlock := fun k_ hk he => (by have := Kd.S_base HO3.out _ he.symm; omega); have lt1 : bt1 < w2.heap.size := blk_lt BKt.out; have s02 := H02.out.size; have lg := LG.out; refine (impl_table_groups.calls k t At ct b bt1 (.slice A3 0 c3) r _ w2.heap.size (blk_below BKt.out q2) (Kd.F_mono (Kd.F_below HR.out q0) (fun k_ hk => ⟨by have := hk; omega, own k_ (by have := hk; omega)⟩)) hc hS9 q2.size (GTab.up HG.out q0) ⟨lt1, by omega, hb2⟩ HF.out).mono ?_; rintro e w5 ⟨rfl, v', s⟩; have S5 := Aside0.mk s; have Q5 := Aside0.mk (q0.trans (s.below.mono s02)); have LW := Aside0.mk s02; have hso : w5.cell? ⟨b, 0, none⟩ = some v' := (blk_cell s.box 0).trans rfl; clear s hS9 own lt1 lg s02 hb2 q4 q2 q0 hbc hbf))
  go_ret
  exact ⟨_, rfl, Kd.S_mono (Kd.S_lower S5.out.row LW.out) (fun _ _ => trivial), Q5.out⟩

/-! ### impl_table_others: function 94 -/
def impl_table_others.l0 : Nat → List Int → List Int → Int → Int → Option (List Int)
 | 0, _, _, _, _ => none
 | k + 1, x0, x3, x9, x10 => if x10 < x9 then (if 0 ≤ x10 then (if x10 < (x0.length : Int) then (if x10 < (x3.length : Int) then (impl_table_others.l0 k x0 (x3.set (x10 : Int).toNat (Go.bits .andNot .u16 (Go.bits .andNot .u16 (IntKind.u16.wrap ((shl .u16 1 (x0.length : Int)) - 1)) (rd x0 x10)) (shl .u16 1 x10))) x9 (wrap64 (x10 + 1))) else (none)) else (none)) else (none)) else (some x3)
def impl_table_others.f (k : Nat) (l0 : List Int) : Option (List Int) := if 0 ≤ (l0.length : Int) then (if ((l0.length : Int) : Int).toNat ≤ 140737488355328 then (impl_table_others.l0 k l0 (List.replicate ((l0.length : Int) : Int).toNat 0) (l0.length : Int) 0) else (none)) else (none)
theorem impl_table_others.mono_l : ∀ k, (∀ y0 y1 y2 y3, LeO (impl_table_others.l0 k y0 y1 y2 y3) (impl_table_others.l0 (k + 1) y0 y1 y2 y3))
 | 0 => fun _ _ _ _ r h => by simp [impl_table_others.l0] at h
 | k + 1 => by
  have ih0 := impl_table_others.mono_l k
  ·intro y0 y1 y2 y3
   unfold impl_table_others.l0
   repeat' first
   | (with_reducible exact ih0 _ _ _ _)
   | (with_reducible exact LeO.refl _)
   | (with_reducible exact LeO.none _)
   | (with_reducible refine LeO.ite ?_ ?_)
   | (with_reducible refine LeO.bind ?_ (fun _ => ?_))
   | exact ih0 _ _ _ _
   | exact LeO.none _
   | refine LeO.ite ?_ ?_
   | refine LeO.bind ?_ (fun _ => ?_)
theorem impl_table_others.mono : ∀ a0 k, LeO (impl_table_others.f k a0) (impl_table_others.f (k + 1) a0) := by
 intro a0 k
 have ih0 := impl_table_others.mono_l k
 unfold impl_table_others.f
 repeat' first
   | (with_reducible exact ih0 _ _ _ _)
   | (with_reducible exact LeO.refl _)
   | (with_reducible exact LeO.none _)
   | (with_reducible refine LeO.ite ?_ ?_)
   | (with_reducible refine LeO.bind ?_ (fun _ => ?_))
   | exact ih0 _ _ _ _
   | exact LeO.none _
   | refine LeO.ite ?_ ?_
   | refine LeO.bind ?_ (fun _ => ?_)
def impl_table_others.T5 : Bool × List (List Nat × List Nat) := (true, [([], []), ([], []), ([], []), ([2], [2]), ([3], [3]), ([4], [4]), ([], []), ([], []), ([6, 7], [6, 7]), ([8], [8]), ([5, 9], [5, 9]), ([], []), ([11], [11]), ([10, 12], [10, 12]), ([0, 1, 0, 1, 2, 3, 4, 5, 6, 7, 8, 9, 10, 11, 12, 13], [0, 1]), ([14, 13, 0, 1, 2, 3, 4, 5, 6, 7, 8, 9, 10, 11, 12, 13], [13, 14])])
def impl_table_others.B5 : List Nat := [0, 0, 0, 4, 12, 28, 0, 0, 192, 448, 1020, 0, 2048, 8188, 16383, 32767]
theorem impl_table_others.tab5 : rtab .any (opsOf Tryd.f94 5) = impl_table_others.T5 := by kernel_rfl
theorem impl_table_others.bits5 : waitsOk impl_table_others.T5.2 impl_table_others.B5 = true := by kernel_rfl
set_option maxHeartbeats 8000000 in
set_option maxRecDepth 100000 in
theorem impl_table_others.calls (k : Nat) (A0 : Option Addr) (c0 : Nat) (l0 : List Int) (r : List Int) (w : World) (hr0 : Kd.C (Kd.int .u16) w A0 l0.length l0) (hc0 : l0.length ≤ c0) (h : impl_table_others.f k l0 = some r) :
  Calls Tryd.prog 94 #[.slice A0 l0.length c0] w fun e w' => ∃ v0_ : Value, e = .returned (v0_) ∧ Kd.R (Kd.int .u16) 97 w' w.heap.size (fun _ => True) v0_ r ∧ Below w.heap.size w w' := by
 have HR0 := Aside0.mk hr0
 have HC0 := Aside0.mk hc0
 clear hr0 hc0
 have HB := Aside0.mk (Below.refl w.heap.size w)
 have H : (if 0 ≤ (l0.length : Int) then (if ((l0.length : Int) : Int).toNat ≤ 140737488355328 then (impl_table_others.l0 k l0 (List.replicate ((l0.length : Int) : Int).toNat 0) (l0.length : Int) 0) else (none)) else (none)) = some r := h
 clear h
 by_cases c2 : 0 ≤ (l0.length : Int)
 ·rw [if_pos c2] at H
  have c2b0 := eq_true c2
  have c2b1 : decide (0 ≤ (l0.length : Int)) = true := decide_eq_true c2
  clear c2
  by_cases c3 : ((l0.length : Int) : Int).toNat ≤ 140737488355328
  ·rw [if_pos c3] at H
   have c3b0 := eq_true c3
   have c3b1 : decide (((l0.length : Int) : Int).toNat ≤ 140737488355328) = true := decide_eq_true c3
   clear c3
   obtain ⟨y259, hy259⟩ : ∃ y_ : List Int, y_ = (List.replicate ((l0.length : Int) : Int).toNat 0) := ⟨_, rfl⟩
   replace H : (impl_table_others.l0 k l0 y259 (l0.length : Int) 0) = some r := by first | (rw [hy259]; with_reducible exact H) | (have H2_ := (Option.bind_some _ _).symm.trans H; rw [hy259]; with_reducible exact H2_) | (have H2_ := (Option.bind_some _ _).symm.trans H; with_reducible exact H2_) | with_reducible exact H | (rw [hy259]; exact H) | exact H
   have Ny259 := Aside0.mk hy259
   clear hy259
   have H' := Aside0.mk H
   clear H
   go_enter Tryd.func94, Tryd.ntmps94
   go_wp2_with (first | ((with_reducible refine gate_dst (N := 7) rfl ?_); refine Kd.R_make (Kd.int .u16) _ 97 rfl (N := 7) rfl 81 _ _ rfl (l0.length : Int) rfl rfl Tryd.underlying81 (.int .u16 0) 2 info97 rfl (by decide) (by omega) 0 (ok := fun _ => True) (okp := fun _ => True) rfl (fun _ hk => hk) trivial (of_decide_eq_true (by first | (with_reducible assumption) | assumption)) (Nat.le_trans (Nat.mul_le_mul_right _ (of_decide_eq_true (by first | (with_reducible assumption) | assumption) : (l0.length : Int).toNat ≤ 140737488355328)) (by omega)) (Below.refl _ _) (Nat.le_refl _) ?_; intro v260 w4 ho5 hb hg_ hnew_; clear hg_ hnew_; (first | rw [← Ny259.out] at ho5 | (simp only [Int.reduceToNat] at ho5; rw [← Ny259.out] at ho5)); have HO261 := Aside0.mk (Kd.R_lower ho5 (below_size hB)); replace HB := hS HB hb; clear hb ho5))
   go_loopg [10] k (fun kq v10 w' => ∃ (x3_1 : List Int) (x10_1 : Int), v10 = .int .i64 x10_1 ∧ Aside0 (impl_table_others.l0 kq l0 x3_1 (l0.length : Int) x10_1 = some r) ∧ Aside0 (kq ≤ k) ∧ Aside0 (Kd.R (Kd.int .u16) 97 w' w.heap.size (fun _ => True) v260 x3_1) ∧ Aside0 (Below w.heap.size w w'))
   case atStart => exact ⟨(y259), (0), (by first | rfl | (simp; done) | (simp [*]; done)), H', ⟨Nat.le_refl _⟩, ⟨rU HO261⟩, ⟨hB⟩⟩
   case round =>
    clear H'
    try clear c2
    try clear c2b0
    try clear c2b1
    try clear p2
    try clear c3
    try clear c3b0
    try clear c3b1
    obtain ⟨x3_1, x10_1, rfl, HA, HK1, HO_3, HB⟩ := hrel
    cases gk with
    | zero => exact absurd HA.out (by simp [impl_table_others.l0])
    | succ k1 =>
     have H := HA.out
     clear HA
     simp only [impl_table_others.l0] at H
     by_cases c6 : x10_1 < (l0.length : Int)
     ·rw [if_pos c6] at H
      have c6b0 : decide (x10_1 < (l0.length : Int)) = true := decide_eq_true c6
      clear c6
      obtain ⟨ji7, hji7⟩ : ∃ j_ : Int, (shl .u16 1 (l0.length : Int)) = j_ := ⟨_, rfl⟩
      replace H : (if 0 ≤ x10_1 then (if x10_1 < (l0.length : Int) then (if x10_1 < (x3_1.length : Int) then (impl_table_others.l0 k1 l0 (x3_1.set (x10_1 : Int).toNat (Go.bits .andNot .u16 (Go.bits .andNot .u16 (IntKind.u16.wrap ((ji7) - 1)) (rd l0 x10_1)) (shl .u16 1 x10_1))) (l0.length : Int) (wrap64 (x10_1 + 1))) else (none)) else (none)) else (none)) = some r := by first | (rw [hji7] at H; exact H) | (simp only [hji7] at H ⊢; exact H)
      have hji7_ : (IntKind.u16.wrap (1 * 2 ^ min (l0.length : Int).toNat 16)) = ji7 := hji7
      have hji7z : (l0.length : Int) ≤ 16 → (IntKind.u16.wrap (1 * 2 ^ (l0.length : Int).toNat)) = ji7 := shl_small hji7
      have hji7p : (IntKind.u16.wrap (1 * 2 ^ min l0.length 16)) = ji7 := hji7_
      have hji7q : (l0.length : Int) ≤ 16 → (IntKind.u16.wrap (1 * 2 ^ l0.length)) = ji7 := hji7z
      have hji7r : (IntKind.u16.wrap (2 ^ min l0.length 16)) = ji7 := by have h_ := hji7p; rw [Int.one_mul] at h_; exact h_
      have hji7s : (l0.length : Int) ≤ 16 → (IntKind.u16.wrap (2 ^ l0.length)) = ji7 := fun hle_ => by have h_ := hji7q hle_; rw [Int.one_mul] at h_; exact h_
      have hji7u : (IntKind.u16.wrap (2 ^ min (l0.length : Int).toNat 16)) = ji7 := by have h_ := hji7_; rw [Int.one_mul] at h_; exact h_
      have hji7v : (l0.length : Int) ≤ 16 → (IntKind.u16.wrap (2 ^ (l0.length : Int).toNat)) = ji7 := fun hle_ => by have h_ := hji7z hle_; rw [Int.one_mul] at h_; exact h_
      by_cases c8 : 0 ≤ x10_1
      ·rw [if_pos c8] at H
       have c8b0 : decide (0 ≤ x10_1) = true := decide_eq_true c8
       clear c8
       by_cases c9 : x10_1 < (l0.length : Int)
       ·rw [if_pos c9] at H
        have c9b0 : decide (x10_1 < (l0.length : Int)) = true := decide_eq_true c9
        clear c9
        have c10b0 := eq_true (of_decide_eq_true (by first | (with_reducible assumption) | assumption) : 0 ≤ x10_1)
        obtain ⟨ji11, hji11⟩ : ∃ j_ : Int, (shl .u16 1 x10_1) = j_ := ⟨_, rfl⟩
        replace H : (if x10_1 < (x3_1.length : Int) then (impl_table_others.l0 k1 l0 (x3_1.set (x10_1 : Int).toNat (Go.bits .andNot .u16 (Go.bits .andNot .u16 (IntKind.u16.wrap ((ji7) - 1)) (rd l0 x10_1)) (ji11))) (l0.length : Int) (wrap64 (x10_1 + 1))) else (none)) = some r := by first | (rw [hji11] at H; exact H) | (simp only [hji11] at H ⊢; exact H)
        have hji11_ : (IntKind.u16.wrap (1 * 2 ^ min x10_1.toNat 16)) = ji11 := hji11
        have hji11z : x10_1 ≤ 16 → (IntKind.u16.wrap (1 * 2 ^ x10_1.toNat)) = ji11 := shl_small hji11
        have hji11u : (IntKind.u16.wrap (2 ^ min x10_1.toNat 16)) = ji11 := by have h_ := hji11_; rw [Int.one_mul] at h_; exact h_
        have hji11v : x10_1 ≤ 16 → (IntKind.u16.wrap (2 ^ x10_1.toNat)) = ji11 := fun hle_ => by have h_ := hji11z hle_; rw [Int.one_mul] at h_; exact h_
        by_cases c12 : x10_1 < (x3_1.length : Int)
        ·rw [if_pos c12] at H
         have c12b0 : decide (x10_1 < (x3_1.length : Int)) = true := decide_eq_true c12
         clear c12
         obtain ⟨y263, hy263⟩ : ∃ y_ : List Int, y_ = (x3_1.set (x10_1 : Int).toNat (Go.bits .andNot .u16 (Go.bits .andNot .u16 (IntKind.u16.wrap ((ji7) - 1)) (rd l0 x10_1)) (ji11))) := ⟨_, rfl⟩
         replace H : (impl_table_others.l0 k1 l0 y263 (l0.length : Int) (wrap64 (x10_1 + 1))) = some r := by first | (rw [hy263]; with_reducible exact H) | (have H2_ := (Option.bind_some _ _).symm.trans H; rw [hy263]; with_reducible exact H2_) | (have H2_ := (Option.bind_some _ _).symm.trans H; with_reducible exact H2_) | with_reducible exact H | (rw [hy263]; exact H) | exact H
         have Ny263 := Aside0.mk hy263
         clear hy263
         have H' := Aside0.mk H
         clear H
         try go_wp2
         replace HO_3 := Aside0.mk (Kd.R_drew HO_3.out)
         replace HB := Aside0.mk (below_drew1 HB.out)
         have p262 : 0 ≤ (x10_1 : Int) := of_decide_eq_true (by first | (with_reducible assumption) | assumption)
         have q262 : x10_1 < (l0.length : Int) := of_decide_eq_true (by first | (with_reducible assumption) | assumption)
         obtain ⟨ad262, e262, hx262_0⟩ := Kd.at_int HR0.out x10_1 p262 q262
         have hw262_0 := hx262_0
         cases e262
         replace hx262_0 := (HB.out.cell (World.block_lt_of_cell? w _ hx262_0)).trans hx262_0
         replace p262 := eq_true p262
         replace q262 := eq_true q262
         have p13 : 0 ≤ (x10_1 : Int) := of_decide_eq_true (by first | (with_reducible assumption) | assumption)
         have q13 : (x10_1 : Int) < ((x3_1.length : Int) : Int) := of_decide_eq_true (by first | (with_reducible assumption) | assumption)
         obtain ⟨go13, co13, eo13, gb13, gl13, cl13, HG13⟩ := Kd.R_form HO_3.out (by omega)
         (first | cases eo13 | (injection eo13 with ea_ en_ ec_; (first | subst ea_ | (injection ea_ with ea_; subst ea_)); subst ec_; clear en_))
         have GB13 := Aside0.mk gb13
         have GG13 := Aside0.mk HG13
         clear gb13 gl13 HG13
         obtain ⟨hx13_0, hf13_0⟩ := Kd.R_celln 0 HO_3.out (x10_1 : Int) p13 q13
         replace p13 := eq_true p13
         replace q13 := eq_true q13
         have HP15 := Kd.R_putn HO_3.out (x10_1 : Int) (Go.bits .andNot .u16 (Go.bits .andNot .u16 (IntKind.u16.wrap ((ji7) - 1)) (rd l0 x10_1)) (ji11))
         rw [← Ny263.out] at HP15
         have HQ15 := Aside0.mk HP15
         clear HP15
         refine start_ (n := 16) (S := fun w' => w'.cell? (ad262.add (x10_1).toNat) = some (.int .u16 (rd l0 x10_1))) (ds := [15]) (bz 16 0) (by kernel_rfl) rfl rfl (((HB.out.cell (World.block_lt_of_cell? w _ hw262_0)).trans hw262_0)) (fun hHeld => ?_); refine with_tabW impl_table_others.tab5 impl_table_others.bits5 (fun HT_ HW_ => ?_)
         generalize wr.drew = w14 at HO_3 HB GG13 HQ15 hf13_0 hx13_0 hx262_0 hHeld ⊢
         refine run_ [(0, 0, 1, some 13), (0, 1, 3, some 14), (0, 2, 7, some 15), (0, 3, 15, some 16), (0, 4, 31, some 17), (0, 5, 63, some 18), (0, 6, 127, some 19), (0, 7, 255, some 20), (0, 8, 511, some 21), (0, 11, 2559, some 24), (0, 12, 6655, some 25), (1, 9, 7167, some 22), (0, 10, 8191, some 23), (0, 13, 16383, some 26), (0, 14, 32767, some 27)] ?_
         repeat (first | (apply tag0; refine run_p (v := ?_) (a' := ?_) rfl rfl (any_of HT_.out (by kernel_rfl)) (fun _ _ _ h => h) (by rfl) ?_ ?_ ?_; rotate_left 2; (intro w'; go_simp; with_reducible rfl); (first | (simp only [Act.put, List.setIfInBounds_toArray, List.set_cons_zero, List.set_cons_succ, i64_w, i32_w]; rfl) | rfl)) | (apply tag1; refine run_t (v := ?_) (a' := ?_) rfl rfl (take_ofW HT_.out HW_.out (by kernel_rfl)) (fun _ _ _ h => h) (by rfl) ?_ hHeld ?_ ?_; rotate_left 2; (intro w' s0; go_simp; with_reducible rfl); (first | (simp only [Act.put, List.setIfInBounds_toArray, List.set_cons_zero, List.set_cons_succ, i64_w, i32_w]; rfl) | rfl)))
         refine run_nil ?_
         refine last_ (i := 15) (N := none) (bz 16 65535) rfl rfl (one_of HT_.out (by kernel_rfl)) (by decide) (fun K hK => ?_)
         refine skip_ (w1 := ?_) (by rfl) rfl ?_ ?_
         rotate_left
         ·go_simp
          rfl
         refine hK.out _ _ ?_
         clear hK K
         refine done_ (done_of HT_.out (by kernel_rfl)) ?_
         try go_wp2
         go_roundg k1
         case measure => have := HK1.out; omega
         case rel => exact ⟨(y263), (wrap64 (x10_1 + 1)), (by first | rfl | (simp; done) | (simp [*]; done)), H', ⟨by have := HK1.out; omega⟩, ⟨by (with_reducible repeat (first | apply Kd.R_alloc | apply Kd.R_drewN | apply Kd.R_drew)); exact HQ15.out⟩, ⟨by repeat (first | (with_reducible first | exact HB.out | apply below_alloc | apply pw_below_drewN | apply below_drew1 | refine below_set ?_ GB13.out) | exact HB.out)⟩⟩
        ·rw [if_neg c12] at H
         exact absurd H (by simp)
       ·rw [if_neg c9] at H
        exact absurd H (by simp)
      ·rw [if_neg c8] at H
       exact absurd H (by simp)
     ·rw [if_neg c6] at H
      have c6b0 : decide (x10_1 < (l0.length : Int)) = false := decide_eq_false c6
      clear c6
      obtain rfl := Option.some.inj H
      go_wp2
      go_ret
      exact ⟨_, by first | rfl | (simp [errW_none, errW_some] <;> rfl) | (simp [*, errW_none, errW_some] <;> rfl), rU HO_3, hB⟩
  ·rw [if_neg c3] at H
   exact absurd H (by simp)
 ·rw [if_neg c2] at H
  exact absurd H (by simp)

/-! ### impl_AllApart: function 45 -/
def impl_AllApart.f (k : Nat) (a0_0 : Int) (l0_1 : List (S105)) : Option ((List (List Int)) × Bool) := (impl_IsParty.f k a0_0 l0_1).bind fun t265 => (if t265 = true then ((impl_Party_table.f k a0_0 l0_1).bind fun t266 => ((impl_table_others.f k t266).bind fun t269 => ((impl_table_full.f k t269).bind fun t272 => (some (t272, true))))) else (some (([] : List (List Int)), false)))
theorem impl_AllApart.mono : ∀ a0 a1 k, LeO (impl_AllApart.f k a0 a1) (impl_AllApart.f (k + 1) a0 a1) := by
 intro a0 a1 k
 unfold impl_AllApart.f
 repeat' first
   | (with_reducible exact impl_IsParty.mono _ _ _)
   | (with_reducible exact impl_Party_table.mono _ _ _)
   | (with_reducible exact impl_table_full.mono _ _)
   | (with_reducible exact impl_table_others.mono _ _)
   | (with_reducible exact LeO.refl _)
   | (with_reducible exact LeO.none _)
   | (with_reducible refine LeO.ite ?_ ?_)
   | (with_reducible refine LeO.bind ?_ (fun _ => ?_))
   | exact impl_IsParty.mono _ _ _
   | exact impl_Party_table.mono _ _ _
   | exact impl_table_full.mono _ _
   | exact impl_table_others.mono _ _
   | exact LeO.none _
   | refine LeO.ite ?_ ?_
   | refine LeO.bind ?_ (fun _ => ?_)
set_option maxHeartbeats 8000000 in
set_option maxRecDepth 100000 in
theorem impl_AllApart.calls (k : Nat) (a0_0 : Int) (A0_1 : Option Addr) (c0_1 : Nat) (l0_1 : List (S105)) (r1 : List (List Int)) (r2 : Bool) (w : World) (hr0_1 : Kd.C k105 w A0_1 l0_1.length l0_1) (hc0_1 : l0_1.length ≤ c0_1) (h : impl_AllApart.f k a0_0 l0_1 = some (r1, r2)) (hG : GTab 0 w := by first | exact Aside0.out ‹Aside0 (GTab _ _)› | exact GTab.up (Aside0.out ‹Aside0 (GTab _ _)›) (by repeat (first | (with_reducible first | exact Below.refl _ _ | exact Aside0.out ‹Aside0 (Below _ _ _)› | apply below_alloc | apply pw_below_drewN | apply below_drew1 | refine below_set ?_ (Aside0.out (by assumption))) | exact Aside0.out ‹Aside0 (Below _ _ _)›))) :
  Calls Tryd.prog 45 #[.agg #[.int .i64 a0_0, .slice A0_1 l0_1.length c0_1]] w fun e w' => ∃ v0_ : Value, e = .returned (.tuple #[v0_, .bool r2]) ∧ Kd.S (Kd.slice 3 (Kd.int .i64)) 75 w' w.heap.size (fun _ => True) v0_ r1 ∧ Below w.heap.size w w' := by
 have hu33 := Tryd.underlying33
 have HG := Aside0.mk (p := GTab _ _) hG
 clear hG
 have HR0_1 := Aside0.mk hr0_1
 have HC0_1 := Aside0.mk hc0_1
 clear hr0_1 hc0_1
 have HB := Aside0.mk (Below.refl w.heap.size w)
 have H : ((impl_IsParty.f k a0_0 l0_1).bind fun t265 => (if t265 = true then ((impl_Party_table.f k a0_0 l0_1).bind fun t266 => ((impl_table_others.f k t266).bind fun t269 => ((impl_table_full.f k t269).bind fun t272 => (some (t272, true))))) else (some (([] : List (List Int)), false)))) = some (r1, r2) := h
 clear h
 replace H := Option.bind_eq_some_iff.mp H
 obtain ⟨t265, A20, H⟩ := H
 try dsimp only at H
 have A2 := Aside0.mk A20
 clear A20
 by_cases c3 : t265 = true
 ·subst c3
  rw [if_pos rfl] at H
  replace H := Option.bind_eq_some_iff.mp H
  obtain ⟨t266, A40, H⟩ := H
  try dsimp only at H
  have A4 := Aside0.mk A40
  clear A40
  replace H := Option.bind_eq_some_iff.mp H
  obtain ⟨t269, A50, H⟩ := H
  try dsimp only at H
  have A5 := Aside0.mk A50
  clear A50
  replace H := Option.bind_eq_some_iff.mp H
  obtain ⟨t272, A60, H⟩ := H
  replace H : (some (t272, true)) = some (r1, r2) := H
  have A6 := Aside0.mk A60
  clear A60
  simp only [Option.some.injEq, Prod.mk.injEq] at H
  obtain ⟨rfl, rfl⟩ := H
  go_enter Tryd.func45, Tryd.ntmps45
  go_wp2_with (first | ((with_reducible refine gate_dst (N := 1) rfl ?_); refine bxE 1 #[.int .i64 a0_0, .slice A0_1 l0_1.length c0_1] 33 rfl ?_; intro gb264 hg w7 hbox hb; have BK264 := Aside0.mk (hbox); have GW264 := gS HB hg; have GE264 := gS HB hg; replace HB := hS HB hb; clear hb hbox hg; have hcz8_0 := cz BK264 0; have hcz8_1 := cz BK264 1; have hfz8_0 := fz BK264 0; have hfz8_1 := fz BK264 1) | ((with_reducible refine gate_callee (f := 76) rfl ?_); refine goC (N := some 5) Tryd.func76 #[.agg #[.int .i64 a0_0, .slice A0_1 l0_1.length c0_1]] rfl ?_; (with_reducible refine (impl_IsParty.calls k a0_0 _ _ l0_1 true _ ?side1 ?side2 A2.out).mono ?_); (case side1 => exact cS (Kd.C_below HR0_1.out HB.out)); (case side2 => exact HC0_1.out); rintro e w9 ⟨rfl, hb⟩; refine ⟨_, rfl, ?_⟩; replace BK264 := bS BK264 hb; replace HB := hS HB hb; (try clear hb); (try clear hb2); (try clear hk); (try clear hi); have hcz10_0 := cz BK264 0; have hcz10_1 := cz BK264 1; have hfz10_0 := fz BK264 0; have hfz10_1 := fz BK264 1) | ((with_reducible refine gate_callee (f := 61) rfl ?_); refine goC (N := some 8) Tryd.func61 #[.agg #[.int .i64 a0_0, .slice A0_1 l0_1.length c0_1]] rfl ?_; (with_reducible refine (impl_Party_table.calls k a0_0 _ _ l0_1 t266 _ ?side1 ?side2 A4.out).mono ?_); (case side1 => exact cS (Kd.C_below HR0_1.out HB.out)); (case side2 => exact HC0_1.out); rintro e w11 ⟨v267, rfl, ho0, hb⟩; refine ⟨_, rfl, ?_⟩; have HO268 := Aside0.mk (Kd.R_lower ho0 (below_size hB)); replace BK264 := bS BK264 hb; replace HB := hS HB hb; (try clear hb); (try clear hb2); (try clear hk); (try clear hi); (try clear ho0); obtain ⟨Ao12, co12, eo12⟩ := Kd.R_slice HO268.out; subst eo12) | ((with_reducible refine gate_callee (f := 94) rfl ?_); refine goC (N := some 9) Tryd.func94 #[.slice Ao12 t266.length co12] rfl ?_; (with_reducible refine (impl_table_others.calls k _ _ t266 t269 _ ?side1 ?side2 A5.out).mono ?_); (case side1 => exact cS (Kd.R_reads' HO268.out).2.2); (case side2 => exact (Kd.R_reads' HO268.out).2.1); rintro e w13 ⟨v270, rfl, ho0, hb⟩; refine ⟨_, rfl, ?_⟩; have HO271 := Aside0.mk (Kd.R_lower (Kd.R_new' ho0 (Kd.R_lt (rU HO268))) (below_size hB)); replace HO268 := Aside0.mk (Kd.R_elder' (rU HO268) (Kd.R_base ho0) hb); replace BK264 := bS BK264 hb; replace HB := hS HB hb; (try clear hb); (try clear hb2); (try clear hk); (try clear hi); (try clear ho0); obtain ⟨Ao14, co14, eo14⟩ := Kd.R_slice HO271.out; subst eo14) | ((with_reducible refine gate_callee (f := 89) rfl ?_); refine goC (N := some 10) Tryd.func89 #[.slice Ao14 t269.length co14] rfl ?_; (with_reducible refine (impl_table_full.calls k _ _ t269 t272 _ ?side1 ?side2 A6.out).mono ?_); (case side1 => exact cS (Kd.R_reads' HO271.out).2.2); (case side2 => exact (Kd.R_reads' HO271.out).2.1); rintro e w15 ⟨v273, rfl, ho0, hb⟩; refine ⟨_, rfl, ?_⟩; have HO274 := Aside0.mk (Kd.S_lower ho0 (below_size hB)); replace HO268 := Aside0.mk (Kd.R_below (rU HO268) hb); replace HO271 := Aside0.mk (Kd.R_below (rU HO271) hb); replace BK264 := bS BK264 hb; replace HB := hS HB hb; (try clear hb); (try clear hb2); (try clear hk); (try clear hi); (try clear ho0)))
  go_ret2
  exact ⟨_, by first | rfl | (simp [errW_none, errW_some] <;> rfl) | (simp [*, errW_none, errW_some] <;> rfl), sU HO274, hB⟩
 ·replace c3 := Bool.eq_false_iff.mpr c3
  subst c3
  rw [if_neg (show ¬ (false = true) by decide)] at H
  simp only [Option.some.injEq, Prod.mk.injEq] at H
  obtain ⟨rfl, rfl⟩ := H
  go_enter Tryd.func45, Tryd.ntmps45
  go_wp2_with (first | ((with_reducible refine gate_dst (N := 1) rfl ?_); refine bxE 1 #[.int .i64 a0_0, .slice A0_1 l0_1.length c0_1] 33 rfl ?_; intro gb264 hg w16 hbox hb; have BK264 := Aside0.mk (hbox); have GW264 := gS HB hg; have GE264 := gS HB hg; replace HB := hS HB hb; clear hb hbox hg; have hcz17_0 := cz BK264 0; have hcz17_1 := cz BK264 1; have hfz17_0 := fz BK264 0; have hfz17_1 := fz BK264 1) | ((with_reducible refine gate_callee (f := 76) rfl ?_); refine goC (N := some 5) Tryd.func76 #[.agg #[.int .i64 a0_0, .slice A0_1 l0_1.length c0_1]] rfl ?_; (with_reducible refine (impl_IsParty.calls k a0_0 _ _ l0_1 false _ ?side1 ?side2 A2.out).mono ?_); (case side1 => exact cS (Kd.C_below HR0_1.out HB.out)); (case side2 => exact HC0_1.out); rintro e w18 ⟨rfl, hb⟩; refine ⟨_, rfl, ?_⟩; replace BK264 := bS BK264 hb; replace HB := hS HB hb; (try clear hb); (try clear hb2); (try clear hk); (try clear hi)))
  go_ret2
  exact ⟨_, by first | rfl | (simp [errW_none, errW_some] <;> rfl) | (simp [*, errW_none, errW_some] <;> rfl), by first | exact Kd.S_nil _ _ _ _ _ | exact Kd.N_nil _ _ _ _ _ | exact Kd.V_nil _ _ _ _ _ | exact Kd.Q_nil _ _ _ _ _ | exact Kd.R_nil _ _ _ _ _, hB⟩

/-! ### laws_FnExactAllApart: function 10 (a text of this session's own) -/

def laws_FnExactAllApart.T10 : Bool × List (List Nat × List Nat) := (true, [([], []), ([], []), ([1], [1]), ([0, 2, 2], [0, 2]), ([3], [3])])
def laws_FnExactAllApart.B10 : List Nat := [0, 0, 2, 7, 15]
theorem laws_FnExactAllApart.tab10 : rtab .any (opsOf Tryd.f10 10) = laws_FnExactAllApart.T10 := by kernel_rfl
theorem laws_FnExactAllApart.bits10 : waitsOk laws_FnExactAllApart.T10.2 laws_FnExactAllApart.B10 = true := by kernel_rfl
theorem laws_FnExactAllApart.db {w w' : World} (h : Drawn0 w w') : Below w.heap.size w w' := by obtain ⟨n, rfl⟩ := h; exact pw_below_drewN (Below.refl _ _) n
def laws_FnExactAllApart.f (k : Nat) (a0 : Int) (l0 : List S118) : Option Bool := (laws_szParty.f a0 l0 1048576).bind fun t => if t < 0 then some true else ((laws_toParty.f k a0 l0).bind fun p => (spec_AllApart.f k p.1 p.2).bind fun sw => (impl_AllApart.f k p.1 p.2).bind fun sg => (laws_eqIntSS.f k sg.1 sw.1).bind fun e1 => if e1 = true then (if sg.2 = sw.2 then ((laws_eqParty.f k p.1 p.2 p.1 p.2).bind fun e2 => if e2 = true then ((laws_markParty.f k p.1 p.2 1).bind fun m1 => if m1.1 < 0 then none else ((laws_markIntSS.f k sg.1 1).bind fun mp => (laws_heldIntSS.f k mp.2 1).bind fun hh => if hh < 0 then none else (if hh = mp.1 then some true else none))) else none) else none) else none)
set_option maxHeartbeats 8000000 in
set_option maxRecDepth 100000 in
theorem laws_FnExactAllApart.calls (k : Nat) (a0 : Int) (A0 : Option Addr) (c0 : Nat) (l0 : List S118) (r : Bool) (w : World) (hr : Kd.C k118 w A0 l0.length l0) (hc : l0.length ≤ c0) (h : laws_FnExactAllApart.f k a0 l0 = some r) (hG : GTab 0 w := by first | exact Aside0.out ‹Aside0 (GTab _ _)› | exact GTab.up (Aside0.out ‹Aside0 (GTab _ _)›) (by repeat (first | (with_reducible first | exact Below.refl _ _ | exact Aside0.out ‹Aside0 (Below _ _ _)› | apply below_alloc | apply pw_below_drewN | apply below_drew1 | refine below_set ?_ (Aside0.out (by assumption))) | exact Aside0.out ‹Aside0 (Below _ _ _)›))) :
    Calls Tryd.prog 10 #[.agg #[.int .i64 a0, .slice A0 l0.length c0]] w fun e w' => e = .returned (.bool r) ∧ Below w.heap.size w w' := by
  have hu42 := Tryd.underlying24
  have hu28 := Tryd.underlying33
  have HR := Aside0.mk hr
  have HC := Aside0.mk hc
  have HG := Aside0.mk hG
  clear hr hc hG
  unfold laws_FnExactAllApart.f at h
  replace h := Option.bind_eq_some_iff.mp h
  obtain ⟨t, ht, h⟩ := h
  have HT := Aside0.mk ht
  clear ht
  by_cases c5 : t < 0
  · rw [if_pos c5] at h
    obtain rfl := Option.some.inj h
    have c5b : decide (t < 0) = true := decide_eq_true c5
    clear c5 h
    go_enter Tryd.func10, Tryd.ntmps10
    go_wp2_with (first
      | ((with_reducible refine gate_dst (N := 1) rfl ?_); refine bxE 1 #[.int .i64 a0, .slice A0 l0.length c0] 24 rfl ?_; intro g1 hg w1 hbox hb; have BK1 := Aside0.mk hbox; have HB1 := Aside0.mk hb; have hp0 := cz BK1 0; have hp1 := cz BK1 1; clear hg hbox hb)
      | ((with_reducible refine gate_dst (N := 16) rfl ?_); refine goC (N := some 16) Tryd.func12 #[.agg #[.int .i64 a0, .slice A0 l0.length c0], .int .i64 1048576] rfl ?_; refine (laws_szParty.calls a0 A0 c0 l0 1048576 t _ (Kd.C_below HR.out HB1.out) HC.out HT.out).mono ?_; rintro e w2 ⟨rfl, hb⟩; refine ⟨_, rfl, ?_⟩; replace BK1 := bS BK1 hb; have HB2 := Aside0.mk (below_step HB1.out hb); clear hb; clear hp0 hp1; have hp0 := cz BK1 0; have hp1 := cz BK1 1))
    go_ret
    exact ⟨rfl, by first | exact HB2.out | exact pw_below_drewN HB2.out _⟩
  · rw [if_neg c5] at h
    have c5b : decide (t < 0) = false := decide_eq_false c5
    clear c5
    replace h := Option.bind_eq_some_iff.mp h
    obtain ⟨⟨p1, p2⟩, hp, h⟩ := h
    replace h := Option.bind_eq_some_iff.mp h
    obtain ⟨⟨sw, bw⟩, hsw, h⟩ := h
    replace h := Option.bind_eq_some_iff.mp h
    obtain ⟨⟨sg, b⟩, hsg, h⟩ := h
    replace h := Option.bind_eq_some_iff.mp h
    obtain ⟨e1, he1, h⟩ := h
    cases e1 with
    | false => simp at h
    | true =>
      rw [if_pos rfl] at h
      dsimp only at h
      by_cases cb : b = bw
      · rw [if_pos cb] at h
        subst cb
        replace h := Option.bind_eq_some_iff.mp h
        obtain ⟨e2, he2, h⟩ := h
        cases e2 with
        | false => simp at h
        | true =>
          rw [if_pos rfl] at h
          replace h := Option.bind_eq_some_iff.mp h
          obtain ⟨⟨m1, m2⟩, hm, h⟩ := h
          by_cases cm : m1 < 0
          · rw [if_pos cm] at h; cases h
          · rw [if_neg cm] at h
            replace h := Option.bind_eq_some_iff.mp h
            obtain ⟨⟨q1, q2⟩, hq, h⟩ := h
            replace h := Option.bind_eq_some_iff.mp h
            obtain ⟨hh, hhh, h⟩ := h
            by_cases ch : hh < 0
            · rw [if_pos ch] at h; cases h
            · rw [if_neg ch] at h
              by_cases cq : hh = q1
              · rw [if_pos cq] at h
                obtain rfl := Option.some.inj h
                subst cq
                have HP := Aside0.mk hp
                have HSW := Aside0.mk hsw
                have HSG := Aside0.mk hsg
                have HE1 := Aside0.mk he1
                have HE2 := Aside0.mk he2
                have HM := Aside0.mk hm
                have HQ := Aside0.mk hq
                have HH := Aside0.mk hhh
                have cmb : decide (m1 < 0) = false := decide_eq_false cm
                have chb : decide (hh < 0) = false := decide_eq_false ch
                have cqb : (hh != hh) = false := bne_self_eq_false hh
                have cbb : (b != b) = false := bne_self_eq_false b
                clear hp hsw hsg he1 he2 hm hq hhh cm ch h
                go_enter Tryd.func10, Tryd.ntmps10
                go_wp2_with (first
                  | ((with_reducible refine gate_dst (N := 1) rfl ?_); refine bxE 1 #[.int .i64 a0, .slice A0 l0.length c0] 24 rfl ?_; intro g1 hg w1 hbox hb; have BK1 := Aside0.mk hbox; have HB1 := Aside0.mk hb; have hp0 := cz BK1 0; have hp1 := cz BK1 1; clear hg hbox hb)
                  | ((with_reducible refine gate_dst (N := 16) rfl ?_); refine goC (N := some 16) Tryd.func12 #[.agg #[.int .i64 a0, .slice A0 l0.length c0], .int .i64 1048576] rfl ?_; refine (laws_szParty.calls a0 A0 c0 l0 1048576 t _ (Kd.C_below HR.out HB1.out) HC.out HT.out).mono ?_; rintro e w2 ⟨rfl, hb⟩; refine ⟨_, rfl, ?_⟩; replace BK1 := bS BK1 hb; have HB2 := Aside0.mk (below_step HB1.out hb); clear hb; clear hp0 hp1; have hp0 := cz BK1 0; have hp1 := cz BK1 1)
                  | ((with_reducible refine gate_dst (N := 21) rfl ?_); refine goC (N := some 21) Tryd.func14 #[.agg #[.int .i64 a0, .slice A0 l0.length c0]] rfl ?_; refine (laws_toParty.calls k a0 A0 c0 l0 p1 p2 _ (Kd.C_below HR.out HB2.out) HC.out HP.out).mono ?_; rintro e w3 ⟨v21, rfl, ho, hb⟩; refine ⟨_, rfl, ?_⟩; replace BK1 := bS BK1 hb; have HB3 := Aside0.mk (below_step HB2.out hb); have HO21 := Aside0.mk ho; clear ho hb; clear hp0 hp1; have hp0 := cz BK1 0; have hp1 := cz BK1 1; obtain ⟨A21, c21, rfl⟩ := Kd.R_slice HO21.out)
                  | ((with_reducible refine gate_dst (N := 22) rfl ?_); refine goC (N := some 22) Tryd.func44 #[.agg #[.int .i64 p1, .slice A21 p2.length c21]] rfl ?_; refine (spec_AllApart.calls k p1 A21 c21 p2 sw b _ (Kd.R_reads' HO21.out).2.2 (Kd.R_reads' HO21.out).2.1 HSW.out).mono ?_; rintro e w4 ⟨v22, rfl, ho, hb⟩; refine ⟨_, rfl, ?_⟩; replace BK1 := bS BK1 hb; have HB4 := Aside0.mk (below_step HB3.out hb); have HO22 := Aside0.mk ho; have L14 := Aside0.mk (blk_lt BK1.out); have BK14 := BK1; clear ho hb; clear hp0 hp1; have hp0 := cz BK1 0; have hp1 := cz BK1 1; obtain ⟨A22, c22, rfl⟩ := Kd.N_slice HO22.out; have HC22 := Aside0.mk (Kd.N_reads' HO22.out))
                  | ((with_reducible refine gate_dst (N := 26) rfl ?_); refine goC (N := some 26) Tryd.func14 #[.agg #[.int .i64 a0, .slice A0 l0.length c0]] rfl ?_; refine (laws_toParty.calls k a0 A0 c0 l0 p1 p2 _ (Kd.C_below HR.out HB4.out) HC.out HP.out).mono ?_; rintro e w5 ⟨v26, rfl, ho, hb⟩; refine ⟨_, rfl, ?_⟩; replace BK1 := bS BK1 hb; have HB5 := Aside0.mk (below_step HB4.out hb); have H45 := Aside0.mk hb; have HO26 := Aside0.mk (Kd.R_mono (ok' := fun k_ => w4.heap.size ≤ k_ ∧ k_ < w5.heap.size) (Kd.R_bound ho) (fun k_ hk => ⟨hk.2.1, hk.2.2.1⟩)); clear ho hb; clear hp0 hp1; have hp0 := cz BK1 0; have hp1 := cz BK1 1; obtain ⟨A26, c26, rfl⟩ := Kd.R_slice HO26.out)
                  | ((with_reducible refine gate_dst (N := 6) rfl ?_); refine bxE 6 #[.int .i64 0, .slice none 0 0] 33 rfl ?_; intro g6 hg w6 hbox hb; have BK6 := Aside0.mk hbox; have G6 := Aside0.mk (show g6 = w5.heap.size from hg); have H56 := Aside0.mk hb; have NB := Aside0.mk (show g1 ≠ g6 by have := blk_lt BK1.out; omega); have hz0 := cz BK6 0; have hz1 := cz BK6 1; have hz2 := fz BK6 0; have hz3 := fz BK6 1; clear hg hbox hb)
                  | ((with_reducible refine gate_dst (N := 29) rfl ?_); refine goC (N := some 29) Tryd.func45 #[.agg #[.int .i64 p1, .slice A26 p2.length c26]] rfl ?_; refine (impl_AllApart.calls k p1 A26 c26 p2 sg b _ (Kd.C_below (Kd.R_reads' HO26.out).2.2 (below_set (below_set H56.out (Nat.le_of_eq G6.out.symm)) (Nat.le_of_eq G6.out.symm))) (Kd.R_reads' HO26.out).2.1 HSG.out (GTab.up HG.out (below_step HB5.out (below_set (below_set H56.out (Nat.le_of_eq G6.out.symm)) (Nat.le_of_eq G6.out.symm))))).mono ?_; rintro e w7 ⟨v29, rfl, ho, hb⟩; refine ⟨_, rfl, ?_⟩; have BKa := Aside0.mk (show ((w6.setCell ⟨g6, 0, none⟩ (.int .i64 p1)).setCell ⟨g6, 1, none⟩ (.slice A26 p2.length c26)).heap[g6]? = some (.cells #[.int .i64 p1, .slice A26 p2.length c26] 33 (0, 0)) from blk_set (blk_set BK6.out 0 _) 1 _); have BKb := Aside0.mk (show ((w6.setCell ⟨g6, 0, none⟩ (.int .i64 p1)).setCell ⟨g6, 1, none⟩ (.slice A26 p2.length c26)).heap[g1]? = some (.cells #[.int .i64 a0, .slice A0 l0.length c0] 24 (0, 0)) from blk_far (blk_far (blk_below BK1.out H56.out) NB.out _) NB.out _); have H5w := Aside0.mk (show Below w5.heap.size w5 ((w6.setCell ⟨g6, 0, none⟩ (.int .i64 p1)).setCell ⟨g6, 1, none⟩ (.slice A26 p2.length c26)) from below_set (below_set H56.out (Nat.le_of_eq G6.out.symm)) (Nat.le_of_eq G6.out.symm)); have HO29 := Aside0.mk (Kd.S_mono (ok' := fun k_ => w5.heap.size ≤ k_) (Kd.S_bound ho) (fun k_ hk => Nat.le_trans H5w.out.size hk.2.1)); have H57 := Aside0.mk (below_step H5w.out hb); have BK7 := Aside0.mk (blk_below BKa.out hb); have BKc := Aside0.mk (blk_below BKb.out hb); have HBs := Aside0.mk (Kd.S_lower HO29.out (Nat.le_trans H45.out.size H5w.out.size)); clear ho hb hp0 hp1 hz0 hz1 hz2 hz3 BK1 BK6 BKa BKb; have BK1 := BKc; have BK6 := BK7; clear BKc BK7; obtain ⟨A29, c29, rfl⟩ := Kd.S_slice HO29.out)
                  | ((with_reducible refine gate_dst (N := 34) rfl ?_); refine goC (N := some 34) Tryd.func41 #[.slice A29 sg.length c29, .slice A22 sw.length c22] rfl ?_; refine (laws_eqIntSS.calls k A29 c29 sg A22 c22 sw true _ (Kd.S_reads' HO29.out).2.2 (Kd.S_reads' HO29.out).2.1 (Kd.C_below HC22.out.2.2 (H45.out.trans (H57.out.mono H45.out.size))) HC22.out.2.1 HE1.out).mono ?_; rintro e w8 ⟨rfl, hdr⟩; have hb := laws_FnExactAllApart.db hdr; clear hdr; refine ⟨_, rfl, ?_⟩; have HO8 := Aside0.mk (Kd.S_below HBs.out hb); have H58 := Aside0.mk (below_step H57.out hb); replace BK1 := bS BK1 hb; replace BK6 := bS BK6 hb; clear hb))
                have SW := Aside0.mk (fun (W' : World) (hb : Below w8.heap.size w8 W') => (⟨pw_cell_below hb ((blk_cell BK6.out 0).trans rfl), pw_cell_below hb ((blk_cell BK6.out 1).trans rfl), pw_cell_below hb ((blk_cell BK1.out 0).trans rfl), pw_cell_below hb ((blk_cell BK1.out 1).trans rfl)⟩ : (fun w' : World => w'.cell? ⟨g6, 0, none⟩ = some (.int .i64 p1) ∧ w'.cell? ⟨g6, 1, none⟩ = some (.slice A26 p2.length c26) ∧ w'.cell? ⟨g1, 0, none⟩ = some (.int .i64 a0) ∧ w'.cell? ⟨g1, 1, none⟩ = some (.slice A0 l0.length c0)) W'))
                refine start_ (n := 5) (S := fun w' => w'.cell? ⟨g6, 0, none⟩ = some (.int .i64 p1) ∧ w'.cell? ⟨g6, 1, none⟩ = some (.slice A26 p2.length c26) ∧ w'.cell? ⟨g1, 0, none⟩ = some (.int .i64 a0) ∧ w'.cell? ⟨g1, 1, none⟩ = some (.slice A0 l0.length c0)) (ds := []) (bz 5 0) (by kernel_rfl) rfl rfl (SW.out _ (by repeat (first | exact Below.refl _ _ | apply below_drew1 | apply pw_below_drewN))) (fun hHeld => ?_)
                refine with_tabW laws_FnExactAllApart.tab10 laws_FnExactAllApart.bits10 (fun HT_ HW_ => ?_)
                have HBd := Aside0.mk (show Below w8.heap.size w8 w8.drew from (by repeat (first | exact Below.refl _ _ | apply below_drew1 | apply pw_below_drewN)))
                generalize w8.drew = w8d at HBd hHeld ⊢
                refine run_ [(1, 0, 1, some 41), (1, 1, 3, some 42)] ?_
                repeat (first | (apply tag0; refine run_p (v := ?_) (a' := ?_) rfl rfl (any_of HT_.out (by kernel_rfl)) (fun _ _ _ h => h) (by rfl) ?_ ?_ ?_; rotate_left 2; (intro w'; go_simp; with_reducible rfl); (first | (simp only [Act.put, List.setIfInBounds_toArray, List.set_cons_zero, List.set_cons_succ, i64_w, i32_w]; rfl) | rfl)) | (apply tag1; refine run_t (v := ?_) (a' := ?_) rfl rfl (take_ofW HT_.out HW_.out (by kernel_rfl)) (fun _ _ _ h => h) (by rfl) ?_ hHeld ?_ ?_; rotate_left 2; (rintro w' ⟨s0, s1, s2, s3⟩; go_simp; with_reducible rfl); (first | (simp only [Act.put, List.setIfInBounds_toArray, List.set_cons_zero, List.set_cons_succ, i64_w, i32_w]; rfl) | rfl)))
                refine run_nil ?_
                refine one_ (i := 2) (N := some 43) (bz 5 7) rfl rfl (one_of HT_.out (by kernel_rfl)) (by decide) (fun K hK => ?_)
                refine goes_ Tryd.func14 (by kernel_rfl) rfl #[.agg #[.int .i64 a0, .slice A0 l0.length c0]] (by rfl) rfl rfl mapT ?_
                refine (laws_toParty.calls k a0 A0 c0 l0 p1 p2 _ (Kd.C_below HR.out (below_step HB5.out (below_step H58.out HBd.out))) HC.out HP.out).mono ?_
                rintro e w9 ⟨v43, rfl, ho, hb⟩
                refine ⟨_, rfl, ?_⟩
                have H89 := Aside0.mk (below_step HBd.out hb)
                have HO43 := Aside0.mk ho
                clear ho hb
                obtain ⟨A43, c43, rfl⟩ := Kd.R_slice HO43.out
                refine hK.out _ _ (SW.out _ H89.out) (fun hHeld2 => ?_)
                clear hK K
                refine norm_ (a' := ?_) ?_ ?_
                rotate_left
                · show Act.put _ (some 43) _ = _
                  simp only [Act.put, List.setIfInBounds_toArray, List.set_cons_zero, List.set_cons_succ, i64_w, i32_w]
                  rfl
                refine one_ (i := 3) (N := some 44) (bz 5 15) rfl rfl (one_of HT_.out (by kernel_rfl)) (by decide) (fun K hK => ?_)
                refine goes_ Tryd.func17 (by kernel_rfl) rfl #[.agg #[.int .i64 p1, .slice A26 p2.length c26], .agg #[.int .i64 p1, .slice A43 p2.length c43]] (by rfl) rfl rfl mapT ?_
                refine (laws_eqParty.calls k p1 A26 c26 p2 p1 A43 c43 p2 true _ (Kd.C_below (Kd.C_below (Kd.R_reads' HO26.out).2.2 H58.out) H89.out) (Kd.R_reads' HO26.out).2.1 (Kd.R_reads' HO43.out).2.2 (Kd.R_reads' HO43.out).2.1 HE2.out).mono ?_
                rintro e w10 ⟨rfl, hb⟩
                refine ⟨_, rfl, ?_⟩
                have H810 := Aside0.mk (below_step H89.out hb)
                clear hb
                refine hK.out _ _ (SW.out _ H810.out) (fun hHeld3 => ?_)
                clear hK K
                refine norm_ (a' := ?_) ?_ ?_
                rotate_left
                · show Act.put _ (some 44) _ = _
                  simp only [Act.put, List.setIfInBounds_toArray, List.set_cons_zero, List.set_cons_succ, i64_w, i32_w]
                  rfl
                refine run_ [(0, 4, 31, some 45)] ?_
                repeat (first | (apply tag0; refine run_p (v := ?_) (a' := ?_) rfl rfl (any_of HT_.out (by kernel_rfl)) (fun _ _ _ h => h) (by rfl) ?_ ?_ ?_; rotate_left 2; (intro w'; go_simp; with_reducible rfl); (first | (simp only [Act.put, List.setIfInBounds_toArray, List.set_cons_zero, List.set_cons_succ, i64_w, i32_w]; rfl) | rfl)))
                refine run_nil ?_
                refine done_ (done_of HT_.out (by kernel_rfl)) ?_
                have H510 := Aside0.mk (below_step H58.out H810.out)
                have HO10 := Aside0.mk (Kd.S_below HO8.out H810.out)
                replace BK6 := Aside0.mk (blk_below BK6.out H810.out)
                clear HT_ HW_ hHeld hHeld2 hHeld3 SW BK1
                have hz0 := cz BK6 0
                have hz1 := cz BK6 1
                go_wp2_with (first
                  | ((with_reducible refine gate_dst (N := 48) rfl ?_); refine goC (N := some 48) Tryd.func18 #[.agg #[.int .i64 p1, .slice A26 p2.length c26], .int .i64 1] rfl ?_; refine (laws_markParty.calls k p1 (fun k_ => w4.heap.size ≤ k_ ∧ k_ < w5.heap.size) (.slice A26 p2.length c26) p2 1 m1 m2 w4 _ (H45.out.trans (H510.out.mono H45.out.size)) (Kd.R_below HO26.out H510.out) HM.out).mono ?_; rintro e w11 ⟨rfl, hr3, hb, hkp⟩; refine ⟨_, rfl, ?_⟩; have H411 := Aside0.mk hb; have HO11 := Aside0.mk (Kd.S_step HO10.out (fun k_ hk hlt => hkp.2 k_ hlt (fun h_ => by have := hk; have := h_.2; omega))); clear hr3 hb hkp hz0 hz1 BK6)
                  | ((with_reducible refine gate_dst (N := 64) rfl ?_); refine goC (N := some 64) Tryd.func42 #[.slice A29 sg.length c29, .int .i64 1] rfl ?_; refine (laws_markIntSS.calls k (fun _ => True) (.slice A29 sg.length c29) sg 1 hh q2 w4 _ H412.out (Kd.S_mono HO12.out (fun _ _ => trivial)) HQ.out).mono ?_; rintro e w13 ⟨rfl, hs3, hb, hkp⟩; refine ⟨_, rfl, ?_⟩; have HO13 := Aside0.mk hs3; have H413 := Aside0.mk hb; have E3 := Aside0.mk (Kd.S_reads' hs3).1; have BK1 := Aside0.mk ((hb.block g1 L14.out).trans BK14.out); have HW13 := Aside0.mk (HB4.out.trans (hb.mono HB4.out.size)); clear hs3 hb hkp; have hp0 := cz BK1 0; have hp1 := cz BK1 1)
                  | ((with_reducible refine gate_dst (N := 67) rfl ?_); refine goC (N := some 67) Tryd.func43 #[.slice A29 sg.length c29, .int .i64 1] rfl ?_; have hcl := laws_heldIntSS.calls k A29 c29 q2 1 hh w13 (Kd.S_reads' HO13.out).2.2 (by rw [← E3.out]; exact (Kd.S_reads' HO13.out).2.1) HH.out; rw [← E3.out] at hcl; refine hcl.mono ?_; clear hcl; rintro e w14 ⟨rfl, ⟨nd, rfl⟩⟩; refine ⟨_, rfl, ?_⟩)
                  | ((with_reducible refine gate_dst (N := 75) rfl ?_); refine goC (N := some 75) Tryd.func14 #[.agg #[.int .i64 a0, .slice A0 l0.length c0]] rfl ?_; refine (laws_toParty.calls k a0 A0 c0 l0 p1 p2 _ (Kd.C_below HR.out (pw_below_drewN HW13.out nd)) HC.out HP.out).mono ?_; rintro e w15 ⟨v75, rfl, ho, hb⟩; refine ⟨_, rfl, ?_⟩; have H1315 := Aside0.mk (below_step (pw_below_drewN (Below.refl w13.heap.size w13) nd) hb); have HO75 := Aside0.mk ho; clear ho hb hp0 hp1; obtain ⟨A75, c75, rfl⟩ := Kd.R_slice HO75.out)
                  | ((with_reducible refine gate_dst (N := 76) rfl ?_); refine goC (N := some 76) Tryd.func45 #[.agg #[.int .i64 p1, .slice A75 p2.length c75]] rfl ?_; refine (impl_AllApart.calls k p1 A75 c75 p2 sg b _ (Kd.R_reads' HO75.out).2.2 (Kd.R_reads' HO75.out).2.1 HSG.out (GTab.up HG.out (below_step HW13.out H1315.out))).mono ?_; rintro e w16 ⟨v76, rfl, ho, hb⟩; refine ⟨_, rfl, ?_⟩; have H1316 := Aside0.mk (below_step H1315.out hb); have HO76 := Aside0.mk ho; clear ho hb; obtain ⟨A76, c76, rfl⟩ := Kd.S_slice HO76.out)
                  | ((with_reducible refine gate_dst (N := 81) rfl ?_); refine goC (N := some 81) Tryd.func41 #[.slice A76 sg.length c76, .slice A22 sw.length c22] rfl ?_; refine (laws_eqIntSS.calls k A76 c76 sg A22 c22 sw true _ (Kd.S_reads' HO76.out).2.2 (Kd.S_reads' HO76.out).2.1 (Kd.C_below HC22.out.2.2 (H413.out.trans (H1316.out.mono H413.out.size))) HC22.out.2.1 HE1.out).mono ?_; rintro e w17 ⟨rfl, hdr⟩; have hb := laws_FnExactAllApart.db hdr; clear hdr; refine ⟨_, rfl, ?_⟩; have H1317 := Aside0.mk (below_step H1316.out hb); clear hb)
                  | ((with_reducible refine gate_dst (N := 90) rfl ?_); refine goC (N := some 90) Tryd.func43 #[.slice A29 sg.length c29, .int .i64 1] rfl ?_; have hcl := laws_heldIntSS.calls k A29 c29 q2 1 hh w17 (Kd.C_below (Kd.S_reads' HO13.out).2.2 H1317.out) (by rw [← E3.out]; exact (Kd.S_reads' HO13.out).2.1) HH.out; rw [← E3.out] at hcl; refine hcl.mono ?_; clear hcl; rintro e w18 ⟨rfl, ⟨nd2, rfl⟩⟩; refine ⟨_, rfl, ?_⟩)
                  | (go_at_call 41; refine (laws_eqIntSS.calls k A29 c29 sg A22 c22 sw true _ (Kd.S_reads' HO11.out).2.2 (Kd.S_reads' HO11.out).2.1 (Kd.C_below HC22.out.2.2 H411.out) HC22.out.2.1 HE1.out).mono ?_; rintro e w12 ⟨rfl, hdr⟩; have hb := laws_FnExactAllApart.db hdr; clear hdr; have HO12 := Aside0.mk (Kd.S_below HO11.out hb); have H412 := Aside0.mk (below_step H411.out hb); clear hb))
                go_ret
                exact ⟨rfl, pw_below_drewN (below_step HW13.out H1317.out) nd2⟩
              · rw [if_neg cq] at h; cases h
      · rw [if_neg cb] at h; cases h

end Go.Proofs.YtjpfbkkikcpmhaaDoor.PFnExactAllApart
