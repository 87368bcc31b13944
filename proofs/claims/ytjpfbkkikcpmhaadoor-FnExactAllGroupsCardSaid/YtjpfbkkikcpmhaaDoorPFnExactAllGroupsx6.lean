-- Of this session's own program wip/gen/gen.py (it drives the kit's print): contracts of the functions that the law reaches.
import Derived.Test.YtjpfbkkikcpmhaaDoorPFnExactAllGroupsx0
import Derived.Test.YtjpfbkkikcpmhaaDoorPFnExactAllGroupsx4
import Derived.Test.YtjpfbkkikcpmhaaDoorPFnExactAllGroupsx5
namespace Go.Proofs.YtjpfbkkikcpmhaaDoor.PFnExactAllGroups
open Go.RowKit Go.Proofs.YtjpfbkkikcpmhaaDoorW.PrintWords Go.Proofs.YtjpfbkkikcpmhaaDoorW.PrintLast Go.Proofs.YtjpfbkkikcpmhaaDoorW.PrintMore Go.Proofs.YtjpfbkkikcpmhaaDoor.Base
attribute [local go_sem] max2_int min2_int max_two min_two max_three min_three max_four min_four   -- for this text's walks alone
set_option linter.unusedVariables false
set_option linter.unusedSimpArgs false

/-! ### impl_table_full_1: function 126 (a text of this session's own) -/

/-- Whom all of a group are friends of. -/
def impl_table_full_1.lc : Nat → List Int → List Int → Int → Int → Option Int
 | 0, _, _, _, _ => none
 | k + 1, t, l, i, c => if i < (l.length : Int) then (if 0 ≤ i then (if 0 ≤ rd l i then (if rd l i < (t.length : Int) then impl_table_full_1.lc k t l (wrap64 (i + 1)) (Go.bits .and .u16 c (rd t (rd l i))) else none) else none) else none) else some c
def impl_table_full_1.f (k : Nat) (t l : List Int) (xs : List (List Int)) : Option (List (List Int)) := (impl_table_all.f t).bind fun s => (impl_table_full_1.lc k t l 0 s).bind fun c => if c = 0 then (if xs.length < 5864062014805 then some (xs ++ [l]) else none) else some xs
theorem impl_table_full_1.mono_l : ∀ k, (∀ y0 y1 y2 y3, LeO (impl_table_full_1.lc k y0 y1 y2 y3) (impl_table_full_1.lc (k + 1) y0 y1 y2 y3))
 | 0 => fun _ _ _ _ r h => by simp [impl_table_full_1.lc] at h
 | k + 1 => by
  have ih0 := impl_table_full_1.mono_l k
  intro y0 y1 y2 y3
  unfold impl_table_full_1.lc
  repeat' first
    | (with_reducible exact ih0 _ _ _ _)
    | (with_reducible exact LeO.refl _)
    | (with_reducible exact LeO.none _)
    | (with_reducible refine LeO.ite ?_ ?_)
theorem impl_table_full_1.mono (k : Nat) (t l : List Int) (xs : List (List Int)) : LeO (impl_table_full_1.f k t l xs) (impl_table_full_1.f (k + 1) t l xs) := by
  unfold impl_table_full_1.f
  exact LeO.bind (LeO.refl _) (fun _ => LeO.bind (impl_table_full_1.mono_l _ _ _ _ _) (fun _ => LeO.refl _))
/-- What a call leaves: the list in its place, and all else that lay there. -/
structure impl_table_full_1.St (w : World) (base b : Nat) (v : Value) (w' : World) (v' : Value) (ys : List (List Int)) : Prop where
  box : w'.heap[b]? = some (.cells #[v'] 58 (0, 0))
  row : Kd.S (Kd.slice 3 (Kd.int .i64)) 75 w' base (fun k => k ≠ b ∧ base ≤ k) v' ys
  below : Below base w w'
  keep : ∀ k, (k ≠ b ∧ some k ≠ v.ownBlock) → k < w.heap.size → w'.heap[k]? = w.heap[k]?
  at_ : v'.ownBlock = v.ownBlock ∨ ∃ g, v'.ownBlock = some g ∧ w.heap.size ≤ g
section
variable {w w' w'' : World} {base b : Nat} {v v' v'' : Value} {ys zs : List (List Int)}
theorem impl_table_full_1.St.apart (s : impl_table_full_1.St w base b v w' v' ys) {k : Nat} (h : k < w.heap.size) (hk : some k ≠ v.ownBlock) : some k ≠ v'.ownBlock := by
  rcases s.at_ with e | ⟨g, e, hg⟩
  · rw [e]; exact hk
  · rw [e]
    intro hh
    injection hh with hh
    omega
theorem impl_table_full_1.St.foot {α : Type} {d : Kd α} {A : Option Addr} {n : Nat} {xs : List α} (s : impl_table_full_1.St w base b v w' v' ys) (h : Kd.F d w (fun k => k ≠ b ∧ some k ≠ v.ownBlock) A n xs) : Kd.F d w' (fun k => k ≠ b ∧ some k ≠ v'.ownBlock) A n xs :=
  Kd.F_mono (Kd.F_step (Kd.F_bound h) (fun k hk hlt => s.keep k hk.1 hlt)) (fun _ hk => ⟨hk.1.1, s.apart hk.2 hk.1.2⟩)
theorem impl_table_full_1.St.later (s : impl_table_full_1.St w base b v w' v' ys) (hbase : base ≤ w'.heap.size) (hb : Below w'.heap.size w' w'') : impl_table_full_1.St w base b v w'' v' ys := by
  have hlt : b < w'.heap.size := (Array.getElem?_eq_some_iff.1 s.box).1
  exact ⟨(hb.block b hlt).trans s.box, Kd.S_below s.row hb, below_then s.below hbase hb, fun k hk hl => (hb.block k (Nat.lt_of_lt_of_le hl s.below.size)).trans (s.keep k hk hl), s.at_⟩
theorem impl_table_full_1.St.self (s : impl_table_full_1.St w base b v w' v' ys) : impl_table_full_1.St w' base b v' w' v' ys := ⟨s.box, s.row, Below.refl _ _, fun _ _ _ => rfl, .inl rfl⟩
theorem impl_table_full_1.St.trans (s : impl_table_full_1.St w base b v w' v' ys) (u : impl_table_full_1.St w' base b v' w'' v'' zs) : impl_table_full_1.St w base b v w'' v'' zs := by
  refine ⟨u.box, u.row, s.below.trans u.below, fun k hk hl => ?_, ?_⟩
  · rw [u.keep k ⟨hk.1, s.apart hl hk.2⟩ (Nat.lt_of_lt_of_le hl s.below.size), s.keep k hk hl]
  · rcases u.at_ with e | ⟨g, e, hg⟩
    · rw [e]; exact s.at_
    · exact .inr ⟨g, e, Nat.le_trans s.below.size hg⟩
theorem impl_table_full_1.St.blk (s : impl_table_full_1.St w base b v w' v' ys) {k : Nat} {o : Obj} (h : w.heap[k]? = some o) (hk : k < base) : w'.heap[k]? = some o := (s.below.block k hk).trans h
theorem impl_table_full_1.St.drewN (s : impl_table_full_1.St w base b v w' v' ys) (hbase : base ≤ w'.heap.size) (m : Nat) : impl_table_full_1.St w base b v (w'.drewN m) v' ys := s.later hbase (pw_below_drewN (Below.refl _ _) m)
end
set_option maxHeartbeats 8000000 in
set_option maxRecDepth 100000 in
theorem impl_table_full_1.calls (k : Nat) (t : List Int) (At : Option Addr) (ct bt b : Nat) (A1 : Option Addr) (c1 : Nat) (l1 : List Int) (v : Value) (xs r : List (List Int)) (w : World) (base : Nat)
    (hbt : w.heap[bt]? = some (.cells #[.slice At t.length ct] 81 (0, 0))) (hts : Kd.F (Kd.int .u16) w (fun k => k ≠ b ∧ some k ≠ v.ownBlock) At t.length t) (hct : t.length ≤ ct)
    (h1 : Kd.R (Kd.int .i64) 3 w base (fun k => k ≠ b ∧ base ≤ k) (.slice A1 l1.length c1) l1)
    (hd : Kd.S (Kd.slice 3 (Kd.int .i64)) 75 w base (fun k => (k ≠ b ∧ base ≤ k) ∧ ¬ some k = (Value.slice A1 l1.length c1).ownBlock) v xs) (hS : impl_table_full_1.St w base b v w v xs) (hbase : base ≤ w.heap.size) (hbb : base ≤ b) (h : impl_table_full_1.f k t l1 xs = some r) :
    Calls Tryd.prog 126 #[.slice A1 l1.length c1, .pointer (some ⟨bt, 0, none⟩), .pointer (some ⟨b, 0, none⟩)] w fun e w' => e = .returned (.tuple #[]) ∧ ∃ v', impl_table_full_1.St w base b v w' v' r := by
  obtain ⟨Av, cv, rfl⟩ := Kd.S_slice hS.row
  unfold impl_table_full_1.f at h
  replace h := Option.bind_eq_some_iff.mp h
  obtain ⟨s, hs, h⟩ := h
  replace h := Option.bind_eq_some_iff.mp h
  obtain ⟨c, hc, h⟩ := h
  have HBT := Aside0.mk hbt
  have HTS := Aside0.mk (Kd.F_now hts)
  have HS := Aside0.mk hS
  have HD := Aside0.mk hd
  have H1 := Aside0.mk h1
  have HSA := Aside0.mk hs
  have HC := Aside0.mk hc
  have HX := Aside0.mk h
  have LB := Aside0.mk (show b < w.heap.size from blk_lt hS.box)
  have H1A := Aside0.mk (Kd.R_apart' h1 (Kd.S_typed hS.row) (by decide))
  have hct0 : w.cell? ⟨bt, 0, none⟩ = some (.slice At t.length ct) := (blk_cell hbt 0).trans rfl
  clear hbt hts hS hd h1 hs hc h
  go_enter Tryd.func126, Tryd.ntmps126
  go_wp2_with (go_at_call 79; refine (impl_table_all.calls At ct t s _ (by first | exact HTS.out | exact Kd.C_drewN HTS.out _) hct HSA.out).mono ?_; rintro e w2 ⟨rfl, ⟨m0, rfl⟩⟩)
  go_loopg [4, 11] k (fun kq v4 v11 W => ∃ (y i : Int), v4 = .int .u16 y ∧ v11 = .int .i64 i ∧ Aside0 (impl_table_full_1.lc kq t l1 i y = some c) ∧ Aside0 (kq ≤ k) ∧ Drawn0 w W)
  case atStart => exact ⟨s, 0, rfl, rfl, HC, ⟨Nat.le_refl _⟩, by repeat (first | exact Drawn0.refl _ | apply Drawn0.step)⟩
  case round =>
    obtain ⟨y, i, rfl, rfl, HA, HK1, ⟨m1, rfl⟩⟩ := hrel
    clear HC
    cases gk with
    | zero => exact absurd HA.out (by simp [impl_table_full_1.lc])
    | succ k1 =>
      have H := HA.out
      clear HA
      simp only [impl_table_full_1.lc] at H
      by_cases c1_ : i < (l1.length : Int)
      · rw [if_pos c1_] at H
        by_cases c2_ : 0 ≤ i
        · rw [if_pos c2_] at H
          obtain ⟨a, ha⟩ : ∃ a_, a_ = rd l1 i := ⟨_, rfl⟩
          rw [← ha] at H
          by_cases c3_ : 0 ≤ a
          · rw [if_pos c3_] at H
            by_cases c4_ : a < (t.length : Int)
            · rw [if_pos c4_] at H
              have HN := Aside0.mk H
              obtain ⟨ad1, e1, hx1⟩ := Kd.at_int (Kd.R_reads' H1.out).2.2 i c2_ c1_
              rw [← ha] at hx1
              subst e1
              obtain ⟨ad2, e2, hx2⟩ := Kd.at_int HTS.out a c3_ c4_
              subst e2
              have c1b : decide (i < (l1.length : Int)) = true := decide_eq_true c1_
              replace c1_ := eq_true c1_
              replace c2_ := eq_true c2_
              replace c3_ := eq_true c3_
              replace c4_ := eq_true c4_
              clear H ha
              go_wp2
              go_roundg k1
              case measure => have := HK1.out; omega
              case rel => exact ⟨_, _, by first | rfl | (simp; done), by first | rfl | (simp; done), HN, ⟨by have := HK1.out; omega⟩, by repeat (first | exact Drawn0.refl _ | apply Drawn0.step)⟩
            · rw [if_neg c4_] at H; cases H
          · rw [if_neg c3_] at H; cases H
        · rw [if_neg c2_] at H; cases H
      · rw [if_neg c1_] at H
        have c1b : decide (i < (l1.length : Int)) = false := decide_eq_false c1_
        clear c1_
        obtain rfl := Option.some.inj H
        have h := HX.out
        clear H HX
        have S1 := Aside0.mk (HS.out.drewN hbase m1)
        by_cases cz : y = 0
        · rw [if_pos cz] at h
          by_cases cx : xs.length < 5864062014805
          · rw [if_pos cx] at h
            obtain rfl := Option.some.inj h
            have LX := Aside0.mk cx
            have czb : (y == 0) = true := beq_iff_eq.mpr cz
            clear cz cx h
            have hso : (w.drewN m1).cell? ⟨b, 0, none⟩ = some (.slice Av xs.length cv) := (blk_cell S1.out.box 0).trans rfl
            have hso' : w.cell? ⟨b, 0, none⟩ = some (.slice Av xs.length cv) := (blk_cell HS.out.box 0).trans rfl
            generalize hw1 : w.drewN m1 = w1 at S1 hso
            have HB1 := Aside0.mk (show Below w.heap.size w w1 from by rw [← hw1]; exact pw_below_drewN (Below.refl _ _) m1)
            clear hw1 hct0 hso'
            go_wp2_with ((with_reducible refine gate_builtin (b := .append) (xs := #[.tmp 24, .tmp 26]) rfl ?_); at_builtin; refine Kd.S_append (Kd.slice 3 (Kd.int .i64)) (w0 := w) base rfl (.tmp 24) (.tmp 26) 58 75 (.slice none 0 0) 24 rfl Tryd.underlying58 info75 rfl (by decide) (by omega) (.slice Av xs.length cv) xs l1 [.slice A1 l1.length c1] (fun k_ => k_ ≠ b ∧ base ≤ k_) (fun k_ => some k_ = (.slice A1 l1.length c1 : Value).ownBlock) rfl rfl ?aP ?aK ?aF ?aO ?aB ?aS ?aL ?_; (case aP => exact ⟨_, rfl, Kd.R_tight rfl (Kd.R_below H1.out HB1.out)⟩); (case aK => exact fun k_ hk => (by obtain ⟨h0_, _⟩ := H1A.out; exact h0_ k_ hk.symm)); (case aF => exact fun k_ hk => ⟨by have := LB.out; have := below_size HB1.out; omega, by have := below_size HB1.out; omega⟩); (case aO => exact Kd.S_below HD.out HB1.out); (case aB => exact S1.out.below); (case aS => exact Nat.le_trans hbase (below_size HB1.out)); (case aL => have := LX.out; omega); intro v3 w7 ho hb hg hat; have BX7 : w7.heap[b]? = some (.cells #[.slice Av xs.length cv] 58 (0, 0)) := (hg.block b (Nat.lt_of_lt_of_le LB.out (below_size HB1.out)) (Kd.S_away S1.out.row (fun _ hk => hk.1))).trans S1.out.box; obtain ⟨A3, c3, e3⟩ := Kd.S_slice ho; obtain ⟨n3, hn3⟩ : ∃ n_, n_ = (xs ++ [l1]).length := ⟨_, rfl⟩; rw [← hn3] at e3; subst e3; clear hn3; have S8 := Aside0.mk (show impl_table_full_1.St w base b (.slice Av xs.length cv) (w7.setCell ⟨b, 0, none⟩ (.slice A3 n3 c3)) (.slice A3 n3 c3) (xs ++ [l1]) from ⟨blk_set BX7 0 _, Kd.S_far ho (fun _ hk => hk.1) _, hb.setCell hbb _, fun k hk hl => (Below.heap_setCell w7 ⟨b, 0, none⟩ _ k hk.1).trans ((hg.block k (Nat.lt_of_lt_of_le hl (below_size HB1.out)) hk.2).trans (S1.out.keep k hk hl)), hat.imp id (fun ⟨g, e, hg⟩ => ⟨g, e, Nat.le_trans (below_size HB1.out) hg⟩)⟩); have hs7 : w7.cell? ⟨b, 0, none⟩ = some (.slice Av xs.length cv) := (blk_cell BX7 0).trans rfl; have hf7 := blk_frozen BX7 0; clear ho hb hg hat BX7 hso)
            first | go_end0 | ((try simp only [Exit.inBlock, Exit.then]); refine bodyPost_ret (results_none rfl _ _ _) rfl ?_)
            exact ⟨rfl, _, S8.out⟩
          · rw [if_neg cx] at h; cases h
        · rw [if_neg cz] at h
          obtain rfl := Option.some.inj h
          have czb : (y == 0) = false := beq_eq_false_iff_ne.mpr cz
          clear cz
          go_wp2
          first | go_end0 | ((try simp only [Exit.inBlock, Exit.then]); refine bodyPost_ret (results_none rfl _ _ _) rfl ?_)
          exact ⟨rfl, _, S1.out⟩

/-! ### bits_TrailingZeros16: function 121 (a text of this session's own) -/
def bits_TrailingZeros16.f (a0 : Int) : Option Int := if 0 ≤ a0 ∧ a0 < 65536 then some (ctz16 a0) else none
theorem bits_TrailingZeros16.calls (a0 : Int) (r : Int) (w : World) (h : bits_TrailingZeros16.f a0 = some r) (hG : GTab 0 w := by first | exact Aside0.out ‹Aside0 (GTab _ _)› | exact GTab.up (Aside0.out ‹Aside0 (GTab _ _)›) (by repeat (first | (with_reducible first | exact Below.refl _ _ | exact Aside0.out ‹Aside0 (Below _ _ _)› | apply below_alloc | apply pw_below_drewN | apply below_drew1 | refine below_set ?_ (Aside0.out (by assumption))) | exact Aside0.out ‹Aside0 (Below _ _ _)›))) :
    Calls Tryd.prog 121 #[.int .u16 a0] w fun e w' => e = .returned (.int .i64 r) ∧ Drawn0 w w' := by
  unfold bits_TrailingZeros16.f at h
  by_cases hx : 0 ≤ a0 ∧ a0 < 65536
  · rw [if_pos hx] at h
    obtain rfl := Option.some.inj h
    clear h
    obtain ⟨x, rfl⟩ := Int.eq_ofNat_of_zero_le hx.1
    by_cases h0 : x = 0
    · subst h0
      clear hG hx
      go_enter Tryd.func121, Tryd.ntmps121
      go_wp2
      go_ret
      exact ⟨rfl, ⟨0, rfl⟩⟩
    · obtain ⟨idx, key, hi, htab, hk⟩ := tz16_key x (by omega) h0
      have hk1 : ((Go.Lib.ctz 16 x : Nat) : Int) ≤ 15 := by omega
      have hk2 : (0 : Int) ≤ ((Go.Lib.ctz 16 x : Nat) : Int) := by omega
      clear hk
      have hcell := hG idx hi
      rw [htab] at hcell
      have hx0 : ((x : Int) == 0) = false := by simp; omega
      have h1 : (0 : Int) ≤ (idx : Int) := by omega
      have h2 : (idx : Int) < 32 := by omega
      have HC : Aside0 (ctz16 (x : Int) = ((Go.Lib.ctz 16 x : Nat) : Int)) := ⟨by simp [ctz16]⟩
      clear hG htab h0 hx
      go_enter Tryd.func121, Tryd.ntmps121
      go_wp2
      go_ret
      exact ⟨by rw [HC.out]; rfl, ⟨0, rfl⟩⟩
  · rw [if_neg hx] at h; cases h

/-! ### impl_listed: function 78 -/
def impl_listed.l0 : Nat → Int → List Int → Option (List Int)
 | 0, _, _ => none
 | k + 1, x0, x3 => if x0 > 0 then ((bits_TrailingZeros16.f x0).bind fun t220 => (if x3.length < 17592186044416 then (impl_listed.l0 k (Go.bits .and .u16 x0 (IntKind.u16.wrap (x0 - 1))) (x3 ++ [t220])) else (none))) else (some x3)
def impl_listed.f (k : Nat) (a0 : Int) : Option (List Int) := impl_listed.l0 k a0 (([] : List Int))
theorem impl_listed.mono_l : ∀ k, (∀ y0 y1, LeO (impl_listed.l0 k y0 y1) (impl_listed.l0 (k + 1) y0 y1))
 | 0 => fun _ _ r h => by simp [impl_listed.l0] at h
 | k + 1 => by
  have ih0 := impl_listed.mono_l k
  ·intro y0 y1
   unfold impl_listed.l0
   repeat' first
   | (with_reducible exact ih0 _ _)
   | (with_reducible exact LeO.refl _)
   | (with_reducible exact LeO.none _)
   | (with_reducible refine LeO.ite ?_ ?_)
   | (with_reducible refine LeO.bind ?_ (fun _ => ?_))
   | exact ih0 _ _
   | exact LeO.none _
   | refine LeO.ite ?_ ?_
   | refine LeO.bind ?_ (fun _ => ?_)
theorem impl_listed.mono : ∀ a0 k, LeO (impl_listed.f k a0) (impl_listed.f (k + 1) a0) := by
 intro a0 k
 have ih0 := impl_listed.mono_l k
 unfold impl_listed.f
 repeat' first
   | (with_reducible exact ih0 _ _)
   | (with_reducible exact LeO.refl _)
   | (with_reducible exact LeO.none _)
   | (with_reducible refine LeO.ite ?_ ?_)
   | (with_reducible refine LeO.bind ?_ (fun _ => ?_))
   | exact ih0 _ _
   | exact LeO.none _
   | refine LeO.ite ?_ ?_
   | refine LeO.bind ?_ (fun _ => ?_)
set_option maxHeartbeats 8000000 in
set_option maxRecDepth 100000 in
theorem impl_listed.calls (k : Nat) (a0 : Int) (r : List Int) (w : World) (h : impl_listed.f k a0 = some r) (hG : GTab 0 w := by first | exact Aside0.out ‹Aside0 (GTab _ _)› | exact GTab.up (Aside0.out ‹Aside0 (GTab _ _)›) (by repeat (first | (with_reducible first | exact Below.refl _ _ | exact Aside0.out ‹Aside0 (Below _ _ _)› | apply below_alloc | apply pw_below_drewN | apply below_drew1 | refine below_set ?_ (Aside0.out (by assumption))) | exact Aside0.out ‹Aside0 (Below _ _ _)›))) :
  Calls Tryd.prog 78 #[.int .u16 a0] w fun e w' => ∃ v0_ : Value, e = .returned (v0_) ∧ Kd.R (Kd.int .i64) 3 w' w.heap.size (fun _ => True) v0_ r ∧ Below w.heap.size w w' := by
 have HG := Aside0.mk (p := GTab _ _) hG
 clear hG
 have HB := Aside0.mk (Below.refl w.heap.size w)
 have H : (impl_listed.l0 k a0 (([] : List Int))) = some r := h
 clear h
 obtain ⟨y217, hy217⟩ : ∃ y_ : List Int, y_ = (([] : List Int)) := ⟨_, rfl⟩
 replace H : (impl_listed.l0 k a0 y217) = some r := by first | (rw [hy217]; with_reducible exact H) | (have H2_ := (Option.bind_some _ _).symm.trans H; rw [hy217]; with_reducible exact H2_) | (have H2_ := (Option.bind_some _ _).symm.trans H; with_reducible exact H2_) | with_reducible exact H | (rw [hy217]; exact H) | exact H
 have Ny217 := Aside0.mk hy217
 clear hy217
 have H' := Aside0.mk H
 clear H
 go_enter Tryd.func78, Tryd.ntmps78
 go_wp2_with (first | ((with_reducible refine gate_dst (N := 4) rfl ?_); refine Kd.R_lit (Kd.int .i64) _ 3 ?hg (N := 4) ?hd (xs := ([] : List Int)) (inner := []) (ok := fun _ => True) (okp := fun _ => True) ?hr ?hp (fun _ hk => hk) trivial (Below.refl _ _) (Nat.le_refl _) (by simp) ?_; (case hd => rfl); (case hg => rfl); (case hr => first | (go_simp; done) | (go_simp; rfl)); (case hp => exact (Reps.none _ _)); intro v218 w2 ho3 hb hg_ hnew_; clear hg_ hnew_; (first | rw [← Ny217.out] at ho3 | (simp only [Int.reduceToNat] at ho3; rw [← Ny217.out] at ho3)); have HO219 := Aside0.mk (Kd.R_lower ho3 (below_size hB)); replace HB := hS HB hb; clear hb ho3))
 go_loopg [0, 3] k (fun kq v0 v3 w' => ∃ (x0_1 : Int) (x3_1 : List Int), v0 = .int .u16 x0_1 ∧ Aside0 (impl_listed.l0 kq x0_1 x3_1 = some r) ∧ Aside0 (kq ≤ k) ∧ Aside0 (Kd.R (Kd.int .i64) 3 w' w.heap.size (fun _ => True) v3 x3_1) ∧ Aside0 (Below w.heap.size w w'))
 case atStart => exact ⟨(a0), (y217), (by first | rfl | (simp; done) | (simp [*]; done)), H', ⟨Nat.le_refl _⟩, ⟨rU HO219⟩, ⟨hB⟩⟩
 case round =>
  clear H'
  try clear p2
  obtain ⟨x0_1, x3_1, rfl, HA, HK1, HO_3, HB⟩ := hrel
  cases gk with
  | zero => exact absurd HA.out (by simp [impl_listed.l0])
  | succ k1 =>
   have H := HA.out
   clear HA
   simp only [impl_listed.l0] at H
   by_cases c4 : x0_1 > 0
   ·rw [if_pos c4] at H
    have c4b0 : decide (0 < x0_1) = true := decide_eq_true c4
    clear c4
    replace H := Option.bind_eq_some_iff.mp H
    obtain ⟨t220, A50, H⟩ := H
    try dsimp only at H
    have A5 := Aside0.mk A50
    clear A50
    by_cases c6 : x3_1.length < 17592186044416
    ·rw [if_pos c6] at H
     have LMc6 := Aside0.mk c6
     clear c6
     obtain ⟨y221, hy221⟩ : ∃ y_ : List Int, y_ = (x3_1 ++ [t220]) := ⟨_, rfl⟩
     replace H : (impl_listed.l0 k1 (Go.bits .and .u16 x0_1 (IntKind.u16.wrap (x0_1 - 1))) y221) = some r := by first | (rw [hy221]; with_reducible exact H) | (have H2_ := (Option.bind_some _ _).symm.trans H; rw [hy221]; with_reducible exact H2_) | (have H2_ := (Option.bind_some _ _).symm.trans H; with_reducible exact H2_) | with_reducible exact H | (rw [hy221]; exact H) | exact H
     have Ny221 := Aside0.mk hy221
     clear hy221
     have H' := Aside0.mk H
     clear H
     go_wp2_with (first | ((with_reducible refine gate_callee (f := 121) rfl ?_); refine goC (N := some 13) Tryd.func121 #[.int .u16 x0_1] rfl ?_; (with_reducible refine (bits_TrailingZeros16.calls x0_1 t220 _ A5.out).mono ?_); rintro e w' ⟨rfl, ⟨nd, rfl⟩⟩; refine ⟨_, rfl, ?_⟩) | ((with_reducible refine gate_builtin (b := .append) (xs := #[.tmp 11, .tmp 14]) rfl ?_); at_builtin; refine Kd.R_append (Kd.int .i64) (w0 := w) w.heap.size rfl (.tmp 11) (.tmp 14) 75 3 (.int .i64 0) 8 rfl Tryd.underlying75 info3 rfl (by decide) (by omega) u3 x3_1 t220 [.int .i64 t220] (fun _ => True) (fun _ => False) rfl rfl ?aP (fun _ hk => hk.elim) ?aF ?aO ?aB ?aS ?aL ?_; (case aP => exact rfl); (case aB => exact hB); (case aF => exact (fun _ _ => trivial)); (case aO => exact (rU HO_3)); (case aS => exact (below_size hB)); (case aL => have := LMc6.out; omega); intro v222 w7 ho hb hg hat; rw [← Ny221.out] at ho; have HO223 := Aside0.mk (ho); replace HB := Aside0.mk (hb); clear HO_3; clear ho hb hg hat))
     go_roundg k1
     case measure => have := HK1.out; omega
     case rel => exact ⟨(Go.bits .and .u16 x0_1 (IntKind.u16.wrap (x0_1 - 1))), (y221), (by first | rfl | (simp; done) | (simp [*]; done)), H', ⟨by have := HK1.out; omega⟩, ⟨rU HO223⟩, ⟨hB⟩⟩
    ·rw [if_neg c6] at H
     exact absurd H (by simp)
   ·rw [if_neg c4] at H
    have c4b0 : decide (0 < x0_1) = false := decide_eq_false c4
    clear c4
    obtain rfl := Option.some.inj H
    go_wp2
    go_ret
    exact ⟨_, by first | rfl | (simp [errW_none, errW_some] <;> rfl) | (simp [*, errW_none, errW_some] <;> rfl), rU HO_3, hB⟩

/-! ### slices_Clone_int_int: function 147 (a text of this session's own) -/

def slices_Clone_int_int.f (l0 : List (Int)) : Option (List (Int)) := if l0.length < 17592186044416 then some l0 else none
set_option maxHeartbeats 8000000 in
set_option maxRecDepth 100000 in
theorem slices_Clone_int_int.calls (A0 : Option Addr) (c0 : Nat) (l0 : List (Int)) (r : List (Int)) (w : World) (hr0 : Kd.C (Kd.int .i64) w A0 l0.length l0) (hc0 : l0.length ≤ c0) (h : slices_Clone_int_int.f l0 = some r) :
    Calls Tryd.prog 147 #[.slice A0 l0.length c0] w fun e w' => ∃ v0_ : Value, e = .returned (v0_) ∧ Kd.R (Kd.int .i64) 3 w' w.heap.size (fun _ => True) v0_ r ∧ Below w.heap.size w w' := by
  unfold slices_Clone_int_int.f at h
  by_cases c2 : l0.length < 17592186044416
  · rw [if_pos c2] at h
    obtain rfl := Option.some.inj h
    have heq := fun (w : World) (n : Nat) => Go.Lib.run_eql_slice_nil (P := Tryd.prog) w 75 3 A0 n c0 0 0 Tryd.underlying75
    cases A0 with
    | none =>
      obtain rfl : l0 = [] := by
        rcases l0 with _ | ⟨x, l⟩
        · rfl
        · obtain ⟨_, h, _⟩ := hr0.2.2 (by simp); cases h
      clear hr0 h c2
      go_enter Tryd.func147, Tryd.ntmps147
      go_wp2
      go_ret
      exact ⟨_, rfl, Kd.R_nil _ _ _ _ _, Below.refl _ _⟩
    | some ad =>
      have HR0 := Aside0.mk hr0
      have LM := Aside0.mk c2
      have HB := Aside0.mk (Below.refl w.heap.size w)
      have NL := Aside0.mk (List.nil_append l0)
      clear hr0 hc0 h c2
      go_enter Tryd.func147, Tryd.ntmps147
      go_wp2_with (first | ((with_reducible refine gate_dst (N := 5) rfl ?_); refine Kd.R_lit (Kd.int .i64) _ 3 ?hg (N := 5) ?hd (xs := ([] : List (Int))) (inner := []) (ok := fun _ => True) (okp := fun _ => True) ?hr ?hp (fun _ hk => hk) trivial (Below.refl _ _) (Nat.le_refl _) (by simp) ?_; (case hd => rfl); (case hg => rfl); (case hr => first | (go_simp; done) | (go_simp; rfl)); (case hp => exact (Reps.none _ _)); intro v132 w3 ho4 hb hg_ hnew_; clear hg_ hnew_; have n0_ := Aside0.mk (Kd.R_lower ho4 (below_size (by repeat (first | (with_reducible first | exact HB.out | apply below_alloc | apply pw_below_drewN | apply below_drew1) | exact HB.out)))); have n1_ := Aside0.mk (below_step (by repeat (first | (with_reducible first | exact HB.out | apply below_alloc | apply pw_below_drewN | apply below_drew1) | exact HB.out)) hb); clear HB; have HO133 := n0_; have HB := n1_; clear n0_ n1_; clear hb ho4) | ((with_reducible refine gate_builtin (b := .append) (xs := #[.tmp 5, .tmp 6]) rfl ?_); at_builtin; refine Kd.R_append_rows (Kd.int .i64) (Rr := (Kd.int .i64).K w3) (w0 := w) w.heap.size rfl (.tmp 5) (.tmp 6) 75 3 (.int .i64 0) 8 rfl Tryd.underlying75 info3 rfl (by decide) (by omega) v132 [] l0 _ _ _ (fun _ => True) (fun _ => False) rfl rfl ?aO ?aR ?aK (fun _ h => h.elim) ?aF ?aB ?aS ?aL ?_; (case aR => repeat (first | exact (Kd.C_below HR0.out HB.out) | (with_reducible refine Kd.C_alloc ?_ _) | (with_reducible refine Kd.C_drewN ?_ _) | (with_reducible refine Kd.C_drew ?_))); (case aK => exact (fun _ _ h => h)); (case aB => exact (by repeat (first | (with_reducible first | exact HB.out | apply below_alloc | apply pw_below_drewN | apply below_drew1) | exact HB.out))); (case aF => exact (fun _ _ => trivial)); (case aO => exact (by (with_reducible repeat (first | apply Kd.R_alloc | apply Kd.R_drewN | apply Kd.R_drew)); exact HO133.out)); (case aS => exact (below_size (by repeat (first | (with_reducible first | exact HB.out | apply below_alloc | apply pw_below_drewN | apply below_drew1) | exact HB.out)))); (case aL => have := LM.out; simp only [List.length_nil]; omega); intro v135 w5 ho hb hg hat; rw [NL.out] at ho; have n0_ := Aside0.mk (hb); have n1_ := Aside0.mk (ho); clear HB; clear HO133; have HB := n0_; have HO136 := n1_; clear n0_ n1_; clear ho hb hg hat))
      go_ret
      exact ⟨_, rfl, by (with_reducible repeat (first | apply Kd.R_alloc | apply Kd.R_drewN | apply Kd.R_drew)); exact HO136.out, by repeat (first | (with_reducible first | exact HB.out | apply below_alloc | apply pw_below_drewN | apply below_drew1) | exact HB.out)⟩
  · rw [if_neg c2] at h; cases h

/-! ### impl_table_groups_1: function 146 (a text of this session's own) -/

def impl_table_groups_1.T4 : Bool × List (List Nat × List Nat) := (true, [([], []), ([], []), ([1], [1]), ([], []), ([3], [3]), ([2, 4, 2], [2, 4]), ([], []), ([], []), ([], []), ([7, 8], [7, 8]), ([9], [9]), ([6, 10], [6, 10]), ([], []), ([12], [12]), ([13], [13]), ([11, 14], [11, 14]), ([0, 5, 15, 5], [0, 5, 15])])
def impl_table_groups_1.B4 : List Nat := [0, 0, 2, 0, 8, 30, 0, 0, 0, 384, 896, 1984, 0, 4096, 12288, 32704, 65535]
theorem impl_table_groups_1.tab4 : rtab .any (opsOf Tryd.f146 4) = impl_table_groups_1.T4 := by kernel_rfl
theorem impl_table_groups_1.bits4 : waitsOk impl_table_groups_1.T4.2 impl_table_groups_1.B4 = true := by kernel_rfl
mutual
def impl_table_groups_1.l0 : Nat → List Int → List Int → Int → List Int → Int → List (List Int) → Option (List (List Int))
 | 0, _, _, _, _, _, _ => none
 | k + 1, t, l, s, q, i, xs => if i < (q.length : Int) then (if 0 ≤ i then (if 0 ≤ rd q i then (if rd q i < (t.length : Int) then ((slices_Clone_int_int.f l).bind fun z => if z.length < 17592186044416 then ((impl_table_groups_1.f k t (z ++ [rd q i]) (Go.bits .andNot .u16 (Go.bits .and .u16 s (rd t (rd q i))) (IntKind.u16.wrap (shl .u16 1 (rd q i) - 1))) xs).bind fun ys => impl_table_groups_1.l0 k t l s q (wrap64 (i + 1)) ys) else none) else none) else none) else none) else some xs
def impl_table_groups_1.f : Nat → List Int → List Int → Int → List (List Int) → Option (List (List Int))
 | 0, _, _, _, _ => none
 | k + 1, t, l, s, xs => (impl_table_full_1.f k t l xs).bind fun ys => (impl_listed.f k s).bind fun q => impl_table_groups_1.l0 k t l s q 0 ys
end
theorem impl_table_groups_1.mono_l : ∀ k, (∀ y0 y1 y2 y3 y4 y5, LeO (impl_table_groups_1.l0 k y0 y1 y2 y3 y4 y5) (impl_table_groups_1.l0 (k + 1) y0 y1 y2 y3 y4 y5)) ∧ (∀ y0 y1 y2 y3, LeO (impl_table_groups_1.f k y0 y1 y2 y3) (impl_table_groups_1.f (k + 1) y0 y1 y2 y3))
 | 0 => ⟨fun _ _ _ _ _ _ r h => by simp [impl_table_groups_1.l0] at h, fun _ _ _ _ r h => by simp [impl_table_groups_1.f] at h⟩
 | k + 1 => by
  obtain ⟨ih0, ih1⟩ := impl_table_groups_1.mono_l k
  refine ⟨?_, ?_⟩
  · intro y0 y1 y2 y3 y4 y5
    unfold impl_table_groups_1.l0
    repeat' first
      | (with_reducible exact ih0 _ _ _ _ _ _)
      | (with_reducible exact ih1 _ _ _ _)
      | (with_reducible exact LeO.refl _)
      | (with_reducible exact LeO.none _)
      | (with_reducible refine LeO.ite ?_ ?_)
      | (with_reducible refine LeO.bind ?_ (fun _ => ?_))
  · intro y0 y1 y2 y3
    unfold impl_table_groups_1.f
    repeat' first
      | (with_reducible exact ih0 _ _ _ _ _ _)
      | (with_reducible exact impl_table_full_1.mono _ _ _ _)
      | (with_reducible exact impl_listed.mono _ _)
      | (with_reducible exact LeO.refl _)
      | (with_reducible exact LeO.none _)
      | (with_reducible refine LeO.bind ?_ (fun _ => ?_))
/-- The boxes of what the call goes on with: what is called for each group, itself, the table (twice). -/
structure impl_table_groups_1.Bx (w : World) (base b : Nat) (v : Value) (t : List Int) (At : Option Addr) (ct be ba bt bt1 : Nat) : Prop where
  e_ : w.heap[be]? = some (.cells #[(.func (.func 126) #[] #[.pointer (some ⟨bt1, 0, none⟩), .pointer (some ⟨b, 0, none⟩)])] 140 (0, 0))
  a_ : w.heap[ba]? = some (.cells #[(.func (.func 146) #[] #[.pointer (some ⟨be, 0, none⟩), .pointer (some ⟨ba, 0, none⟩), .pointer (some ⟨bt, 0, none⟩)])] 160 (0, 0))
  t_ : w.heap[bt]? = some (.cells #[.slice At t.length ct] 81 (0, 0))
  u_ : w.heap[bt1]? = some (.cells #[.slice At t.length ct] 81 (0, 0))
  ts_ : Kd.F (Kd.int .u16) w (fun k => k ≠ b ∧ some k ≠ v.ownBlock) At t.length t
  tc_ : t.length ≤ ct
  g_ : GTab 0 w
  lt : bt1 < base ∧ 0 < base ∧ be ≠ b ∧ ba ≠ b ∧ bt ≠ b ∧ base ≤ b
section
variable {w w' w'' : World} {base b : Nat} {v v' v'' : Value} {xs ys zs : List (List Int)} {t : List Int} {At : Option Addr} {ct be ba bt bt1 : Nat}
theorem impl_table_groups_1.Bx.later (x : impl_table_groups_1.Bx w base b v t At ct be ba bt bt1) (hb : Below w.heap.size w w') : impl_table_groups_1.Bx w' base b v t At ct be ba bt bt1 :=
  ⟨blk_below x.e_ hb, blk_below x.a_ hb, blk_below x.t_ hb, blk_below x.u_ hb, Kd.F_below x.ts_ hb, x.tc_, GTab.up x.g_ hb, x.lt⟩
theorem impl_table_groups_1.Bx.step (x : impl_table_groups_1.Bx w base b v t At ct be ba bt bt1) (hr : Kd.S (Kd.slice 3 (Kd.int .i64)) 75 w base (fun k => k ≠ b ∧ base ≤ k) v xs) (s : impl_table_full_1.St w base b v w' v' ys) : impl_table_groups_1.Bx w' base b v' t At ct be ba bt bt1 :=
  ⟨(s.keep be ⟨x.lt.2.2.1, Kd.S_ne hr x.e_ (by decide)⟩ (blk_lt x.e_)).trans x.e_, (s.keep ba ⟨x.lt.2.2.2.1, Kd.S_ne hr x.a_ (by decide)⟩ (blk_lt x.a_)).trans x.a_, (s.keep bt ⟨x.lt.2.2.2.2.1, Kd.S_ne hr x.t_ (by decide)⟩ (blk_lt x.t_)).trans x.t_, s.blk x.u_ x.lt.1, s.foot x.ts_, x.tc_, fun j hj => (s.below.cell (p := ⟨0, j, none⟩) x.lt.2.1).trans (x.g_ j hj), x.lt⟩
end
set_option maxHeartbeats 16000000 in
set_option maxRecDepth 100000 in
theorem impl_table_groups_1.calls : ∀ (k : Nat) (t : List Int) (At : Option Addr) (ct be ba bt bt1 : Nat) (A1 : Option Addr) (c1 : Nat) (l1 : List Int) (s : Int) (b : Nat) (v : Value) (xs r : List (List Int)) (w : World) (base : Nat)
    (_hx : impl_table_groups_1.Bx w base b v t At ct be ba bt bt1) (_h1 : Kd.R (Kd.int .i64) 3 w base (fun k => k ≠ b ∧ base ≤ k) (.slice A1 l1.length c1) l1)
    (_hd : Kd.S (Kd.slice 3 (Kd.int .i64)) 75 w base (fun k => (k ≠ b ∧ base ≤ k) ∧ ¬ some k = (Value.slice A1 l1.length c1).ownBlock) v xs) (_hS : impl_table_full_1.St w base b v w v xs) (_hbase : base ≤ w.heap.size) (_h : impl_table_groups_1.f k t l1 s xs = some r),
    Calls Tryd.prog 146 #[.slice A1 l1.length c1, .int .u16 s, .pointer (some ⟨be, 0, none⟩), .pointer (some ⟨ba, 0, none⟩), .pointer (some ⟨bt, 0, none⟩)] w fun e w' => e = .returned (.tuple #[]) ∧ ∃ v', impl_table_full_1.St w base b v w' v' r := by
  intro k
  induction k using Nat.strongRecOn with
  | ind k ih =>
    intro t At ct be ba bt bt1 A1 c1 l1 s b v xs r w base hx h1 hd hS hbase h
    cases k with
    | zero => simp [impl_table_groups_1.f] at h
    | succ k =>
      simp only [impl_table_groups_1.f] at h
      replace h := Option.bind_eq_some_iff.mp h
      obtain ⟨ys, hys, h⟩ := h
      replace h := Option.bind_eq_some_iff.mp h
      obtain ⟨q, hq, h⟩ := h
      obtain ⟨Av, cv, rfl⟩ := Kd.S_slice hS.row
      have HX := Aside0.mk hx
      have HS := Aside0.mk hS
      have HD := Aside0.mk hd
      have H1 := Aside0.mk h1
      have HC1 := Aside0.mk (Kd.R_reads' h1).2.1
      have H1F := Aside0.mk (Kd.F_mono (Kd.R_F (Kd.R_apart' h1 (Kd.S_typed hS.row) (by decide))) (fun k_ hk => (⟨hk.1.1, hk.2⟩ : k_ ≠ b ∧ some k_ ≠ (Value.slice Av xs.length cv).ownBlock)))
      have HYS := Aside0.mk hys
      have HQ := Aside0.mk hq
      have HL := Aside0.mk h
      have hse : w.cell? ⟨be, 0, none⟩ = some (.func (.func 126) #[] #[.pointer (some ⟨bt1, 0, none⟩), .pointer (some ⟨b, 0, none⟩)]) := (blk_cell hx.e_ 0).trans rfl
      clear hx h1 hd hS hys hq h
      go_enter Tryd.func146, Tryd.ntmps146
      go_wp2_with (first
        | (go_at_call 126; refine (impl_table_full_1.calls k t At ct bt1 b A1 c1 l1 (.slice Av xs.length cv) xs ys w base HX.out.u_ HX.out.ts_ HX.out.tc_ H1.out HD.out HS.out hbase HX.out.lt.2.2.2.2.2 HYS.out).mono ?_; rintro e w2 ⟨rfl, v2, s2⟩; have S2 := Aside0.mk s2; have X2 := Aside0.mk (HX.out.step HS.out.row s2); have L2 := Aside0.mk (s2.foot H1F.out); have B2 := Aside0.mk (Nat.le_trans hbase s2.below.size); clear s2 hse)
        | (go_at_call 78; refine (impl_listed.calls k s q _ HQ.out (X2.out.later (by first | exact Below.refl _ _ | exact pw_below_drewN (Below.refl _ _) _)).g_).mono ?_; rintro e w3 ⟨v3, rfl, ho, hb⟩; have HOq := Aside0.mk ho; have H23 := Aside0.mk (below_step (by first | exact Below.refl _ _ | exact pw_below_drewN (Below.refl _ _) _) hb); clear ho hb; obtain ⟨Aq, cq, rfl⟩ := Kd.R_slice HOq.out))
      have S3 := Aside0.mk (S2.out.later B2.out H23.out)
      have X3 := Aside0.mk (X2.out.later H23.out)
      have L3 := Aside0.mk (Kd.F_below L2.out H23.out)
      have B3 := Aside0.mk (Nat.le_trans B2.out H23.out.size)
      have HQF := Aside0.mk (Kd.F_mono (Kd.R_F (Kd.R_bound HOq.out)) (fun k_ hk => (by have hl_ := blk_lt S2.out.box; exact ⟨by have := hk.2.1; omega, fun he => by have := Kd.S_lt S2.out.row k_ he.symm; have := hk.2.1; omega⟩ : k_ ≠ b ∧ some k_ ≠ v2.ownBlock)))
      clear S2 X2 L2
      go_loopg [15] k (fun kq v15 W => ∃ (i : Int) (zs : List (List Int)) (v' : Value), v15 = .int .i64 i ∧ Aside0 (impl_table_groups_1.l0 kq t l1 s q i zs = some r) ∧ Aside0 (kq ≤ k) ∧ Aside0 (impl_table_full_1.St w3 base b v2 W v' zs))
      case atStart => exact ⟨0, ys, v2, rfl, HL, ⟨Nat.le_refl _⟩, ⟨by first | exact S3.out.self | exact S3.out.self.drewN B3.out _⟩⟩
      case round =>
        obtain ⟨i, zs, v', rfl, HA, HK1, HS4⟩ := hrel
        cases gk with
        | zero => exact absurd HA.out (by simp [impl_table_groups_1.l0])
        | succ k1 =>
          have H := HA.out
          clear HA HL
          simp only [impl_table_groups_1.l0] at H
          have hbr : base ≤ wr.heap.size := Nat.le_trans B3.out HS4.out.below.size
          have hbl : b < wr.heap.size := blk_lt HS4.out.box
          by_cases c1_ : i < (q.length : Int)
          · rw [if_pos c1_] at H
            by_cases c2_ : 0 ≤ i
            · rw [if_pos c2_] at H
              obtain ⟨a, ha⟩ : ∃ a_, a_ = rd q i := ⟨_, rfl⟩
              rw [← ha] at H
              by_cases c3_ : 0 ≤ a
              · rw [if_pos c3_] at H
                by_cases c4_ : a < (t.length : Int)
                · rw [if_pos c4_] at H
                  have XR := Aside0.mk (X3.out.step S3.out.row HS4.out)
                  replace H := Option.bind_eq_some_iff.mp H
                  obtain ⟨z, hz, H⟩ := H
                  by_cases c5_ : z.length < 17592186044416
                  · rw [if_pos c5_] at H
                    replace H := Option.bind_eq_some_iff.mp H
                    obtain ⟨ys2, hy, H⟩ := H
                    obtain ⟨y2, hy2⟩ : ∃ y_ : List Int, y_ = z ++ [a] := ⟨_, rfl⟩
                    rw [← hy2] at hy
                    have NY := Aside0.mk hy2
                    have HZ := Aside0.mk hz
                    have HN := Aside0.mk H
                    have LZ := Aside0.mk c5_
                    obtain ⟨adq, eq_, hxq⟩ := Kd.at_int (Kd.F_now (HS4.out.foot HQF.out)) i c2_ c1_
                    subst eq_
                    rw [← ha] at hxq
                    obtain ⟨adt, et, hxt⟩ := Kd.at_int (Kd.F_now XR.out.ts_) a c3_ c4_
                    subst et
                    have HREC := Aside0.mk (fun (A9 : Option Addr) (c9 : Nat) (w9 : World) (hb : Below wr.heap.size wr w9) (ho : Kd.R (Kd.int .i64) 3 w9 wr.heap.size (fun k_ => wr.heap.size ≤ k_) (.slice A9 y2.length c9) y2) =>
                      ih k1 (by have := HK1.out; omega) t (some adt) ct be ba bt bt1 A9 c9 y2 (Go.bits .andNot .u16 (Go.bits .and .u16 s (rd t a)) (IntKind.u16.wrap (shl .u16 1 a - 1))) b v' zs ys2 w9 base (XR.out.later hb) (Kd.R_lower (Kd.R_mono ho (fun k_ hk => (⟨by omega, by omega⟩ : k_ ≠ b ∧ base ≤ k_))) hbr) (Kd.S_below (Kd.S_mono (Kd.S_bound HS4.out.row) (fun k_ hk => ⟨hk.1, fun he => by have := Kd.R_base ho _ he.symm; have := hk.2.2.1; omega⟩)) hb) (HS4.out.later hbr hb).self (Nat.le_trans hbr hb.size) hy)
                    obtain ⟨ja, hja⟩ : ∃ j_ : Int, shl .u16 1 a = j_ := ⟨_, rfl⟩
                    have hja_ : IntKind.u16.wrap (1 * 2 ^ min (a).toNat 16) = ja := hja
                    have hjaz : a ≤ 16 → IntKind.u16.wrap (1 * 2 ^ (a).toNat) = ja := shl_small hja
                    have hjau : IntKind.u16.wrap (2 ^ min (a).toNat 16) = ja := by have h_ := hja_; rw [Int.one_mul] at h_; exact h_
                    have hjav : a ≤ 16 → IntKind.u16.wrap (2 ^ (a).toNat) = ja := fun hle_ => by have h_ := hjaz hle_; rw [Int.one_mul] at h_; exact h_
                    rw [hja] at HREC
                    have LF := Aside0.mk (HS4.out.foot L3.out)
                    have c1b : decide (i < (q.length : Int)) = true := decide_eq_true c1_
                    have c3b : decide (0 ≤ a) = true := decide_eq_true c3_
                    have SW := Aside0.mk (fun (W : World) (hb : Below wr.heap.size wr W) => (⟨pw_cell_below hb ((blk_cell XR.out.a_ 0).trans rfl), pw_cell_below hb ((blk_cell XR.out.t_ 0).trans rfl), pw_cell_below hb hxt⟩ : (fun w' : World => w'.cell? ⟨ba, 0, none⟩ = some (.func (.func 146) #[] #[.pointer (some ⟨be, 0, none⟩), .pointer (some ⟨ba, 0, none⟩), .pointer (some ⟨bt, 0, none⟩)]) ∧ w'.cell? ⟨bt, 0, none⟩ = some (.slice (some adt) t.length ct) ∧ w'.cell? (adt.add a.toNat) = some (.int .u16 (rd t a))) W))
                    replace c1_ := eq_true c1_
                    replace c2_ := eq_true c2_
                    replace c3_ := eq_true c3_
                    replace c4_ := eq_true c4_
                    clear hz hy H hy2 ha c5_ hja
                    go_wp2
                    refine start_ (n := 17) (S := fun w' => w'.cell? ⟨ba, 0, none⟩ = some (.func (.func 146) #[] #[.pointer (some ⟨be, 0, none⟩), .pointer (some ⟨ba, 0, none⟩), .pointer (some ⟨bt, 0, none⟩)]) ∧ w'.cell? ⟨bt, 0, none⟩ = some (.slice (some adt) t.length ct) ∧ w'.cell? (adt.add a.toNat) = some (.int .u16 (rd t a))) (ds := [16]) (bz 17 0) (by kernel_rfl) rfl rfl (SW.out _ (by repeat (first | exact Below.refl _ _ | apply below_drew1 | apply pw_below_drewN))) (fun hHeld => ?_)
                    refine with_tabW impl_table_groups_1.tab4 impl_table_groups_1.bits4 (fun HT_ HW_ => ?_)
                    have HBd := Aside0.mk (show Below wr.heap.size wr wr.drew from (by repeat (first | exact Below.refl _ _ | apply below_drew1 | apply pw_below_drewN)))
                    clear hxq hxt
                    generalize wr.drew = w1 at HBd hHeld ⊢
                    refine run_ [(1, 0, 1, some 19), (0, 1, 3, some 20), (0, 3, 11, some 22), (0, 6, 75, some 25), (1, 7, 203, some 26), (0, 8, 459, some 27), (0, 9, 971, some 28), (1, 10, 1995, some 29), (0, 11, 4043, some 30), (0, 12, 8139, some 31), (0, 13, 16331, some 32), (0, 14, 32715, some 33), (0, 15, 65483, some 34)] ?_
                    repeat (first | (apply tag0; refine run_p (v := ?_) (a' := ?_) rfl rfl (any_of HT_.out (by kernel_rfl)) (fun _ _ _ h => h) (by rfl) ?_ ?_ ?_; rotate_left 2; (intro w'; go_simp; with_reducible rfl); (first | (simp only [Act.put, List.setIfInBounds_toArray, List.set_cons_zero, List.set_cons_succ, i64_w, i32_w]; rfl) | rfl)) | (apply tag1; refine run_t (v := ?_) (a' := ?_) rfl rfl (take_ofW HT_.out HW_.out (by kernel_rfl)) (fun _ _ _ h => h) (by rfl) ?_ hHeld ?_ ?_; rotate_left 2; (rintro w' ⟨s0, s1, s2⟩; go_simp; with_reducible rfl); (first | (simp only [Act.put, List.setIfInBounds_toArray, List.set_cons_zero, List.set_cons_succ, i64_w, i32_w]; rfl) | rfl)))
                    refine run_nil ?_
                    refine join_ (σ := Value × Value) 2 (bz 17 65503) (fun s_ => [(21, s_.1), (23, s_.2)]) (fun s_ w' => (w'.cell? ⟨ba, 0, none⟩ = some (.func (.func 146) #[] #[.pointer (some ⟨be, 0, none⟩), .pointer (some ⟨ba, 0, none⟩), .pointer (some ⟨bt, 0, none⟩)]) ∧ w'.cell? ⟨bt, 0, none⟩ = some (.slice (some adt) t.length ct) ∧ w'.cell? (adt.add a.toNat) = some (.int .u16 (rd t a))) ∧ (Kd.R (Kd.int .i64) 3 w' wr.heap.size (fun k_ => wr.heap.size ≤ k_ ∧ some k_ ≠ (s_.2 : Value).ownBlock) s_.1 z) ∧ (Kd.R (Kd.int .i64) 3 w' wr.heap.size (fun k_ => some k_ ≠ (s_.1 : Value).ownBlock) s_.2 [a]) ∧ (Below wr.heap.size wr w')) ?_ ?_
                    rotate_left
                    · intro hCont
                      refine two_ (i := 2) (j := 4) (Ni := some 21) (Nj := some 23) (bz 17 65487) (bz 17 65499) rfl rfl rfl rfl (two_of HT_.out (by kernel_rfl)) (by decide) (by decide) (fun K hK => ?_) (fun K hK => ?_)
                      · refine goes_ Tryd.func147 (by kernel_rfl) rfl #[.slice A1 l1.length c1] (by rfl) rfl rfl mapT ?_
                        refine (slices_Clone_int_int.calls A1 c1 l1 z _ (Kd.F_now (Kd.F_below LF.out HBd.out)) HC1.out HZ.out).mono ?_
                        rintro e w2' ⟨v1, rfl, ho, hb⟩
                        refine ⟨_, rfl, ?_⟩
                        have HB2 := Aside0.mk (below_step HBd.out hb)
                        have HO2 := Aside0.mk (Kd.R_lower ho (below_size HBd.out))
                        clear ho hb
                        refine hK.out _ _ (SW.out _ HB2.out) (fun hHeld2 => ?_)
                        clear hK K
                        refine one_ (i := 4) (N := some 23) (bz 17 65503) rfl rfl (one_of HT_.out (by kernel_rfl)) (by decide) (fun K hK => ?_)
                        refine Kd.R_lit_step (Kd.int .i64) (w0 := wr) wr.heap.size 3 (by rfl) (N := 23) rfl (xs := [a]) (inner := [.int .i64 a]) (ok := fun k_ => some k_ ≠ v1.ownBlock) (okp := fun _ => False) ?hr ?hp (fun _ h => h.elim) ?hf HB2.out (below_size HB2.out) (by simp) ?_
                        case hr => first | (go_simp; done) | (go_simp; rfl)
                        case hp => exact Reps.one rfl (Reps.none _ _)
                        case hf => exact fun he => by have := Kd.R_lt HO2.out _ he.symm; omega
                        intro v2' w3' ho2 hb2 hg2 hnew2
                        refine hK.out _ _ (SW.out _ hb2) (fun hHeld3 => ?_)
                        refine norm_ ?_ (hCont (v1, v2') w3' ⟨SW.out _ hb2, Kd.R_mono (Kd.R_grown (Kd.R_bound HO2.out) hg2 (fun k_ _ => by simp)) (fun k_ hk => ⟨hk.2.1, fun he => by obtain ⟨g, e, hg⟩ := hnew2; rw [e] at he; injection he with he; have := hk.2.2.1; omega⟩), ho2, hb2⟩)
                        first | rfl | (simp only [putAll, Act.put, List.setIfInBounds_toArray, List.set_cons_zero, List.set_cons_succ, i64_w, i32_w]; rfl)
                      · refine Kd.R_lit_step (Kd.int .i64) (w0 := wr) wr.heap.size 3 (by rfl) (N := 23) rfl (xs := [a]) (inner := [.int .i64 a]) (ok := fun _ => True) (okp := fun _ => False) ?hr ?hp (fun _ h => h.elim) trivial HBd.out (below_size HBd.out) (by simp) ?_
                        case hr => first | (go_simp; done) | (go_simp; rfl)
                        case hp => exact Reps.one rfl (Reps.none _ _)
                        intro v2' w2' ho2 hb2 hg2 hnew2
                        have HB2 := Aside0.mk hb2
                        have HO2 := Aside0.mk ho2
                        clear hb2 ho2 hg2
                        refine hK.out _ _ (SW.out _ HB2.out) (fun hHeld2 => ?_)
                        clear hK K
                        refine one_ (i := 2) (N := some 21) (bz 17 65503) rfl rfl (one_of HT_.out (by kernel_rfl)) (by decide) (fun K hK => ?_)
                        refine goes_ Tryd.func147 (by kernel_rfl) rfl #[.slice A1 l1.length c1] (by rfl) rfl rfl mapT ?_
                        refine (slices_Clone_int_int.calls A1 c1 l1 z _ (Kd.F_now (Kd.F_below LF.out HB2.out)) HC1.out HZ.out).mono ?_
                        rintro e w3' ⟨v1, rfl, ho, hb⟩
                        refine ⟨_, rfl, ?_⟩
                        refine hK.out _ _ (SW.out _ (below_step HB2.out hb)) (fun hHeld3 => ?_)
                        refine norm_ ?_ (hCont (v1, v2') w3' ⟨SW.out _ (below_step HB2.out hb), Kd.R_mono (Kd.R_lower (Kd.R_bound ho) (below_size HB2.out)) (fun k_ hk => ⟨Nat.le_trans (below_size HB2.out) hk.2.1, fun he => by have := Kd.R_lt HO2.out _ he.symm; have := hk.2.1; omega⟩), Kd.R_mono (Kd.R_below (Kd.R_bound HO2.out) hb) (fun k_ hk he => by have := Kd.R_base ho _ he.symm; have := hk.2.2.1; omega), below_step HB2.out hb⟩)
                        first | rfl | (simp only [putAll, Act.put, List.setIfInBounds_toArray, List.set_cons_zero, List.set_cons_succ, i64_w, i32_w]; rfl)
                    · rintro ⟨v1, v2'⟩ w3' ⟨hHeld3, R1, R2, HB3⟩
                      simp only at R1 R2
                      refine norm_ (a' := ?_) ?_ ?_
                      rotate_left
                      · simp only [putAll, Act.put, List.setIfInBounds_toArray, List.set_cons_zero, List.set_cons_succ, i64_w, i32_w]
                        rfl
                      obtain ⟨A2, c2, rfl⟩ := Kd.R_slice R2
                      have HR1 := Aside0.mk R1
                      have HR2 := Aside0.mk R2
                      have HB4 := Aside0.mk HB3
                      clear R1 R2 HB3
                      refine one_ (i := 5) (N := some 24) (bz 17 65535) rfl rfl (one_of HT_.out (by kernel_rfl)) (by decide) (fun K hK => ?_)
                      refine Kd.R_append_rows_step (Kd.int .i64) (w0 := wr) wr.heap.size (by rfl) (.tmp 21) (.tmp 23) 75 3 (.int .i64 0) 8 rfl Tryd.underlying75 info3 rfl (by decide) (by omega) v1 z [a] A2 1 c2 (fun k_ => wr.heap.size ≤ k_) (fun _ => False) rfl rfl (Kd.R_mono HR1.out (fun _ hk => hk.1)) (Kd.R_reads' HR2.out).2.2 (fun _ _ h => h) (fun _ h => h.elim) (fun k_ hk => Nat.le_trans (below_size HB4.out) hk) HB4.out (below_size HB4.out) (by have := LZ.out; omega) ?_
                      intro v4 w4 ho hb hg hat
                      rw [← NY.out] at ho
                      obtain ⟨A9, c9, rfl⟩ := Kd.R_slice ho
                      refine hK.out _ _ (SW.out _ hb) (fun hHeld4 => ?_)
                      clear hK K
                      refine norm_ (a' := ?_) ?_ ?_
                      rotate_left
                      · show Act.put _ (some 24) _ = _
                        simp only [Act.put, List.setIfInBounds_toArray, List.set_cons_zero, List.set_cons_succ, i64_w, i32_w]
                        rfl
                      have HB5 := Aside0.mk hb
                      have HO5 := Aside0.mk ho
                      clear hb ho hg hat
                      refine last_ (i := 16) (N := some 35) (bz 17 131071) rfl rfl (one_of HT_.out (by kernel_rfl)) (by decide) (fun K hK => ?_)
                      refine call_ 146 #[.slice A9 y2.length c9, .int .u16 (Go.bits .andNot .u16 (Go.bits .and .u16 s (rd t a)) (IntKind.u16.wrap (ja - 1))), .pointer (some ⟨be, 0, none⟩), .pointer (some ⟨ba, 0, none⟩), .pointer (some ⟨bt, 0, none⟩)] (by rfl) rfl ?_ ?_
                      · have he := fun W_ => enters_ Tryd.func146 (by kernel_rfl) rfl #[.slice A9 y2.length c9, .int .u16 (Go.bits .andNot .u16 (Go.bits .and .u16 s (rd t a)) (IntKind.u16.wrap (ja - 1))), .pointer (some ⟨be, 0, none⟩), .pointer (some ⟨ba, 0, none⟩), .pointer (some ⟨bt, 0, none⟩)] W_
                        unfold execOp
                        simp [resolve, Deferred.ofValue, invoke, Act.eval, he]
                      refine (HREC.out A9 c9 w4 HB5.out HO5.out).mono ?_
                      rintro e w7' ⟨rfl, v7, s7⟩
                      refine ⟨_, rfl, ?_⟩
                      have HS7 := Aside0.mk ((HS4.out.later hbr HB5.out).trans s7)
                      refine hK.out _ _ ?_
                      clear hK K s7
                      refine done_ (done_of HT_.out (by kernel_rfl)) ?_
                      go_wp2
                      go_roundg k1
                      case measure => have := HK1.out; omega
                      case rel => exact ⟨wrap64 (i + 1), ys2, v7, by first | rfl | (simp; done), HN, ⟨by have := HK1.out; omega⟩, HS7⟩
                  · rw [if_neg c5_] at H; cases H
                · rw [if_neg c4_] at H; cases H
              · rw [if_neg c3_] at H; cases H
            · rw [if_neg c2_] at H; cases H
          · rw [if_neg c1_] at H
            have c1b : decide (i < (q.length : Int)) = false := decide_eq_false c1_
            clear c1_
            obtain rfl := Option.some.inj H
            go_wp2
            first | go_end0 | ((try simp only [Exit.inBlock, Exit.then]); refine bodyPost_ret (results_none rfl _ _ _) rfl ?_)
            exact ⟨rfl, v', by first | exact S3.out.trans HS4.out | exact (S3.out.trans HS4.out).drewN hbr _⟩

/-! ### impl_table_groups: function 125 (a text of this session's own) -/

def impl_table_groups.T3 : Bool × List (List Nat × List Nat) := (true, [([], []), ([], []), ([], []), ([2], [2]), ([3], [3]), ([4], [4]), ([0, 1, 5], [0, 1, 5])])
def impl_table_groups.B3 : List Nat := [0, 0, 0, 4, 12, 28, 63]
theorem impl_table_groups.tab3 : rtab .any (opsOf Tryd.f125 3) = impl_table_groups.T3 := by kernel_rfl
theorem impl_table_groups.bits3 : waitsOk impl_table_groups.T3.2 impl_table_groups.B3 = true := by kernel_rfl
def impl_table_groups.f (k : Nat) (t : List Int) : Option (List (List Int)) := impl_table_groups_1.f k t [] (IntKind.u16.wrap (shl .u16 1 (t.length : Int) - 1)) []
theorem impl_table_groups.mono : ∀ a0 k, LeO (impl_table_groups.f k a0) (impl_table_groups.f (k + 1) a0) := fun a0 k => (impl_table_groups_1.mono_l k).2 _ _ _ _
set_option maxHeartbeats 8000000 in
set_option maxRecDepth 100000 in
theorem impl_table_groups.calls (k : Nat) (t : List Int) (At : Option Addr) (ct b bt1 : Nat) (v : Value) (r : List (List Int)) (w : World) (base : Nat)
    (hbt : w.heap[bt1]? = some (.cells #[.slice At t.length ct] 81 (0, 0))) (hts : Kd.F (Kd.int .u16) w (fun k => k ≠ b ∧ some k ≠ v.ownBlock) At t.length t) (hct : t.length ≤ ct)
    (hS : impl_table_full_1.St w base b v w v []) (hbase : base ≤ w.heap.size) (hG : GTab 0 w) (hlt : bt1 < base ∧ 0 < base ∧ base ≤ b) (h : impl_table_groups.f k t = some r) :
    Calls Tryd.prog 125 #[.slice At t.length ct, (.func (.func 126) #[] #[.pointer (some ⟨bt1, 0, none⟩), .pointer (some ⟨b, 0, none⟩)])] w fun e w' => e = .returned (.tuple #[]) ∧ ∃ v', impl_table_full_1.St w base b v w' v' r := by
  have HBT := Aside0.mk hbt
  have HTS := Aside0.mk hts
  have HS := Aside0.mk hS
  have HG := Aside0.mk hG
  have HL := Aside0.mk hlt
  have HF := Aside0.mk h
  have HB := Aside0.mk (Below.refl w.heap.size w)
  have LB := Aside0.mk (show b < w.heap.size from blk_lt hS.box)
  have hst := fun (a : Addr) (fn : Fn) (x y : Array Value) (m : Mode) (w : World) => run_store Tryd.prog w a (.func fn x y) m rfl
  clear hbt hts hS hG hlt h
  go_enter Tryd.func125, Tryd.ntmps125
  go_wp2_with (first
    | ((with_reducible refine gate_dst (N := 2) rfl ?_); refine bxE 2 #[.slice At t.length ct] 81 rfl ?_; intro bt hg w2 hbox hb; have BKt := Aside0.mk hbox; have NBt := Aside0.mk (show b ≠ bt from by have := LB.out; omega); have GEt := gS HB hg; replace HB := hS HB hb; clear hg hbox hb)
    | ((with_reducible refine gate_dst (N := 3) rfl ?_); refine bxE 3 #[(.func (.func 126) #[] #[.pointer (some ⟨bt1, 0, none⟩), .pointer (some ⟨b, 0, none⟩)])] 140 rfl ?_; intro be hg w3 hbox hb; have BKe := Aside0.mk hbox; have NBe := Aside0.mk (show b ≠ be from by have := LB.out; have := HB.out.size; omega); replace BKt := bS BKt hb; replace HB := hS HB hb; clear hg hbox hb)
    | ((with_reducible refine gate_dst (N := 4) rfl ?_); refine bxE 4 #[.nilFunc] 160 rfl ?_; intro ba hg w4 hbox hb; have BKa := Aside0.mk hbox; have NBa := Aside0.mk (show b ≠ ba from by have := LB.out; have := HB.out.size; omega); have NEa := nL BKe hg; have NTa := nL BKt hg; have GEa := gS HB hg; replace BKt := bS BKt hb; replace BKe := bS BKe hb; replace HB := hS HB hb; have ha0 := cz BKa 0; have ha1 := fz BKa 0; clear hg hbox hb))
  have BKa7 := Aside0.mk (blk_set BKa.out 0 (.func (.func 146) #[] #[.pointer (some ⟨be, 0, none⟩), .pointer (some ⟨ba, 0, none⟩), .pointer (some ⟨bt, 0, none⟩)]))
  have BKe7 := Aside0.mk (blk_far BKe.out (p := ⟨ba, 0, none⟩) NEa.out (.func (.func 146) #[] #[.pointer (some ⟨be, 0, none⟩), .pointer (some ⟨ba, 0, none⟩), .pointer (some ⟨bt, 0, none⟩)]))
  have BKt7 := Aside0.mk (blk_far BKt.out (p := ⟨ba, 0, none⟩) NTa.out (.func (.func 146) #[] #[.pointer (some ⟨be, 0, none⟩), .pointer (some ⟨ba, 0, none⟩), .pointer (some ⟨bt, 0, none⟩)]))
  have HB7 := Aside0.mk (below_set (j := 0) (v := (.func (.func 146) #[] #[.pointer (some ⟨be, 0, none⟩), .pointer (some ⟨ba, 0, none⟩), .pointer (some ⟨bt, 0, none⟩)])) HB.out GEa.out)
  clear ha0 ha1
  generalize w4.setCell ⟨ba, 0, none⟩ (.func (.func 146) #[] #[.pointer (some ⟨be, 0, none⟩), .pointer (some ⟨ba, 0, none⟩), .pointer (some ⟨bt, 0, none⟩)]) = w5 at BKa7 BKe7 BKt7 HB7 ⊢
  have SW := Aside0.mk (fun (W' : World) (hb : Below w5.heap.size w5 W') => (⟨pw_cell_below hb ((blk_cell BKa7.out 0).trans rfl), pw_cell_below hb ((blk_cell BKt7.out 0).trans rfl)⟩ : (fun w' : World => w'.cell? ⟨ba, 0, none⟩ = some (.func (.func 146) #[] #[.pointer (some ⟨be, 0, none⟩), .pointer (some ⟨ba, 0, none⟩), .pointer (some ⟨bt, 0, none⟩)]) ∧ w'.cell? ⟨bt, 0, none⟩ = some (.slice At t.length ct)) W'))
  have c0 : decide (0 ≤ (t.length : Int)) = true := by simp
  try go_wp2
  refine start_ (n := 7) (S := fun w' => w'.cell? ⟨ba, 0, none⟩ = some (.func (.func 146) #[] #[.pointer (some ⟨be, 0, none⟩), .pointer (some ⟨ba, 0, none⟩), .pointer (some ⟨bt, 0, none⟩)]) ∧ w'.cell? ⟨bt, 0, none⟩ = some (.slice At t.length ct)) (ds := [6]) (bz 7 0) (by kernel_rfl) rfl rfl (SW.out _ (by repeat (first | exact Below.refl _ _ | apply below_drew1 | apply pw_below_drewN))) (fun hHeld => ?_)
  refine with_tabW impl_table_groups.tab3 impl_table_groups.bits3 (fun HT_ HW_ => ?_)
  have HBd := Aside0.mk (show Below w5.heap.size w5 w5.drew from (by repeat (first | exact Below.refl _ _ | apply below_drew1 | apply pw_below_drewN)))
  generalize w5.drew = w6 at HBd hHeld ⊢
  obtain ⟨jt, hjt⟩ : ∃ j_ : Int, shl .u16 1 (t.length : Int) = j_ := ⟨_, rfl⟩
  have hjt_ : IntKind.u16.wrap (1 * 2 ^ min ((t.length : Int)).toNat 16) = jt := hjt
  have hjtz : (t.length : Int) ≤ 16 → IntKind.u16.wrap (1 * 2 ^ ((t.length : Int)).toNat) = jt := shl_small hjt
  have hjtu : IntKind.u16.wrap (2 ^ min ((t.length : Int)).toNat 16) = jt := by have h_ := hjt_; rw [Int.one_mul] at h_; exact h_
  have hjtv : (t.length : Int) ≤ 16 → IntKind.u16.wrap (2 ^ ((t.length : Int)).toNat) = jt := fun hle_ => by have h_ := hjtz hle_; rw [Int.one_mul] at h_; exact h_
  have hjtw : IntKind.u16.wrap (2 ^ min t.length 16) = jt := by have h_ := hjtu; rwa [Int.toNat_natCast] at h_
  have hjtx : IntKind.u16.wrap (1 * 2 ^ min t.length 16) = jt := by rw [Int.one_mul]; exact hjtw
  refine run_ [(1, 0, 1, some 6), (1, 2, 5, some 8), (0, 3, 13, some 9), (0, 4, 29, some 10), (0, 5, 61, some 11)] ?_
  repeat (first | (apply tag0; refine run_p (v := ?_) (a' := ?_) rfl rfl (any_of HT_.out (by kernel_rfl)) (fun _ _ _ h => h) (by rfl) ?_ ?_ ?_; rotate_left 2; (intro w'; go_simp; with_reducible rfl); (first | (simp only [Act.put, List.setIfInBounds_toArray, List.set_cons_zero, List.set_cons_succ, i64_w, i32_w]; rfl) | rfl)) | (apply tag1; refine run_t (v := ?_) (a' := ?_) rfl rfl (take_ofW HT_.out HW_.out (by kernel_rfl)) (fun _ _ _ h => h) (by rfl) ?_ hHeld ?_ ?_; rotate_left 2; (rintro w' ⟨s0, s1⟩; go_simp; with_reducible rfl); (first | (simp only [Act.put, List.setIfInBounds_toArray, List.set_cons_zero, List.set_cons_succ, i64_w, i32_w]; rfl) | rfl)))
  refine run_nil ?_
  refine one_ (i := 1) (N := some 7) (bz 7 63) rfl rfl (one_of HT_.out (by kernel_rfl)) (by decide) (fun K hK => ?_)
  refine Kd.R_lit_step (Kd.int .i64) (w0 := w5) w5.heap.size 3 (by rfl) (N := 7) rfl (xs := ([] : List Int)) (inner := []) (ok := fun _ => True) (okp := fun _ => False) ?hr ?hp (fun _ h => h.elim) trivial HBd.out (below_size HBd.out) (by simp) ?_
  case hr => first | (go_simp; done) | (go_simp; rfl)
  case hp => exact Reps.none _ _
  intro v7 w7 ho hb hg hnew
  obtain ⟨A7, c7, e7⟩ := Kd.R_slice ho
  rw [List.length_nil] at e7
  subst e7
  have HO7 := Aside0.mk ho
  have H57 := Aside0.mk hb
  refine hK.out _ _ (SW.out _ H57.out) (fun hHeld2 => ?_)
  clear hK K ho hb hg hnew
  refine norm_ (a' := ?_) ?_ ?_
  rotate_left
  · show Act.put _ (some 7) _ = _
    simp only [Act.put, List.setIfInBounds_toArray, List.set_cons_zero, List.set_cons_succ, i64_w, i32_w]
    rfl
  have HBw := Aside0.mk (below_step HB7.out H57.out)
  have S7 := Aside0.mk (HS.out.later hbase HBw.out)
  have B7 := Aside0.mk (Nat.le_trans hbase HBw.out.size)
  have HX7 := Aside0.mk (⟨blk_below BKe7.out H57.out, blk_below BKa7.out H57.out, blk_below BKt7.out H57.out, blk_below HBT.out HBw.out, Kd.F_below HTS.out HBw.out, hct, GTab.up HG.out HBw.out, ⟨HL.out.1, HL.out.2.1, Ne.symm NBe.out, Ne.symm NBa.out, Ne.symm NBt.out, HL.out.2.2⟩⟩ : impl_table_groups_1.Bx w7 base b v t At ct be ba bt bt1)
  refine last_ (i := 6) (N := some 12) (bz 7 127) rfl rfl (one_of HT_.out (by kernel_rfl)) (by decide) (fun K hK => ?_)
  refine call_ 146 #[.slice A7 0 c7, .int .u16 (IntKind.u16.wrap (jt - 1)), .pointer (some ⟨be, 0, none⟩), .pointer (some ⟨ba, 0, none⟩), .pointer (some ⟨bt, 0, none⟩)] (by rfl) rfl ?_ ?_
  · have he := fun W_ => enters_ Tryd.func146 (by kernel_rfl) rfl #[.slice A7 0 c7, .int .u16 (IntKind.u16.wrap (jt - 1)), .pointer (some ⟨be, 0, none⟩), .pointer (some ⟨ba, 0, none⟩), .pointer (some ⟨bt, 0, none⟩)] W_
    unfold execOp
    simp [resolve, Deferred.ofValue, invoke, Act.eval, he]
  have HF2 := HF.out
  unfold impl_table_groups.f at HF2
  rw [hjt] at HF2
  refine (impl_table_groups_1.calls k t At ct be ba bt bt1 A7 c7 [] _ b v [] r w7 base HX7.out (Kd.R_lower (Kd.R_mono (Kd.R_bound HO7.out) (fun k_ hk => (by have := LB.out; have := HB7.out.size; exact ⟨by have := hk.2.1; omega, by have := hk.2.1; have := hbase; omega⟩))) (Nat.le_trans hbase HB7.out.size)) (Kd.S_below (Kd.S_mono (Kd.S_bound HS.out.row) (fun k_ hk => ⟨hk.1, fun he => by have := Kd.R_base HO7.out k_ he.symm; have := hk.2.2.1; have := HB7.out.size; omega⟩)) HBw.out) S7.out.self B7.out HF2).mono ?_
  rintro e w8 ⟨rfl, v8, s8⟩
  refine ⟨_, rfl, ?_⟩
  have S8 := Aside0.mk (S7.out.trans s8)
  refine hK.out _ _ ?_
  clear hK K s8
  refine done_ (done_of HT_.out (by kernel_rfl)) ?_
  (try go_wp2)
  first | go_end0 | ((try simp only [Exit.inBlock, Exit.then]); refine bodyPost_ret (results_none rfl _ _ _) rfl ?_)
  exact ⟨rfl, v8, S8.out⟩

/-! ### impl_table_full: function 89 (a text of this session's own) -/

def impl_table_full.f (k : Nat) (t : List Int) : Option (List (List Int)) := impl_table_groups.f k t
theorem impl_table_full.mono : ∀ a0 k, LeO (impl_table_full.f k a0) (impl_table_full.f (k + 1) a0) := impl_table_groups.mono
set_option maxHeartbeats 8000000 in
set_option maxRecDepth 100000 in
theorem impl_table_full.calls (k : Nat) (At : Option Addr) (ct : Nat) (t : List Int) (r : List (List Int)) (w : World) (hr : Kd.C (Kd.int .u16) w At t.length t) (hc : t.length ≤ ct) (h : impl_table_full.f k t = some r) (hG : GTab 0 w := by first | exact Aside0.out ‹Aside0 (GTab _ _)› | exact GTab.up (Aside0.out ‹Aside0 (GTab _ _)›) (by repeat (first | (with_reducible first | exact Below.refl _ _ | exact Aside0.out ‹Aside0 (Below _ _ _)› | apply below_alloc | apply pw_below_drewN | apply below_drew1 | refine below_set ?_ (Aside0.out (by assumption))) | exact Aside0.out ‹Aside0 (Below _ _ _)›))) :
    Calls Tryd.prog 89 #[.slice At t.length ct] w fun e w' => ∃ v0_ : Value, e = .returned (v0_) ∧ Kd.S (Kd.slice 3 (Kd.int .i64)) 75 w' w.heap.size (fun _ => True) v0_ r ∧ Below w.heap.size w w' := by
  have HR := Aside0.mk (Kd.C_F (Kd.heap_int _) hr)
  have HG := Aside0.mk hG
  have HF := Aside0.mk h
  have LG := Aside0.mk (show 0 < w.heap.size from World.block_lt_of_cell? w _ (hG 0 (by decide)))
  clear hr hG h
  go_enter Tryd.func89, Tryd.ntmps89
  go_wp2_with (first
    | ((with_reducible refine gate_dst (N := 1) rfl ?_); refine bxE 1 #[.slice At t.length ct] 81 rfl ?_; intro bt1 hg w2 hbox hb; have BKt := Aside0.mk hbox; have H02 := Aside0.mk hb; have ht0 := cz BKt 0; clear hg hbox hb)
    | ((with_reducible refine gate_dst (N := 4) rfl ?_); refine Kd.S_lit (Kd.slice 3 (Kd.int .i64)) _ 75 ?hg (N := 4) ?hd (xs := ([] : List (List Int))) (inner := []) (ok := fun _ => True) (okp := fun _ => True) ?hr ?hp (fun _ hk => hk) trivial (Below.refl _ _) (Nat.le_refl _) (by simp) ?_; (case hd => rfl); (case hg => rfl); (case hr => first | (go_simp; done) | (go_simp; rfl)); (case hp => exact (Reps.none _ _)); intro v0 w3 ho hb hg_ hnew_; have HO3 := Aside0.mk ho; have H23 := Aside0.mk hb; clear ho hb hg_ hnew_ ht0; obtain ⟨A3, c3, e3⟩ := Kd.S_slice HO3.out; rw [List.length_nil] at e3; subst e3)
    | ((with_reducible refine gate_dst (N := 3) rfl ?_); refine bxE 3 #[.slice none 0 0] 58 rfl ?_; intro b hg w4 hbox hb; have BKb := Aside0.mk hbox; have GB := Aside0.mk (show b = w3.heap.size from hg); have H34 := Aside0.mk hb; have hbc := cz BKb 0; have hbf := fz BKb 0; have ht0 : w4.cell? ⟨bt1, 0, none⟩ = some (.slice At t.length ct) := (blk_cell (blk_below (blk_below BKt.out H23.out) hb) 0).trans rfl; have hnb : bt1 ≠ b := (by have := blk_lt BKt.out; have := H23.out.size; omega); have hnc : b ≠ bt1 := Ne.symm hnb; clear hg hbox hb)
    | (go_at_call 125; have q4 : Below w3.heap.size w3 (w4.setCell ⟨b, 0, none⟩ (.slice A3 0 c3)) := below_set H34.out (Nat.le_of_eq GB.out.symm); have q2 : Below w2.heap.size w2 (w4.setCell ⟨b, 0, none⟩ (.slice A3 0 c3)) := below_step H23.out q4; have q0 : Below w.heap.size w (w4.setCell ⟨b, 0, none⟩ (.slice A3 0 c3)) := below_step H02.out q2; have hb2 : w2.heap.size ≤ b := (by rw [GB.out]; exact H23.out.size); have hS9 : impl_table_full_1.St (w4.setCell ⟨b, 0, none⟩ (.slice A3 0 c3)) w2.heap.size b (.slice A3 0 c3) (w4.setCell ⟨b, 0, none⟩ (.slice A3 0 c3)) (.slice A3 0 c3) [] := ⟨blk_set BKb.out 0 _, Kd.S_below (Kd.S_mono (Kd.S_bound HO3.out) (fun k_ hk => ⟨by have := hk.2.2.1; have := GB.out; omega, hk.2.1⟩)) q4, Below.refl _ _, fun _ _ _ => rfl, .inl rfl⟩; have own : ∀ k_, k_ < w2.heap.size → some k_ ≠ (Value.slice A3 0 c3).ownBlock := fun k_ hk he => (by have := Kd.S_base HO3.out _ he.symm; omega); have lt1 : bt1 < w2.heap.size := blk_lt BKt.out; have s02 := H02.out.size; have lg := LG.out; refine (impl_table_groups.calls k t At ct b bt1 (.slice A3 0 c3) r _ w2.heap.size (blk_below BKt.out q2) (Kd.F_mono (Kd.F_below HR.out q0) (fun k_ hk => ⟨by have := hk; omega, own k_ (by have := hk; omega)⟩)) hc hS9 q2.size (GTab.up HG.out q0) ⟨lt1, by omega, hb2⟩ HF.out).mono ?_; rintro e w5 ⟨rfl, v', s⟩; have S5 := Aside0.mk s; have Q5 := Aside0.mk (q0.trans (s.below.mono s02)); have LW := Aside0.mk s02; have hso : w5.cell? ⟨b, 0, none⟩ = some v' := (blk_cell s.box 0).trans rfl; clear s hS9 own lt1 lg s02 hb2 q4 q2 q0 hbc hbf))
  go_ret
  exact ⟨_, rfl, Kd.S_mono (Kd.S_lower S5.out.row LW.out) (fun _ _ => trivial), Q5.out⟩

/-! ### impl_AllGroups: function 40 -/
def impl_AllGroups.f (k : Nat) (a0_0 : Int) (l0_1 : List (S105)) : Option ((List (List Int)) × Bool) := (impl_IsParty.f k a0_0 l0_1).bind fun t225 => (if t225 = true then ((impl_Party_table.f k a0_0 l0_1).bind fun t226 => ((impl_table_full.f k t226).bind fun t229 => (some (t229, true)))) else (some (([] : List (List Int)), false)))
theorem impl_AllGroups.mono : ∀ a0 a1 k, LeO (impl_AllGroups.f k a0 a1) (impl_AllGroups.f (k + 1) a0 a1) := by
 intro a0 a1 k
 unfold impl_AllGroups.f
 repeat' first
   | (with_reducible exact impl_IsParty.mono _ _ _)
   | (with_reducible exact impl_Party_table.mono _ _ _)
   | (with_reducible exact impl_table_full.mono _ _)
   | (with_reducible exact LeO.refl _)
   | (with_reducible exact LeO.none _)
   | (with_reducible refine LeO.ite ?_ ?_)
   | (with_reducible refine LeO.bind ?_ (fun _ => ?_))
   | exact impl_IsParty.mono _ _ _
   | exact impl_Party_table.mono _ _ _
   | exact impl_table_full.mono _ _
   | exact LeO.none _
   | refine LeO.ite ?_ ?_
   | refine LeO.bind ?_ (fun _ => ?_)
set_option maxHeartbeats 8000000 in
set_option maxRecDepth 100000 in
theorem impl_AllGroups.calls (k : Nat) (a0_0 : Int) (A0_1 : Option Addr) (c0_1 : Nat) (l0_1 : List (S105)) (r1 : List (List Int)) (r2 : Bool) (w : World) (hr0_1 : Kd.C k105 w A0_1 l0_1.length l0_1) (hc0_1 : l0_1.length ≤ c0_1) (h : impl_AllGroups.f k a0_0 l0_1 = some (r1, r2)) (hG : GTab 0 w := by first | exact Aside0.out ‹Aside0 (GTab _ _)› | exact GTab.up (Aside0.out ‹Aside0 (GTab _ _)›) (by repeat (first | (with_reducible first | exact Below.refl _ _ | exact Aside0.out ‹Aside0 (Below _ _ _)› | apply below_alloc | apply pw_below_drewN | apply below_drew1 | refine below_set ?_ (Aside0.out (by assumption))) | exact Aside0.out ‹Aside0 (Below _ _ _)›))) :
  Calls Tryd.prog 40 #[.agg #[.int .i64 a0_0, .slice A0_1 l0_1.length c0_1]] w fun e w' => ∃ v0_ : Value, e = .returned (.tuple #[v0_, .bool r2]) ∧ Kd.S (Kd.slice 3 (Kd.int .i64)) 75 w' w.heap.size (fun _ => True) v0_ r1 ∧ Below w.heap.size w w' := by
 have hu33 := Tryd.underlying33
 have HG := Aside0.mk (p := GTab _ _) hG
 clear hG
 have HR0_1 := Aside0.mk hr0_1
 have HC0_1 := Aside0.mk hc0_1
 clear hr0_1 hc0_1
 have HB := Aside0.mk (Below.refl w.heap.size w)
 have H : ((impl_IsParty.f k a0_0 l0_1).bind fun t225 => (if t225 = true then ((impl_Party_table.f k a0_0 l0_1).bind fun t226 => ((impl_table_full.f k t226).bind fun t229 => (some (t229, true)))) else (some (([] : List (List Int)), false)))) = some (r1, r2) := h
 clear h
 replace H := Option.bind_eq_some_iff.mp H
 obtain ⟨t225, A20, H⟩ := H
 try dsimp only at H
 have A2 := Aside0.mk A20
 clear A20
 by_cases c3 : t225 = true
 ·subst c3
  rw [if_pos rfl] at H
  replace H := Option.bind_eq_some_iff.mp H
  obtain ⟨t226, A40, H⟩ := H
  try dsimp only at H
  have A4 := Aside0.mk A40
  clear A40
  replace H := Option.bind_eq_some_iff.mp H
  obtain ⟨t229, A50, H⟩ := H
  replace H : (some (t229, true)) = some (r1, r2) := H
  have A5 := Aside0.mk A50
  clear A50
  simp only [Option.some.injEq, Prod.mk.injEq] at H
  obtain ⟨rfl, rfl⟩ := H
  go_enter Tryd.func40, Tryd.ntmps40
  go_wp2_with (first | ((with_reducible refine gate_dst (N := 1) rfl ?_); refine bxE 1 #[.int .i64 a0_0, .slice A0_1 l0_1.length c0_1] 33 rfl ?_; intro gb224 hg w6 hbox hb; have BK224 := Aside0.mk (hbox); have GW224 := gS HB hg; have GE224 := gS HB hg; replace HB := hS HB hb; clear hb hbox hg; have hcz7_0 := cz BK224 0; have hcz7_1 := cz BK224 1; have hfz7_0 := fz BK224 0; have hfz7_1 := fz BK224 1) | ((with_reducible refine gate_callee (f := 76) rfl ?_); refine goC (N := some 5) Tryd.func76 #[.agg #[.int .i64 a0_0, .slice A0_1 l0_1.length c0_1]] rfl ?_; (with_reducible refine (impl_IsParty.calls k a0_0 _ _ l0_1 true _ ?side1 ?side2 A2.out).mono ?_); (case side1 => exact cS (Kd.C_below HR0_1.out HB.out)); (case side2 => exact HC0_1.out); rintro e w8 ⟨rfl, hb⟩; refine ⟨_, rfl, ?_⟩; replace BK224 := bS BK224 hb; replace HB := hS HB hb; (try clear hb); (try clear hb2); (try clear hk); (try clear hi); have hcz9_0 := cz BK224 0; have hcz9_1 := cz BK224 1; have hfz9_0 := fz BK224 0; have hfz9_1 := fz BK224 1) | ((with_reducible refine gate_callee (f := 61) rfl ?_); refine goC (N := some 8) Tryd.func61 #[.agg #[.int .i64 a0_0, .slice A0_1 l0_1.length c0_1]] rfl ?_; (with_reducible refine (impl_Party_table.calls k a0_0 _ _ l0_1 t226 _ ?side1 ?side2 A4.out).mono ?_); (case side1 => exact cS (Kd.C_below HR0_1.out HB.out)); (case side2 => exact HC0_1.out); rintro e w10 ⟨v227, rfl, ho0, hb⟩; refine ⟨_, rfl, ?_⟩; have HO228 := Aside0.mk (Kd.R_lower ho0 (below_size hB)); replace BK224 := bS BK224 hb; replace HB := hS HB hb; (try clear hb); (try clear hb2); (try clear hk); (try clear hi); (try clear ho0); obtain ⟨Ao11, co11, eo11⟩ := Kd.R_slice HO228.out; subst eo11) | ((with_reducible refine gate_callee (f := 89) rfl ?_); refine goC (N := some 9) Tryd.func89 #[.slice Ao11 t226.length co11] rfl ?_; (with_reducible refine (impl_table_full.calls k _ _ t226 t229 _ ?side1 ?side2 A5.out).mono ?_); (case side1 => exact cS (Kd.R_reads' HO228.out).2.2); (case side2 => exact (Kd.R_reads' HO228.out).2.1); rintro e w12 ⟨v230, rfl, ho0, hb⟩; refine ⟨_, rfl, ?_⟩; have HO231 := Aside0.mk (Kd.S_lower ho0 (below_size hB)); replace HO228 := Aside0.mk (Kd.R_below (rU HO228) hb); replace BK224 := bS BK224 hb; replace HB := hS HB hb; (try clear hb); (try clear hb2); (try clear hk); (try clear hi); (try clear ho0)))
  go_ret2
  exact ⟨_, by first | rfl | (simp [errW_none, errW_some] <;> rfl) | (simp [*, errW_none, errW_some] <;> rfl), sU HO231, hB⟩
 ·replace c3 := Bool.eq_false_iff.mpr c3
  subst c3
  rw [if_neg (show ¬ (false = true) by decide)] at H
  simp only [Option.some.injEq, Prod.mk.injEq] at H
  obtain ⟨rfl, rfl⟩ := H
  go_enter Tryd.func40, Tryd.ntmps40
  go_wp2_with (first | ((with_reducible refine gate_dst (N := 1) rfl ?_); refine bxE 1 #[.int .i64 a0_0, .slice A0_1 l0_1.length c0_1] 33 rfl ?_; intro gb224 hg w13 hbox hb; have BK224 := Aside0.mk (hbox); have GW224 := gS HB hg; have GE224 := gS HB hg; replace HB := hS HB hb; clear hb hbox hg; have hcz14_0 := cz BK224 0; have hcz14_1 := cz BK224 1; have hfz14_0 := fz BK224 0; have hfz14_1 := fz BK224 1) | ((with_reducible refine gate_callee (f := 76) rfl ?_); refine goC (N := some 5) Tryd.func76 #[.agg #[.int .i64 a0_0, .slice A0_1 l0_1.length c0_1]] rfl ?_; (with_reducible refine (impl_IsParty.calls k a0_0 _ _ l0_1 false _ ?side1 ?side2 A2.out).mono ?_); (case side1 => exact cS (Kd.C_below HR0_1.out HB.out)); (case side2 => exact HC0_1.out); rintro e w15 ⟨rfl, hb⟩; refine ⟨_, rfl, ?_⟩; replace BK224 := bS BK224 hb; replace HB := hS HB hb; (try clear hb); (try clear hb2); (try clear hk); (try clear hi)))
  go_ret2
  exact ⟨_, by first | rfl | (simp [errW_none, errW_some] <;> rfl) | (simp [*, errW_none, errW_some] <;> rfl), by first | exact Kd.S_nil _ _ _ _ _ | exact Kd.N_nil _ _ _ _ _ | exact Kd.V_nil _ _ _ _ _ | exact Kd.Q_nil _ _ _ _ _ | exact Kd.R_nil _ _ _ _ _, hB⟩

/-! ### laws_eqIntS: function 90 -/
def laws_eqIntS.l0 : Nat → List Int → List Int → Int → Option (Bool)
 | 0, _, _, _ => none
 | k + 1, x0, x1, x5 => if x5 < (x0.length : Int) then (if 0 ≤ x5 then (if x5 < (x1.length : Int) then (if (rd x0 x5) = (rd x1 x5) then (laws_eqIntS.l0 k x0 x1 (wrap64 (x5 + 1))) else (some false)) else (none)) else (none)) else (some true)
def laws_eqIntS.f (k : Nat) (l0 : List Int) (l1 : List Int) : Option (Bool) := if (l0.length : Int) = (l1.length : Int) then (laws_eqIntS.l0 k l0 l1 0) else (some false)
theorem laws_eqIntS.mono_l : ∀ k, (∀ y0 y1 y2, LeO (laws_eqIntS.l0 k y0 y1 y2) (laws_eqIntS.l0 (k + 1) y0 y1 y2))
 | 0 => fun _ _ _ r h => by simp [laws_eqIntS.l0] at h
 | k + 1 => by
  have ih0 := laws_eqIntS.mono_l k
  ·intro y0 y1 y2
   unfold laws_eqIntS.l0
   repeat' first
   | (with_reducible exact ih0 _ _ _)
   | (with_reducible exact LeO.refl _)
   | (with_reducible exact LeO.none _)
   | (with_reducible refine LeO.ite ?_ ?_)
   | (with_reducible refine LeO.bind ?_ (fun _ => ?_))
   | exact ih0 _ _ _
   | exact LeO.none _
   | refine LeO.ite ?_ ?_
   | refine LeO.bind ?_ (fun _ => ?_)
theorem laws_eqIntS.mono : ∀ a0 a1 k, LeO (laws_eqIntS.f k a0 a1) (laws_eqIntS.f (k + 1) a0 a1) := by
 intro a0 a1 k
 have ih0 := laws_eqIntS.mono_l k
 unfold laws_eqIntS.f
 repeat' first
   | (with_reducible exact ih0 _ _ _)
   | (with_reducible exact LeO.refl _)
   | (with_reducible exact LeO.none _)
   | (with_reducible refine LeO.ite ?_ ?_)
   | (with_reducible refine LeO.bind ?_ (fun _ => ?_))
   | exact ih0 _ _ _
   | exact LeO.none _
   | refine LeO.ite ?_ ?_
   | refine LeO.bind ?_ (fun _ => ?_)
set_option maxHeartbeats 8000000 in
set_option maxRecDepth 100000 in
theorem laws_eqIntS.calls (k : Nat) (A0 : Option Addr) (c0 : Nat) (l0 : List Int) (A1 : Option Addr) (c1 : Nat) (l1 : List Int) (r : Bool) (w : World) (hr0 : Kd.C (Kd.int .i64) w A0 l0.length l0) (hc0 : l0.length ≤ c0) (hr1 : Kd.C (Kd.int .i64) w A1 l1.length l1) (hc1 : l1.length ≤ c1) (h : laws_eqIntS.f k l0 l1 = some r) :
  Calls Tryd.prog 90 #[.slice A0 l0.length c0, .slice A1 l1.length c1] w fun e w' => e = .returned (.bool r) ∧ Drawn0 w w' := by
 have HR0 := Aside0.mk hr0
 have HC0 := Aside0.mk hc0
 clear hr0 hc0
 have HR1 := Aside0.mk hr1
 have HC1 := Aside0.mk hc1
 clear hr1 hc1
 have H : (if (l0.length : Int) = (l1.length : Int) then (laws_eqIntS.l0 k l0 l1 0) else (some false)) = some r := h
 clear h
 by_cases c3 : (l0.length : Int) = (l1.length : Int)
 ·rw [if_pos c3] at H
  have c3b0 : ((l0.length : Int) == (l1.length : Int)) = true := beq_iff_eq.mpr c3
  have c3b1 : ((l0.length : Int) != (l1.length : Int)) = false := bne_eq_false_iff_eq.mpr c3
  have c3b2 : (l0.length == l1.length) = true := by first | simpa using c3 | (simp at c3 ⊢; omega)
  clear c3
  have H' := Aside0.mk H
  clear H
  go_enter Tryd.func90, Tryd.ntmps90
  go_wp2
  repeat (go_quiet (fail); try go_wp2)
  go_loopg [5] k (fun kq v5 w' => ∃ (x5_1 : Int), v5 = .int .i64 x5_1 ∧ Aside0 (laws_eqIntS.l0 kq l0 l1 x5_1 = some r) ∧ Aside0 (kq ≤ k) ∧ Drawn0 w w')
  case atStart => exact ⟨(0), (by first | rfl | (simp; done) | (simp [*]; done)), H', ⟨Nat.le_refl _⟩, by repeat (first | exact Drawn0.refl _ | apply Drawn0.step)⟩
  case round =>
   clear H'
   try clear c1
   try clear p2
   try clear c3
   try clear c3b0
   try clear c3b1
   try clear c3b2
   obtain ⟨x5_1, rfl, HA, HK1, ⟨m1, rfl⟩⟩ := hrel
   cases gk with
   | zero => exact absurd HA.out (by simp [laws_eqIntS.l0])
   | succ k1 =>
    have H := HA.out
    clear HA
    simp only [laws_eqIntS.l0] at H
    by_cases c4 : x5_1 < (l0.length : Int)
    ·rw [if_pos c4] at H
     have c4b0 : decide (x5_1 < (l0.length : Int)) = true := decide_eq_true c4
     clear c4
     by_cases c5 : 0 ≤ x5_1
     ·rw [if_pos c5] at H
      have c5b0 : decide (0 ≤ x5_1) = true := decide_eq_true c5
      clear c5
      by_cases c6 : x5_1 < (l1.length : Int)
      ·rw [if_pos c6] at H
       have c6b0 : decide (x5_1 < (l1.length : Int)) = true := decide_eq_true c6
       clear c6
       by_cases c7 : (rd l0 x5_1) = (rd l1 x5_1)
       ·rw [if_pos c7] at H
        have c7b0 : ((rd l0 x5_1) == (rd l1 x5_1)) = true := beq_iff_eq.mpr c7
        have c7b1 : ((rd l0 x5_1) != (rd l1 x5_1)) = false := bne_eq_false_iff_eq.mpr c7
        clear c7
        have H' := Aside0.mk H
        clear H
        have p232 : 0 ≤ (x5_1 : Int) := of_decide_eq_true (by first | (with_reducible assumption) | assumption)
        have q232 : x5_1 < (l0.length : Int) := of_decide_eq_true (by first | (with_reducible assumption) | assumption)
        obtain ⟨ad232, e232, hx232_0⟩ := Kd.at_int HR0.out x5_1 p232 q232
        cases e232
        replace p232 := eq_true p232
        replace q232 := eq_true q232
        have p233 : 0 ≤ (x5_1 : Int) := of_decide_eq_true (by first | (with_reducible assumption) | assumption)
        have q233 : x5_1 < (l1.length : Int) := of_decide_eq_true (by first | (with_reducible assumption) | assumption)
        obtain ⟨ad233, e233, hx233_0⟩ := Kd.at_int HR1.out x5_1 p233 q233
        cases e233
        replace p233 := eq_true p233
        replace q233 := eq_true q233
        go_wp2
        repeat (go_quiet (fail); try go_wp2)
        go_roundg k1
        case measure => have := HK1.out; omega
        case rel => exact ⟨(wrap64 (x5_1 + 1)), (by first | rfl | (simp; done) | (simp [*]; done)), H', ⟨by have := HK1.out; omega⟩, by repeat (first | exact Drawn0.refl _ | apply Drawn0.step)⟩
       ·rw [if_neg c7] at H
        have c7b0 : ((rd l0 x5_1) == (rd l1 x5_1)) = false := beq_eq_false_iff_ne.mpr c7
        have c7b1 : ((rd l0 x5_1) != (rd l1 x5_1)) = true := bne_iff_ne.mpr c7
        obtain rfl := Option.some.inj H
        have p232 : 0 ≤ (x5_1 : Int) := of_decide_eq_true (by first | (with_reducible assumption) | assumption)
        have q232 : x5_1 < (l0.length : Int) := of_decide_eq_true (by first | (with_reducible assumption) | assumption)
        obtain ⟨ad232, e232, hx232_0⟩ := Kd.at_int HR0.out x5_1 p232 q232
        cases e232
        replace p232 := eq_true p232
        replace q232 := eq_true q232
        have p233 : 0 ≤ (x5_1 : Int) := of_decide_eq_true (by first | (with_reducible assumption) | assumption)
        have q233 : x5_1 < (l1.length : Int) := of_decide_eq_true (by first | (with_reducible assumption) | assumption)
        obtain ⟨ad233, e233, hx233_0⟩ := Kd.at_int HR1.out x5_1 p233 q233
        cases e233
        replace p233 := eq_true p233
        replace q233 := eq_true q233
        go_wp2
        repeat (go_quiet (fail); try go_wp2)
        go_ret
        exact ⟨by first | rfl | (simp; done) | (simp [*]; done), by repeat (first | exact Drawn0.refl _ | apply Drawn0.step)⟩
      ·rw [if_neg c6] at H
       exact absurd H (by simp)
     ·rw [if_neg c5] at H
      exact absurd H (by simp)
    ·rw [if_neg c4] at H
     have c4b0 : decide (x5_1 < (l0.length : Int)) = false := decide_eq_false c4
     clear c4
     obtain rfl := Option.some.inj H
     go_wp2
     repeat (go_quiet (fail); try go_wp2)
     go_ret
     exact ⟨by first | rfl | (simp; done) | (simp [*]; done), by repeat (first | exact Drawn0.refl _ | apply Drawn0.step)⟩
 ·rw [if_neg c3] at H
  have c3b0 : ((l0.length : Int) == (l1.length : Int)) = false := beq_eq_false_iff_ne.mpr c3
  have c3b1 : ((l0.length : Int) != (l1.length : Int)) = true := bne_iff_ne.mpr c3
  have c3b2 : (l0.length == l1.length) = false := by first | simpa using c3 | (simp at c3 ⊢; omega)
  obtain rfl := Option.some.inj H
  go_enter Tryd.func90, Tryd.ntmps90
  go_wp2
  repeat (go_quiet (fail); try go_wp2)
  go_ret
  exact ⟨by first | rfl | (simp; done) | (simp [*]; done), by repeat (first | exact Drawn0.refl _ | apply Drawn0.step)⟩

end Go.Proofs.YtjpfbkkikcpmhaaDoor.PFnExactAllGroups
