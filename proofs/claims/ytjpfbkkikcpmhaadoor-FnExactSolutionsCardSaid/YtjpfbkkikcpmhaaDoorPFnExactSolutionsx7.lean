-- Of this session's own program wip/gen/gen.py (it drives the kit's print): contracts of the functions that the law reaches.
import Derived.Test.YtjpfbkkikcpmhaaDoorPFnExactSolutionsx0
import Derived.Test.YtjpfbkkikcpmhaaDoorPFnExactSolutionsx6
namespace Go.Proofs.YtjpfbkkikcpmhaaDoor.PFnExactSolutions
open Go.RowKit Go.Proofs.YtjpfbkkikcpmhaaDoorW.PrintWords Go.Proofs.YtjpfbkkikcpmhaaDoorW.PrintLast Go.Proofs.YtjpfbkkikcpmhaaDoorW.PrintMore Go.Proofs.YtjpfbkkikcpmhaaDoor.Base
attribute [local go_sem] max2_int min2_int max_two min_two max_three min_three max_four min_four   -- for this text's walks alone
set_option linter.unusedVariables false
set_option linter.unusedSimpArgs false

/-! ### spec_grLook: function 131 (a text of this session's own) -/

def spec_grLook.T0 : Bool × List (List Nat × List Nat) := (true, [([], []), ([], []), ([1], [1]), ([2], [2]), ([], []), ([4], [4]), ([5], [5]), ([3, 6, 5], [3, 6]), ([0, 0, 1, 2, 3, 4, 5, 6, 7], [0]), ([8, 7, 7, 0, 1, 2, 3, 4, 5, 6, 7], [7, 8])])
def spec_grLook.B0 : List Nat := [0, 0, 2, 6, 0, 16, 48, 126, 255, 511]
theorem spec_grLook.tab0 : rtab .any (opsOf Tryd.f131 0) = spec_grLook.T0 := by kernel_rfl
theorem spec_grLook.bits0 : waitsOk spec_grLook.T0.2 spec_grLook.B0 = true := by kernel_rfl
mutual
def spec_grLook.l0 : Nat → List (List Bool) → List Int → Int → List (List Int) → Option (List (List Int))
 | 0, _, _, _, _ => none
 | k + 1, t, p, a, xs => if a < (t.length : Int) then ((spec_grJoins.f k t p a).bind fun j => if j = true then ((spec_l1Own.f p).bind fun q => if q.length < 17592186044416 then ((spec_grLook.f k t (q ++ [a]) (wrap64 (a + 1)) xs).bind fun ys => spec_grLook.l0 k t p (wrap64 (a + 1)) ys) else none) else spec_grLook.l0 k t p (wrap64 (a + 1)) xs) else some xs
def spec_grLook.f : Nat → List (List Bool) → List Int → Int → List (List Int) → Option (List (List Int))
 | 0, _, _, _, _ => none
 | k + 1, t, p, a, xs => (spec_l1Own.f p).bind fun q => if xs.length < 5864062014805 then spec_grLook.l0 k t p a (xs ++ [q]) else none
end
theorem spec_grLook.mono_l : ∀ k, (∀ y0 y1 y2 y3, LeO (spec_grLook.l0 k y0 y1 y2 y3) (spec_grLook.l0 (k + 1) y0 y1 y2 y3)) ∧ (∀ y0 y1 y2 y3, LeO (spec_grLook.f k y0 y1 y2 y3) (spec_grLook.f (k + 1) y0 y1 y2 y3))
 | 0 => ⟨fun _ _ _ _ r h => by simp [spec_grLook.l0] at h, fun _ _ _ _ r h => by simp [spec_grLook.f] at h⟩
 | k + 1 => by
  obtain ⟨ih0, ih1⟩ := spec_grLook.mono_l k
  refine ⟨?_, ?_⟩
  · intro y0 y1 y2 y3
    unfold spec_grLook.l0
    repeat' first
      | (with_reducible exact ih0 _ _ _ _)
      | (with_reducible exact ih1 _ _ _ _)
      | (with_reducible exact spec_grJoins.mono _ _ _ _)
      | (with_reducible exact LeO.refl _)
      | (with_reducible exact LeO.none _)
      | (with_reducible refine LeO.ite ?_ ?_)
      | (with_reducible refine LeO.bind ?_ (fun _ => ?_))
  · intro y0 y1 y2 y3
    unfold spec_grLook.f
    repeat' first
      | (with_reducible exact ih0 _ _ _ _)
      | (with_reducible exact LeO.refl _)
      | (with_reducible exact LeO.none _)
      | (with_reducible refine LeO.ite ?_ ?_)
      | (with_reducible refine LeO.bind ?_ (fun _ => ?_))
/-- What a call leaves: the list in its place, and all else that lay there. -/
structure spec_grLook.St (w : World) (base b : Nat) (v : Value) (w' : World) (v' : Value) (ys : List (List Int)) : Prop where
  box : w'.heap[b]? = some (.cells #[v'] 58 (0, 0))
  row : Kd.N (Kd.slice 3 (Kd.int .i64)) 75 w' base (fun k => k ≠ b ∧ base ≤ k) v' ys
  below : Below base w w'
  keep : ∀ k, (k ≠ b ∧ some k ≠ v.ownBlock) → k < w.heap.size → w'.heap[k]? = w.heap[k]?
  at_ : v'.ownBlock = v.ownBlock ∨ ∃ g, v'.ownBlock = some g ∧ w.heap.size ≤ g
section
variable {w w' w'' : World} {base b : Nat} {v v' v'' : Value} {ys zs : List (List Int)}
theorem spec_grLook.St.foot {α : Type} {d : Kd α} {A : Option Addr} {n : Nat} {xs : List α} (s : spec_grLook.St w base b v w' v' ys) (h : Kd.F d w (fun k => k ≠ b ∧ some k ≠ v.ownBlock) A n xs) : Kd.F d w' (fun k => k ≠ b ∧ some k ≠ v'.ownBlock) A n xs := by
  refine Kd.F_mono (Kd.F_step (Kd.F_bound h) (fun k hk hlt => s.keep k hk.1 hlt)) ?_
  rintro k ⟨⟨h1, h2⟩, h3⟩
  refine ⟨h1, ?_⟩
  rcases s.at_ with e | ⟨g, e, hg⟩
  · rw [e]; exact h2
  · rw [e]
    intro hh
    injection hh with hh
    omega
theorem spec_grLook.St.later (s : spec_grLook.St w base b v w' v' ys) (hbase : base ≤ w'.heap.size) (hb : Below w'.heap.size w' w'') : spec_grLook.St w base b v w'' v' ys := by
  have hlt : b < w'.heap.size := (Array.getElem?_eq_some_iff.1 s.box).1
  exact ⟨(hb.block b hlt).trans s.box, Kd.N_below s.row hb, below_then s.below hbase hb, fun k hk hl => (hb.block k (Nat.lt_of_lt_of_le hl s.below.size)).trans (s.keep k hk hl), s.at_⟩
theorem spec_grLook.St.trans (s : spec_grLook.St w base b v w' v' ys) (u : spec_grLook.St w' base b v' w'' v'' zs) : spec_grLook.St w base b v w'' v'' zs := by
  refine ⟨u.box, u.row, s.below.trans u.below, fun k hk hl => ?_, ?_⟩
  · rw [u.keep k ⟨hk.1, ?_⟩ (Nat.lt_of_lt_of_le hl s.below.size), s.keep k hk hl]
    rcases s.at_ with e | ⟨g, e, hg⟩
    · rw [e]; exact hk.2
    · rw [e]
      intro hh
      injection hh with hh
      omega
  · rcases u.at_ with e | ⟨g, e, hg⟩
    · rw [e]; exact s.at_
    · exact .inr ⟨g, e, Nat.le_trans s.below.size hg⟩
end
section
variable {P : Program} {ops : Array Oper} {Q : Exit → Act → World → Prop}
theorem spec_grLook.lit_ {oi : Oper} {a : Act} {w w1 : World} {K : Act → World → Prop} {N : Option Tmp} {v : Value} (hw : Region.wanted oi (yielded ops a.tmps) = true) (hN : oi.dst = N) (hrun : (execOp a.eval oi).run P w = .ok (.value v) w1)
    (h : K (a.put N v) w1) : if Region.wanted oi (yielded ops a.tmps) = true then Oper.wp P oi a w K Q else K (a.put N undef) w := by
  rw [if_pos hw]
  unfold Oper.wp
  rw [hrun]
  show K (a.put oi.dst v) w1
  rw [hN]
  exact h
end
set_option maxHeartbeats 8000000 in
set_option maxRecDepth 100000 in
theorem spec_grLook.calls : ∀ (k : Nat) (A0 : Option Addr) (c0 : Nat) (l0 : List (List Bool)) (A1 : Option Addr) (c1 : Nat) (l1 : List Int) (a2 : Int) (b : Nat) (v : Value) (xs r : List (List Int)) (w : World) (base : Nat)
    (_h0 : Kd.F (Kd.slice 4 Kd.bool) w (fun k => k ≠ b ∧ some k ≠ v.ownBlock) A0 l0.length l0) (_hc0 : l0.length ≤ c0) (_h1 : Kd.F (Kd.int .i64) w (fun k => k ≠ b ∧ some k ≠ v.ownBlock) A1 l1.length l1) (_hc1 : l1.length ≤ c1)
    (_hS : spec_grLook.St w base b v w v xs) (_hbb : base ≤ b) (_hbase : base ≤ w.heap.size) (_h : spec_grLook.f k l0 l1 a2 xs = some r),
    Calls Tryd.prog 131 #[.slice A0 l0.length c0, .slice A1 l1.length c1, .int .i64 a2, .pointer (some ⟨b, 0, none⟩)] w fun e w' => e = .returned (.tuple #[]) ∧ ∃ v', spec_grLook.St w base b v w' v' r := by
  intro k
  induction k using Nat.strongRecOn with
  | ind k ih =>
    intro A0 c0 l0 A1 c1 l1 a2 b v xs r w base h0 hc0 h1 hc1 hS hbb hbase h
    cases k with
    | zero => simp [spec_grLook.f] at h
    | succ k =>
      simp only [spec_grLook.f] at h
      replace h := Option.bind_eq_some_iff.mp h
      obtain ⟨q, hq, h⟩ := h
      by_cases hx : xs.length < 5864062014805
      · rw [if_pos hx] at h
        obtain ⟨Av, cv, rfl⟩ := Kd.N_slice hS.row
        have HS := Aside0.mk hS
        have H0 := Aside0.mk h0
        have H1 := Aside0.mk h1
        have HQ := Aside0.mk hq
        have HL := Aside0.mk h
        have LX := Aside0.mk hx
        clear hS h0 h1 hq h hx
        go_enter Tryd.func131, Tryd.ntmps131
        try go_wp2
        refine start_ (n := 10) (S := fun w' => w'.cell? ⟨b, 0, none⟩ = some (.slice Av xs.length cv)) (ds := [9]) (bz 10 0) (by kernel_rfl) rfl rfl ((blk_cell HS.out.box 0).trans rfl) (fun hHeld => ?_)
        refine with_tabW spec_grLook.tab0 spec_grLook.bits0 (fun HT_ HW_ => ?_)
        have n0_ := Aside0.mk (HS.out.later hbase (below_drew (Below.refl w.heap.size w)))
        have n1_ := Aside0.mk (Kd.F_drew H1.out)
        have hbase1 : base ≤ w.drew.heap.size := hbase
        have hw1 : w.drew.heap = w.heap := rfl
        generalize w.drew = w1 at n0_ n1_ hbase1 hw1 hHeld ⊢
        refine run_ [(0, 0, 1, some 9), (0, 1, 3, some 10), (0, 2, 7, some 11), (1, 3, 15, some 12), (0, 4, 31, some 13)] ?_
        repeat (first | (apply tag0; refine run_p (v := ?_) (a' := ?_) rfl rfl (any_of HT_.out (by kernel_rfl)) (fun _ _ _ h => h) (by rfl) ?_ ?_ ?_; rotate_left 2; (intro w'; go_simp; with_reducible rfl); (first | (simp only [Act.put, List.setIfInBounds_toArray, List.set_cons_zero, List.set_cons_succ, i64_w, i32_w]; rfl) | rfl)) | (apply tag1; refine run_t (v := ?_) (a' := ?_) rfl rfl (take_ofW HT_.out HW_.out (by kernel_rfl)) (fun _ _ _ h => h) (by rfl) ?_ hHeld ?_ ?_; rotate_left 2; (intro w' s0; go_simp; with_reducible rfl); (first | (simp only [Act.put, List.setIfInBounds_toArray, List.set_cons_zero, List.set_cons_succ, i64_w, i32_w]; rfl) | rfl)))
        refine run_nil ?_
        refine one_ (i := 5) (N := some 14) (bz 10 63) rfl rfl (one_of HT_.out (by kernel_rfl)) (by decide) (fun K hK => ?_)
        refine goes_ Tryd.func143 (by kernel_rfl) rfl #[.slice A1 l1.length c1] (by rfl) rfl rfl mapT ?_
        refine (spec_l1Own.calls A1 c1 l1 q _ (Kd.F_now n1_.out) hc1 HQ.out).mono ?_
        rintro e w2 ⟨v1, rfl, ho, hb⟩
        refine ⟨_, rfl, ?_⟩
        have S2 := Aside0.mk (n0_.out.later hbase1 hb)
        have HO2 := Aside0.mk ho
        have hbase2 : base ≤ w2.heap.size := Nat.le_trans hbase1 hb.size
        have hsz2 : w.heap.size ≤ w2.heap.size := by rw [← hw1]; exact hb.size
        have hsz12 : w1.heap.size ≤ w2.heap.size := hb.size
        have hr2 : ∀ k, v1.ownBlock = some k → w1.heap.size ≤ k := Kd.R_base ho
        clear n0_ n1_ ho hb
        obtain ⟨Ao, co, rfl⟩ := Kd.R_slice HO2.out
        refine hK.out _ _ ((blk_cell S2.out.box 0).trans rfl) (fun hHeld => ?_)
        clear hK K
        refine norm_ (a' := ?_) ?_ ?_
        rotate_left
        · show Act.put _ (some 14) _ = _
          simp only [Act.put, List.setIfInBounds_toArray, List.set_cons_zero, List.set_cons_succ, i64_w, i32_w]
          rfl
        refine one_ (i := 6) (N := some 15) (bz 10 127) rfl rfl (one_of HT_.out (by kernel_rfl)) (by decide) (fun K hK => ?_)
        refine spec_grLook.lit_ (v := .slice (some ⟨w2.heap.size, 0, none⟩) 1 1) (w1 := w2.alloc (.cells [(.slice Ao q.length co : Value)].toArray 75)) (by rfl) rfl (by first | (go_simp; done) | (go_simp; rfl)) ?_
        refine hK.out _ _ ((blk_cell (blk_alloc S2.out.box _) 0).trans rfl) (fun hHeld => ?_)
        clear hK K
        refine norm_ (a' := ?_) ?_ ?_
        rotate_left
        · show Act.put _ (some 15) _ = _
          simp only [Act.put, List.setIfInBounds_toArray, List.set_cons_zero, List.set_cons_succ, i64_w, i32_w]
          rfl
        refine one_ (i := 7) (N := some 16) (bz 10 255) rfl rfl (one_of HT_.out (by kernel_rfl)) (by decide) (fun K hK => ?_)
        have hblt : b < w1.heap.size := by rw [hw1]; exact (Array.getElem?_eq_some_iff.1 HS.out.box).1
        refine Kd.N_append_step (Kd.slice 3 (Kd.int .i64)) (w0 := w) base (by rfl) (.tmp 12) (.tmp 15) 58 75 (.slice none 0 0) 24 rfl Tryd.underlying58 info75 rfl (by decide) (by omega) (.slice Av xs.length cv) xs q [.slice Ao q.length co] (fun k => k ≠ b ∧ base ≤ k) (fun k => (k ≠ b ∧ base ≤ k) ∧ some k ≠ (.slice Av xs.length cv : Value).ownBlock) rfl rfl ?aP (fun _ hk => hk) ?aF ?aO ?aB ?aS ?aL ?_
        case aP =>
          refine Kd.FK_slice_mk (Kd.R_reads' HO2.out).2.1 (Kd.R_F (Kd.R_mono (Kd.R_bound HO2.out) ?_))
          rintro k ⟨_, hk, _⟩
          refine ⟨⟨by omega, by omega⟩, fun he => ?_⟩
          have := Kd.N_lt HS.out.row k he.symm
          rw [← hw1] at this
          omega
        case aF => exact fun k hk => ⟨by omega, by omega⟩
        case aO => exact S2.out.row
        case aB => exact S2.out.below
        case aS => exact hbase2
        case aL => have := LX.out; omega
        intro v3 w3 ho hb hg hat
        have BX3 : w3.heap[b]? = some (.cells #[.slice Av xs.length cv] 58 (0, 0)) := (hg.block b (by omega) (Kd.N_away HS.out.row (fun _ hk => hk.1))).trans S2.out.box
        obtain ⟨A3, c3, e3⟩ := Kd.N_slice ho
        obtain ⟨n3, hn3⟩ : ∃ n, n = (xs ++ [q]).length := ⟨_, rfl⟩
        rw [← hn3] at e3
        subst e3
        clear hn3
        have S4 := Aside0.mk (show spec_grLook.St w base b (.slice Av xs.length cv) (w3.setCell ⟨b, 0, none⟩ (.slice A3 n3 c3)) (.slice A3 n3 c3) (xs ++ [q]) from
          ⟨blk_set BX3 0 _, Kd.N_far ho (fun _ hk => hk.1) _, hb.setCell hbb _, fun k hk hl => (Below.heap_setCell w3 ⟨b, 0, none⟩ _ k hk.1).trans ((hg.block k (Nat.lt_of_lt_of_le hl hsz2) hk.2).trans (S2.out.keep k hk hl)), by
            rcases hat with e | ⟨g, e, hg⟩
            · exact .inl e
            · exact .inr ⟨g, e, Nat.le_trans hsz2 hg⟩⟩)
        have BK3 := Aside0.mk BX3
        clear ho hb hg hat
        refine hK.out _ _ ((blk_cell BX3 0).trans rfl) (fun hHeld => ?_)
        clear hK K
        refine norm_ (a' := ?_) ?_ ?_
        rotate_left
        · show Act.put _ (some 16) _ = _
          simp only [Act.put, List.setIfInBounds_toArray, List.set_cons_zero, List.set_cons_succ, i64_w, i32_w]
          rfl
        refine run_ [(0, 8, 511, some 17)] ?_
        repeat ((apply tag0; refine run_p (v := ?_) (a' := ?_) rfl rfl (any_of HT_.out (by kernel_rfl)) (fun _ _ _ h => h) (by rfl) ?_ ?_ ?_; rotate_left 2; (intro w'; go_simp; with_reducible rfl); (first | (simp only [Act.put, List.setIfInBounds_toArray, List.set_cons_zero, List.set_cons_succ, i64_w, i32_w]; rfl) | rfl)))
        refine run_nil ?_
        refine last_ (i := 9) (N := none) (bz 10 1023) rfl rfl (one_of HT_.out (by kernel_rfl)) (by decide) (fun K hK => ?_)
        have hs9 : w3.cell? ⟨b, 0, none⟩ = some (.slice Av xs.length cv) := (blk_cell BK3.out 0).trans rfl
        have hf9 := blk_frozen BK3.out 0
        refine skip_ (w1 := ?_) (by rfl) rfl ?_ ?_
        rotate_left
        · go_simp
          rfl
        refine hK.out _ _ ?_
        clear hK K
        refine done_ (done_of HT_.out (by kernel_rfl)) ?_
        clear hs9 hf9 BX3 BK3 HT_ HW_ hHeld
        generalize w3.setCell ⟨b, 0, none⟩ (.slice A3 n3 c3) = w4 at S4 ⊢
        go_wp2
        go_loopg [8] k (fun kq v8 w' => ∃ (x : Int) (ys : List (List Int)) (v' : Value), v8 = .int .i64 x ∧ Aside0 (spec_grLook.l0 kq l0 l1 x ys = some r) ∧ Aside0 (kq ≤ k) ∧ Aside0 (spec_grLook.St w base b (.slice Av xs.length cv) w' v' ys))
        case atStart => exact ⟨a2, xs ++ [q], _, rfl, HL, ⟨Nat.le_refl _⟩, S4⟩
        case round =>
          obtain ⟨x, ys, v', rfl, HA, HK1, HS4⟩ := hrel
          cases gk with
          | zero => exact absurd HA.out (by simp [spec_grLook.l0])
          | succ k1 =>
            have H := HA.out
            clear HA S4
            simp only [spec_grLook.l0] at H
            have hbr : base ≤ wr.heap.size := Nat.le_trans hbase HS4.out.below.size
            have hbl : b < wr.heap.size := (Array.getElem?_eq_some_iff.1 HS4.out.box).1
            by_cases c1_ : x < (l0.length : Int)
            · rw [if_pos c1_] at H
              have c1b : decide (x < (l0.length : Int)) = true := decide_eq_true c1_
              clear c1_
              replace H := Option.bind_eq_some_iff.mp H
              obtain ⟨j, hj, H⟩ := H
              have F0 := Aside0.mk (HS4.out.foot H0.out)
              have F1 := Aside0.mk (HS4.out.foot H1.out)
              have HJ := Aside0.mk hj
              clear hj
              cases j with
              | true =>
                rw [if_pos rfl] at H
                replace H := Option.bind_eq_some_iff.mp H
                obtain ⟨q2, hq2, H⟩ := H
                by_cases c2_ : q2.length < 17592186044416
                · rw [if_pos c2_] at H
                  replace H := Option.bind_eq_some_iff.mp H
                  obtain ⟨ys2, hy, H⟩ := H
                  obtain ⟨y2, hy2⟩ : ∃ y_ : List Int, y_ = q2 ++ [x] := ⟨_, rfl⟩
                  rw [← hy2] at hy
                  have NY := Aside0.mk hy2
                  have HQ2 := Aside0.mk hq2
                  have HN := Aside0.mk H
                  have L2 := Aside0.mk c2_
                  have HREC := Aside0.mk (fun (A6 : Option Addr) (c6 : Nat) (w6 : World) (hb : Below wr.heap.size wr w6) (ho : Kd.R (Kd.int .i64) 3 w6 wr.heap.size (fun k_ => wr.heap.size ≤ k_) (.slice A6 y2.length c6) y2) =>
                    ih k1 (by have := HK1.out; omega) A0 c0 l0 A6 c6 y2 (wrap64 (x + 1)) b v' ys ys2 w6 base (Kd.F_below F0.out hb) hc0 (Kd.R_F (Kd.R_mono ho (fun k_ hk => ⟨by omega, fun he => by have := Kd.N_lt HS4.out.row k_ he.symm; omega⟩))) (Kd.R_reads' ho).2.1 ⟨(HS4.out.later hbr hb).box, (HS4.out.later hbr hb).row, Below.refl _ _, fun _ _ _ => rfl, .inl rfl⟩ hbb (Nat.le_trans hbr hb.size) hy)
                  clear hq2 hy H c2_ hy2
                  go_wp2_with (first
                    | (go_at_call 145; refine (spec_grJoins.calls k1 A0 c0 l0 A1 c1 l1 x true _ (Kd.F_now F0.out) hc0 (Kd.F_now F1.out) hc1 HJ.out).mono ?_; rintro e w' ⟨rfl, ⟨nd, rfl⟩⟩)
                    | (go_at_call 143; refine (spec_l1Own.calls A1 c1 l1 q2 _ (Kd.F_now (Kd.F_drewN F1.out _)) hc1 HQ2.out).mono ?_; rintro e w5 ⟨v5, rfl, ho, hb⟩; have HO5 := Aside0.mk ho; have HB5 := Aside0.mk (below_then (pw_below_drewN (Below.refl wr.heap.size wr) _) (Nat.le_refl _) hb); clear ho hb)
                    | ((with_reducible refine gate_builtin (b := .append) (xs := #[.tmp 31, .tmp 33]) rfl ?_); at_builtin; refine Kd.R_append (Kd.int .i64) (w0 := wr) wr.heap.size rfl (.tmp 31) (.tmp 33) 75 3 (.int .i64 0) 8 rfl Tryd.underlying75 info3 rfl (by decide) (by omega) v5 q2 x [.int .i64 x] (fun k_ => (wr.heap.size ≤ k_)) (fun _ => False) rfl rfl ?aP (fun _ hk => hk.elim) ?aF ?aO ?aB ?aS ?aL ?_; (case aP => exact rfl); (case aB => exact HB5.out); (case aF => exact (fun k_ hk => Nat.le_trans HB5.out.size hk)); (case aO => exact (Kd.R_mono (Kd.R_bound HO5.out) (fun _ hk => hk.2.1))); (case aS => exact HB5.out.size); (case aL => have := L2.out; omega); intro v6 w6 ho hb hg hat; rw [← NY.out] at ho; have HO6 := Aside0.mk ho; have HB6 := Aside0.mk hb; clear ho hb hg hat; obtain ⟨A6, c6, rfl⟩ := Kd.R_slice HO6.out)
                    | (go_at_call 131; refine (HREC.out _ _ _ HB6.out HO6.out).mono ?_; rintro e w7 ⟨rfl, v7, s7⟩; have HS7 := Aside0.mk ((HS4.out.later hbr HB6.out).trans s7); clear s7))
                  go_roundg k1
                  case measure => have := HK1.out; omega
                  case rel => exact ⟨wrap64 (x + 1), ys2, v7, by first | rfl | (simp; done), HN, ⟨by have := HK1.out; omega⟩, HS7⟩
                · rw [if_neg c2_] at H; cases H
              | false =>
                rw [if_neg (by simp)] at H
                have HN := Aside0.mk H
                clear H
                go_wp2_with (go_at_call 145; refine (spec_grJoins.calls k1 A0 c0 l0 A1 c1 l1 x false _ (Kd.F_now F0.out) hc0 (Kd.F_now F1.out) hc1 HJ.out).mono ?_; rintro e w' ⟨rfl, ⟨nd, rfl⟩⟩)
                go_roundg k1
                case measure => have := HK1.out; omega
                case rel => exact ⟨wrap64 (x + 1), ys, v', by first | rfl | (simp; done), HN, ⟨by have := HK1.out; omega⟩, ⟨HS4.out.later hbr (pw_below_drewN (Below.refl _ _) _)⟩⟩
            · rw [if_neg c1_] at H
              have c1b : decide (x < (l0.length : Int)) = false := decide_eq_false c1_
              clear c1_
              obtain rfl := Option.some.inj H
              go_wp2
              first | go_end0 | ((try simp only [Exit.inBlock, Exit.then]); refine bodyPost_ret (results_none rfl _ _ _) rfl ?_)
              exact ⟨rfl, v', HS4.out⟩
      · rw [if_neg hx] at h; cases h

/-! ### spec_grGroups: function 99 (a text of this session's own) -/
def spec_grGroups.f (k : Nat) (l0 : List (List Bool)) : Option (List (List Int)) := spec_grLook.f k l0 [] 0 []
theorem spec_grGroups.mono : ∀ a0 k, LeO (spec_grGroups.f k a0) (spec_grGroups.f (k + 1) a0) := fun a0 k => (spec_grLook.mono_l k).2 a0 [] 0 []
set_option maxHeartbeats 4000000 in
set_option maxRecDepth 100000 in
theorem spec_grGroups.calls (k : Nat) (A0 : Option Addr) (c0 : Nat) (l0 : List (List Bool)) (r : List (List Int)) (w : World) (hr0 : Kd.C (Kd.slice 4 Kd.bool) w A0 l0.length l0) (hc0 : l0.length ≤ c0) (h : spec_grGroups.f k l0 = some r) :
    Calls Tryd.prog 99 #[.slice A0 l0.length c0] w fun e w' => ∃ v0_ : Value, e = .returned (v0_) ∧ Kd.N (Kd.slice 3 (Kd.int .i64)) 75 w' w.heap.size (fun k_ => w.heap.size ≤ k_) v0_ r ∧ Below w.heap.size w w' := by
  have hF : Kd.F (Kd.slice 4 Kd.bool) w (fun k => k < w.heap.size) A0 l0.length l0 := Kd.C_F (Kd.heap_slice _ Kd.heap_bool) hr0
  have HF := Aside0.mk hF
  have HH := Aside0.mk h
  clear hr0 h hF
  go_enter Tryd.func99, Tryd.ntmps99
  go_wp2_with (first
    | ((with_reducible refine gate_dst (N := 3) rfl ?_); refine box_event ?hg (N := 3) ?hd (cs := #[.slice none 0 0]) (t := 58) ?hr ?_; (case hd => rfl); (case hg => rfl); (case hr => first | (go_simp; done) | (go_simp; rfl)); intro gb hg w3 hbox hb; have HB := Aside0.mk hb; have BK := Aside0.mk hbox; have HG := Aside0.mk hg; clear hb hbox hg)
    | (go_at_call 131; refine (spec_grLook.calls k A0 c0 l0 none 0 [] 0 gb (.slice none 0 0) [] r _ w.heap.size (Kd.F_mono (Kd.F_below HF.out HB.out) (fun k_ hk => ⟨by have := HG.out; omega, by simp [Value.ownBlock]⟩)) hc0 (Kd.F_nil _ _ _) (Nat.le_refl _) ⟨BK.out, Kd.N_nil _ _ _ _ _, Below.refl _ _, fun _ _ _ => rfl, .inl rfl⟩ (by have := HG.out; omega) HB.out.size HH.out).mono ?_; rintro e w4 ⟨rfl, v4, s4⟩; have S4 := Aside0.mk s4; clear s4; obtain ⟨A4, c4, rfl⟩ := Kd.N_slice S4.out.row; have hs4 : w4.cell? ⟨gb, 0, none⟩ = some (.slice A4 r.length c4) := (blk_cell S4.out.box 0).trans rfl))
  go_ret
  exact ⟨_, rfl, Kd.N_mono S4.out.row (fun _ hk => hk.2), HB.out.trans S4.out.below⟩

/-! ### spec_pzThrees: function 56 -/
def spec_pzThrees.l0 : Nat → Int → List (List Int) → Int → Int → Option (Int)
 | 0, _, _, _, _ => none
 | k + 1, x3, x8, x9, x10 => if x10 < x9 then (if 0 ≤ x10 then (if x10 < (x8.length : Int) then (if ((rd_L9 x8 x10).length : Int) = 3 then (spec_pzThrees.l0 k (wrap64 (x3 + 1)) x8 x9 (wrap64 (x10 + 1))) else (spec_pzThrees.l0 k x3 x8 x9 (wrap64 (x10 + 1)))) else (none)) else (none)) else (some x3)
def spec_pzThrees.f (k : Nat) (a0_0 : Int) (l0_1 : List (S105)) : Option (Int) := (spec_paTable.f k a0_0 l0_1).bind fun t210 => ((spec_grGroups.f k t210).bind fun t213 => (spec_pzThrees.l0 k 0 t213 (t213.length : Int) 0))
theorem spec_pzThrees.mono_l : ∀ k, (∀ y0 y1 y2 y3, LeO (spec_pzThrees.l0 k y0 y1 y2 y3) (spec_pzThrees.l0 (k + 1) y0 y1 y2 y3))
 | 0 => fun _ _ _ _ r h => by simp [spec_pzThrees.l0] at h
 | k + 1 => by
  have ih0 := spec_pzThrees.mono_l k
  ·intro y0 y1 y2 y3
   unfold spec_pzThrees.l0
   repeat' first
   | (with_reducible exact ih0 _ _ _ _)
   | (with_reducible exact spec_grGroups.mono _ _)
   | (with_reducible exact spec_paTable.mono _ _ _)
   | (with_reducible exact LeO.refl _)
   | (with_reducible exact LeO.none _)
   | (with_reducible refine LeO.ite ?_ ?_)
   | (with_reducible refine LeO.bind ?_ (fun _ => ?_))
   | exact ih0 _ _ _ _
   | exact spec_grGroups.mono _ _
   | exact spec_paTable.mono _ _ _
   | exact LeO.none _
   | refine LeO.ite ?_ ?_
   | refine LeO.bind ?_ (fun _ => ?_)
theorem spec_pzThrees.mono : ∀ a0 a1 k, LeO (spec_pzThrees.f k a0 a1) (spec_pzThrees.f (k + 1) a0 a1) := by
 intro a0 a1 k
 have ih0 := spec_pzThrees.mono_l k
 unfold spec_pzThrees.f
 repeat' first
   | (with_reducible exact ih0 _ _ _ _)
   | (with_reducible exact spec_grGroups.mono _ _)
   | (with_reducible exact spec_paTable.mono _ _ _)
   | (with_reducible exact LeO.refl _)
   | (with_reducible exact LeO.none _)
   | (with_reducible refine LeO.ite ?_ ?_)
   | (with_reducible refine LeO.bind ?_ (fun _ => ?_))
   | exact ih0 _ _ _ _
   | exact spec_grGroups.mono _ _
   | exact spec_paTable.mono _ _ _
   | exact LeO.none _
   | refine LeO.ite ?_ ?_
   | refine LeO.bind ?_ (fun _ => ?_)
set_option maxHeartbeats 8000000 in
set_option maxRecDepth 100000 in
theorem spec_pzThrees.calls (k : Nat) (a0_0 : Int) (A0_1 : Option Addr) (c0_1 : Nat) (l0_1 : List (S105)) (r : Int) (w : World) (hr0_1 : Kd.C k105 w A0_1 l0_1.length l0_1) (hc0_1 : l0_1.length ≤ c0_1) (h : spec_pzThrees.f k a0_0 l0_1 = some r) :
  Calls Tryd.prog 56 #[.agg #[.int .i64 a0_0, .slice A0_1 l0_1.length c0_1]] w fun e w' => e = .returned (.int .i64 r) ∧ Below w.heap.size w w' := by
 have hu33 := Tryd.underlying33
 have HR0_1 := Aside0.mk hr0_1
 have HC0_1 := Aside0.mk hc0_1
 clear hr0_1 hc0_1
 have HB := Aside0.mk (Below.refl w.heap.size w)
 have H : ((spec_paTable.f k a0_0 l0_1).bind fun t210 => ((spec_grGroups.f k t210).bind fun t213 => (spec_pzThrees.l0 k 0 t213 (t213.length : Int) 0))) = some r := h
 clear h
 replace H := Option.bind_eq_some_iff.mp H
 obtain ⟨t210, A20, H⟩ := H
 try dsimp only at H
 have A2 := Aside0.mk A20
 clear A20
 replace H := Option.bind_eq_some_iff.mp H
 obtain ⟨t213, A30, H⟩ := H
 try dsimp only at H
 have A3 := Aside0.mk A30
 clear A30
 have H' := Aside0.mk H
 clear H
 go_enter Tryd.func56, Tryd.ntmps56
 go_wp2_with (first | ((with_reducible refine gate_dst (N := 1) rfl ?_); refine bxE 1 #[.int .i64 a0_0, .slice A0_1 l0_1.length c0_1] 33 rfl ?_; intro gb209 hg w4 hbox hb; have BK209 := Aside0.mk (hbox); have GW209 := gS HB hg; have GE209 := gS HB hg; replace HB := hS HB hb; clear hb hbox hg; have hcz5_0 := cz BK209 0; have hcz5_1 := cz BK209 1; have hfz5_0 := fz BK209 0; have hfz5_1 := fz BK209 1) | ((with_reducible refine gate_callee (f := 54) rfl ?_); refine goC (N := some 7) Tryd.func54 #[.agg #[.int .i64 a0_0, .slice A0_1 l0_1.length c0_1]] rfl ?_; (with_reducible refine (spec_paTable.calls k a0_0 _ _ l0_1 t210 _ ?side1 ?side2 A2.out).mono ?_); (case side1 => exact cS (Kd.C_below HR0_1.out HB.out)); (case side2 => exact HC0_1.out); rintro e w6 ⟨v211, rfl, ho0, hb⟩; refine ⟨_, rfl, ?_⟩; have HO212 := Aside0.mk (Kd.N_lower (Kd.N_mono (ok' := fun k_ => k_ ≠ gb209) (Kd.S_N (Kd.S_bound ho0)) (fun k_ hk_ => (Kd.freshB (g := gb209) (o := .cells #[.int .i64 a0_0, .slice A0_1 l0_1.length c0_1] 33 (0, 0)) bK k_ hk_.2.1))) (below_size hB)); replace BK209 := bS BK209 hb; replace HB := hS HB hb; (try clear hb); (try clear hb2); (try clear hk); (try clear hi); (try clear ho0); obtain ⟨Ao7, co7, eo7⟩ := Kd.N_slice HO212.out; subst eo7) | ((with_reducible refine gate_callee (f := 99) rfl ?_); refine goC (N := some 8) Tryd.func99 #[.slice Ao7 t210.length co7] rfl ?_; (with_reducible refine (spec_grGroups.calls k _ _ t210 t213 _ ?side1 ?side2 A3.out).mono ?_); (case side1 => exact cS (Kd.N_reads' HO212.out).2.2); (case side2 => exact (Kd.N_reads' HO212.out).2.1); rintro e w8 ⟨v214, rfl, ho0, hb⟩; refine ⟨_, rfl, ?_⟩; have HO215 := Aside0.mk (Kd.N_lower (Kd.N_mono (ok' := fun k_ => some k_ ≠ (.slice Ao7 t210.length co7 : Value).ownBlock ∧ k_ ≠ gb209) ho0 (fun k_ hk_ => ⟨(Kd.fresh' (Kd.N_lt (nU HO212)) k_ hk_), (Kd.freshB (g := gb209) (o := .cells #[.int .i64 a0_0, .slice A0_1 l0_1.length c0_1] 33 (0, 0)) bK k_ hk_)⟩)) (below_size hB)); replace HO212 := Aside0.mk (Kd.N_elder' (nU HO212) (by first | exact Kd.N_base ho0 | exact Kd.S_base ho0) hb); replace BK209 := bS BK209 hb; replace HB := hS HB hb; (try clear hb); (try clear hb2); (try clear hk); (try clear hi); (try clear ho0); obtain ⟨Ao9, co9, eo9⟩ := Kd.N_slice HO215.out; subst eo9))
 go_loopg [3, 10] k (fun kq v3 v10 w' => ∃ (x3_1 : Int) (x10_1 : Int), v3 = .int .i64 x3_1 ∧ v10 = .int .i64 x10_1 ∧ Aside0 (spec_pzThrees.l0 kq x3_1 t213 (t213.length : Int) x10_1 = some r) ∧ Aside0 (kq ≤ k) ∧ Aside0 (Kd.N (Kd.slice 3 (Kd.int .i64)) 75 w' w.heap.size (fun k_ => k_ ≠ gb209) (.slice Ao9 t213.length co9) t213) ∧ Aside0 (w'.heap[gb209]? = some (.cells #[.int .i64 a0_0, (.slice A0_1 l0_1.length c0_1)] 33 (0, 0))) ∧ Aside0 (Below w.heap.size w w'))
 case atStart => exact ⟨(0), (0), (by first | rfl | (simp; done) | (simp [*]; done)), (by first | rfl | (simp; done) | (simp [*]; done)), H', ⟨Nat.le_refl _⟩, ⟨by (with_reducible repeat (first | apply Kd.N_alloc | apply Kd.N_drewN | apply Kd.N_drew)); exact Kd.N_mono HO215.out (fun _ hk => hk.2)⟩, ⟨bK⟩, ⟨hB⟩⟩
 case round =>
  clear H'
  try clear p2
  try clear c5
  try clear c9
  try clear hcz5_0
  try clear hcz5_1
  try clear hfz5_0
  try clear hfz5_1
  obtain ⟨x3_1, x10_1, rfl, rfl, HA, HK1, HO_8, BK209, HB⟩ := hrel
  cases gk with
  | zero => exact absurd HA.out (by simp [spec_pzThrees.l0])
  | succ k1 =>
   have H := HA.out
   clear HA
   simp only [spec_pzThrees.l0] at H
   by_cases c10 : x10_1 < (t213.length : Int)
   ·rw [if_pos c10] at H
    have c10b0 : decide (x10_1 < (t213.length : Int)) = true := decide_eq_true c10
    clear c10
    by_cases c11 : 0 ≤ x10_1
    ·rw [if_pos c11] at H
     have c11b0 : decide (0 ≤ x10_1) = true := decide_eq_true c11
     clear c11
     by_cases c12 : x10_1 < (t213.length : Int)
     ·rw [if_pos c12] at H
      have c12b0 : decide (x10_1 < (t213.length : Int)) = true := decide_eq_true c12
      clear c12
      by_cases c13 : ((rd_L9 t213 x10_1).length : Int) = 3
      ·rw [if_pos c13] at H
       have c13b0 : (((rd_L9 t213 x10_1).length : Int) == 3) = true := beq_iff_eq.mpr c13
       have c13b1 : (((rd_L9 t213 x10_1).length : Int) != 3) = false := bne_eq_false_iff_eq.mpr c13
       clear c13
       have H' := Aside0.mk H
       clear H
       have p216 : 0 ≤ (x10_1 : Int) := of_decide_eq_true (by first | (with_reducible assumption) | assumption)
       have q216 : x10_1 < (t213.length : Int) := of_decide_eq_true (by first | (with_reducible assumption) | assumption)
       obtain ⟨ad216, A216_0, c216_0, e216, hx216_0, hl216_0, hi216_0⟩ := at_L9 (Kd.N_reads' HO_8.out).2.2 x10_1 p216 q216
       cases e216
       obtain ⟨ce216, hce216, hMe216, hcc216⟩ := Kd.N_get HO_8.out [] x10_1 p216 (by first | exact q216 | exact of_decide_eq_true (by first | (with_reducible assumption) | assumption) | (have e_ := (Kd.N_reads' HO_8.out).1; omega))
       obtain ⟨ua216_0, uc216_0, rfl, ul216_0, ge216_0⟩ := Kd.FK_slice_open hMe216
       have hv216_0 := hcc216 0 _ rfl
       rw [Nat.add_zero, show ((Kd.slice 3 (Kd.int .i64))).sz = 1 from rfl, Nat.mul_one] at hv216_0
       replace hv216_0 := Option.some.inj (hv216_0.symm.trans hx216_0)
       injection hv216_0 with hva_ hvn_ hvc_
       rw [hva_] at ge216_0
       rw [hvc_] at ul216_0
       have HL216_0 := Aside0.mk (show Kd.V (Kd.int .i64) 3 _ w.heap.size _ _ (rd_L9 t213 x10_1) from Kd.V_mk ul216_0 ge216_0)
       clear hva_ hvn_ hvc_ ge216_0 ul216_0
       clear hcc216 hce216
       have HR216_0 := Aside0.mk hi216_0
       have HC216_0 := Aside0.mk hl216_0
       clear hi216_0 hl216_0
       replace p216 := eq_true p216
       replace q216 := eq_true q216
       go_wp2
       go_roundg k1
       case measure => have := HK1.out; omega
       case rel => exact ⟨(wrap64 (x3_1 + 1)), (wrap64 (x10_1 + 1)), (by first | rfl | (simp; done) | (simp [*]; done)), (by first | rfl | (simp; done) | (simp [*]; done)), H', ⟨by have := HK1.out; omega⟩, ⟨nU HO_8⟩, ⟨bK⟩, ⟨hB⟩⟩
      ·rw [if_neg c13] at H
       have c13b0 : (((rd_L9 t213 x10_1).length : Int) == 3) = false := beq_eq_false_iff_ne.mpr c13
       have c13b1 : (((rd_L9 t213 x10_1).length : Int) != 3) = true := bne_iff_ne.mpr c13
       have H' := Aside0.mk H
       clear H
       have p216 : 0 ≤ (x10_1 : Int) := of_decide_eq_true (by first | (with_reducible assumption) | assumption)
       have q216 : x10_1 < (t213.length : Int) := of_decide_eq_true (by first | (with_reducible assumption) | assumption)
       obtain ⟨ad216, A216_0, c216_0, e216, hx216_0, hl216_0, hi216_0⟩ := at_L9 (Kd.N_reads' HO_8.out).2.2 x10_1 p216 q216
       cases e216
       obtain ⟨ce216, hce216, hMe216, hcc216⟩ := Kd.N_get HO_8.out [] x10_1 p216 (by first | exact q216 | exact of_decide_eq_true (by first | (with_reducible assumption) | assumption) | (have e_ := (Kd.N_reads' HO_8.out).1; omega))
       obtain ⟨ua216_0, uc216_0, rfl, ul216_0, ge216_0⟩ := Kd.FK_slice_open hMe216
       have hv216_0 := hcc216 0 _ rfl
       rw [Nat.add_zero, show ((Kd.slice 3 (Kd.int .i64))).sz = 1 from rfl, Nat.mul_one] at hv216_0
       replace hv216_0 := Option.some.inj (hv216_0.symm.trans hx216_0)
       injection hv216_0 with hva_ hvn_ hvc_
       rw [hva_] at ge216_0
       rw [hvc_] at ul216_0
       have HL216_0 := Aside0.mk (show Kd.V (Kd.int .i64) 3 _ w.heap.size _ _ (rd_L9 t213 x10_1) from Kd.V_mk ul216_0 ge216_0)
       clear hva_ hvn_ hvc_ ge216_0 ul216_0
       clear hcc216 hce216
       have HR216_0 := Aside0.mk hi216_0
       have HC216_0 := Aside0.mk hl216_0
       clear hi216_0 hl216_0
       replace p216 := eq_true p216
       replace q216 := eq_true q216
       go_wp2
       go_roundg k1
       case measure => have := HK1.out; omega
       case rel => exact ⟨(x3_1), (wrap64 (x10_1 + 1)), (by first | rfl | (simp; done) | (simp [*]; done)), (by first | rfl | (simp; done) | (simp [*]; done)), H', ⟨by have := HK1.out; omega⟩, ⟨nU HO_8⟩, ⟨bK⟩, ⟨hB⟩⟩
     ·rw [if_neg c12] at H
      exact absurd H (by simp)
    ·rw [if_neg c11] at H
     exact absurd H (by simp)
   ·rw [if_neg c10] at H
    have c10b0 : decide (x10_1 < (t213.length : Int)) = false := decide_eq_false c10
    clear c10
    obtain rfl := Option.some.inj H
    go_wp2
    go_ret
    exact ⟨by first | rfl | (simp [errW_none, errW_some] <;> rfl) | (simp [*, errW_none, errW_some] <;> rfl), hB⟩

/-! ### spec_l1Put: function 100 -/
def spec_l1Put.l0 : Nat → List Int → Int → Int → Option (List Int)
 | 0, _, _, _ => none
 | k + 1, x0, x1, x5 => if x5 < (x0.length : Int) then (if 0 ≤ x5 then (if (rd x0 x5) < x1 then (spec_l1Put.l0 k x0 x1 (wrap64 (x5 + 1))) else (if (rd x0 x5) = x1 then (some x0) else ((some (([] : List Int) : List Int)).bind fun y219 => (if x5 ≤ (x0.length : Int) then ((some (x0.take (x5 : Int).toNat : List Int)).bind fun y222 => (if y219.length + y222.length < 17592186044416 then ((some (y219 ++ y222 : List Int)).bind fun y226 => (if y226.length < 17592186044416 then ((some (y226 ++ [x1] : List Int)).bind fun y229 => ((some (x0.drop (x5 : Int).toNat : List Int)).bind fun y232 => (if y229.length + y232.length < 17592186044416 then (some (y229 ++ y232)) else (none)))) else (none))) else (none))) else (none))))) else (none)) else ((some (([] : List Int) : List Int)).bind fun y239 => (if 0 ≤ x5 then (if x5 ≤ (x0.length : Int) then ((some (x0.take (x5 : Int).toNat : List Int)).bind fun y242 => (if y239.length + y242.length < 17592186044416 then ((some (y239 ++ y242 : List Int)).bind fun y246 => (if y246.length < 17592186044416 then ((some (y246 ++ [x1] : List Int)).bind fun y249 => ((some (x0.drop (x5 : Int).toNat : List Int)).bind fun y252 => (if y249.length + y252.length < 17592186044416 then (some (y249 ++ y252)) else (none)))) else (none))) else (none))) else (none)) else (none)))
def spec_l1Put.f (k : Nat) (l0 : List Int) (a1 : Int) : Option (List Int) := spec_l1Put.l0 k l0 a1 0
theorem spec_l1Put.mono_l : ∀ k, (∀ y0 y1 y2, LeO (spec_l1Put.l0 k y0 y1 y2) (spec_l1Put.l0 (k + 1) y0 y1 y2))
 | 0 => fun _ _ _ r h => by simp [spec_l1Put.l0] at h
 | k + 1 => by
  have ih0 := spec_l1Put.mono_l k
  ·intro y0 y1 y2
   unfold spec_l1Put.l0
   repeat' first
   | (with_reducible exact ih0 _ _ _)
   | (with_reducible exact LeO.refl _)
   | (with_reducible exact LeO.none _)
   | (with_reducible refine LeO.ite ?_ ?_)
   | (with_reducible refine LeO.bind ?_ (fun _ => ?_))
   | exact ih0 _ _ _
   | exact LeO.none _
   | refine LeO.ite ?_ ?_
   | refine LeO.bind ?_ (fun _ => ?_)
theorem spec_l1Put.mono : ∀ a0 a1 k, LeO (spec_l1Put.f k a0 a1) (spec_l1Put.f (k + 1) a0 a1) := by
 intro a0 a1 k
 have ih0 := spec_l1Put.mono_l k
 unfold spec_l1Put.f
 repeat' first
   | (with_reducible exact ih0 _ _ _)
   | (with_reducible exact LeO.refl _)
   | (with_reducible exact LeO.none _)
   | (with_reducible refine LeO.ite ?_ ?_)
   | (with_reducible refine LeO.bind ?_ (fun _ => ?_))
   | exact ih0 _ _ _
   | exact LeO.none _
   | refine LeO.ite ?_ ?_
   | refine LeO.bind ?_ (fun _ => ?_)
set_option maxHeartbeats 8000000 in
set_option maxRecDepth 100000 in
theorem spec_l1Put.calls (k : Nat) (P0_ : Nat → Prop) (u9000_ : Value) (l0 : List Int) (a1 : Int) (r : List Int) (w0 w : World) (hB : Below w0.heap.size w0 w) (ho0 : Kd.R (Kd.int .i64) 3 w w0.heap.size P0_ u9000_ l0) (h : spec_l1Put.f k l0 a1 = some r) :
  Calls Tryd.prog 100 #[u9000_, .int .i64 a1] w fun e w' => ∃ v0_ : Value, e = .returned (v0_) ∧ Kd.R (Kd.int .i64) 3 w' w0.heap.size (fun k_ => (P0_ k_ ∨ w.heap.size ≤ k_)) v0_ r ∧ Below w0.heap.size w0 w' ∧ Kept w w' (fun k_ => P0_ k_) := by
 have HO0 := Aside0.mk (show Kd.R (Kd.int .i64) 3 w w0.heap.size (fun k_ => (P0_ k_ ∨ w.heap.size ≤ k_)) u9000_ l0 from Kd.R_mono ho0 (fun k_ hk => (.inl hk)))
 have HK := Aside0.mk (Kept.refl w (fun k_ => P0_ k_))
 have HW0 := Aside0.mk hB.size
 have HB := Aside0.mk hB
 clear hB
 have H : (spec_l1Put.l0 k l0 a1 0) = some r := h
 clear h
 have H' := Aside0.mk H
 clear H
 go_enter Tryd.func100, Tryd.ntmps100
 go_wp2
 go_loopg [5] k (fun kq v5 w' => ∃ (x5_1 : Int), v5 = .int .i64 x5_1 ∧ Aside0 (spec_l1Put.l0 kq l0 a1 x5_1 = some r) ∧ Aside0 (kq ≤ k) ∧ Aside0 (Kd.R (Kd.int .i64) 3 w' w0.heap.size (fun k_ => (P0_ k_ ∨ w.heap.size ≤ k_)) u9000_ l0) ∧ Aside0 (Kept w w' (fun k_ => P0_ k_)) ∧ Aside0 (Below w0.heap.size w0 w'))
 case atStart => exact ⟨(0), (by first | rfl | (simp; done) | (simp [*]; done)), H', ⟨Nat.le_refl _⟩, ⟨rU HO0⟩, ⟨by repeat (first | (with_reducible first | exact HK.out | apply Kept.alloc | apply Kept.drewN | apply Kept.drew) | exact HK.out)⟩, ⟨hB⟩⟩
 case round =>
  clear H'
  try clear c1
  try clear p2
  obtain ⟨x5_1, rfl, HA, HK1, HO_0, HK, HB⟩ := hrel
  cases gk with
  | zero => exact absurd HA.out (by simp [spec_l1Put.l0])
  | succ k1 =>
   have H := HA.out
   clear HA
   simp only [spec_l1Put.l0] at H
   by_cases c3 : x5_1 < (l0.length : Int)
   ·rw [if_pos c3] at H
    have c3b0 : decide (x5_1 < (l0.length : Int)) = true := decide_eq_true c3
    clear c3
    by_cases c4 : 0 ≤ x5_1
    ·rw [if_pos c4] at H
     have c4b0 : decide (0 ≤ x5_1) = true := decide_eq_true c4
     clear c4
     by_cases c5 : (rd l0 x5_1) < a1
     ·rw [if_pos c5] at H
      have c5b0 : decide ((rd l0 x5_1) < a1) = true := decide_eq_true c5
      clear c5
      have H' := Aside0.mk H
      clear H
      obtain ⟨Ao6, co6, eo6⟩ := Kd.R_slice HO_0.out
      subst eo6
      have p217 : 0 ≤ (x5_1 : Int) := of_decide_eq_true (by first | (with_reducible assumption) | assumption)
      have q217 : x5_1 < (l0.length : Int) := of_decide_eq_true (by first | (with_reducible assumption) | assumption)
      obtain ⟨ad217, e217, hx217_0⟩ := Kd.at_int (Kd.R_reads' HO_0.out).2.2 x5_1 p217 q217
      cases e217
      replace p217 := eq_true p217
      replace q217 := eq_true q217
      go_wp2
      go_roundg k1
      case measure => have := HK1.out; omega
      case rel => exact ⟨(wrap64 (x5_1 + 1)), (by first | rfl | (simp; done) | (simp [*]; done)), H', ⟨by have := HK1.out; omega⟩, ⟨rU HO_0⟩, ⟨by repeat (first | (with_reducible first | exact HK.out | apply Kept.alloc | apply Kept.drewN | apply Kept.drew) | exact HK.out)⟩, ⟨hB⟩⟩
     ·rw [if_neg c5] at H
      have c5b0 : decide ((rd l0 x5_1) < a1) = false := decide_eq_false c5
      clear c5
      by_cases c7 : (rd l0 x5_1) = a1
      ·rw [if_pos c7] at H
       have c7b0 : ((rd l0 x5_1) == a1) = true := beq_iff_eq.mpr c7
       have c7b1 : ((rd l0 x5_1) != a1) = false := bne_eq_false_iff_eq.mpr c7
       clear c7
       obtain rfl := Option.some.inj H
       obtain ⟨Ao8, co8, eo8⟩ := Kd.R_slice HO_0.out
       subst eo8
       have p217 : 0 ≤ (x5_1 : Int) := of_decide_eq_true (by first | (with_reducible assumption) | assumption)
       have q217 : x5_1 < (l0.length : Int) := of_decide_eq_true (by first | (with_reducible assumption) | assumption)
       obtain ⟨ad217, e217, hx217_0⟩ := Kd.at_int (Kd.R_reads' HO_0.out).2.2 x5_1 p217 q217
       cases e217
       replace p217 := eq_true p217
       replace q217 := eq_true q217
       have p218 : 0 ≤ (x5_1 : Int) := of_decide_eq_true (by first | (with_reducible assumption) | assumption)
       have q218 : x5_1 < (l0.length : Int) := of_decide_eq_true (by first | (with_reducible assumption) | assumption)
       obtain ⟨ad218, e218, hx218_0⟩ := Kd.at_int (Kd.R_reads' HO_0.out).2.2 x5_1 p218 q218
       obtain rfl : ad217 = ad218 := (by injection e218)
       replace p218 := eq_true p218
       replace q218 := eq_true q218
       go_wp2
       go_ret
       exact ⟨_, by first | rfl | (simp [errW_none, errW_some] <;> rfl) | (simp [*, errW_none, errW_some] <;> rfl), rU HO_0, hB, by repeat (first | (with_reducible first | exact HK.out | apply Kept.alloc | apply Kept.drewN | apply Kept.drew) | exact HK.out)⟩
      ·rw [if_neg c7] at H
       have c7b0 : ((rd l0 x5_1) == a1) = false := beq_eq_false_iff_ne.mpr c7
       have c7b1 : ((rd l0 x5_1) != a1) = true := bne_iff_ne.mpr c7
       obtain ⟨y219, hy219⟩ : ∃ y_ : List Int, y_ = (([] : List Int)) := ⟨_, rfl⟩
       replace H : (if x5_1 ≤ (l0.length : Int) then ((some (l0.take (x5_1 : Int).toNat : List Int)).bind fun y222 => (if y219.length + y222.length < 17592186044416 then ((some (y219 ++ y222 : List Int)).bind fun y226 => (if y226.length < 17592186044416 then ((some (y226 ++ [a1] : List Int)).bind fun y229 => ((some (l0.drop (x5_1 : Int).toNat : List Int)).bind fun y232 => (if y229.length + y232.length < 17592186044416 then (some (y229 ++ y232)) else (none)))) else (none))) else (none))) else (none)) = some r := by first | (rw [hy219]; with_reducible exact H) | (have H2_ := (Option.bind_some _ _).symm.trans H; rw [hy219]; with_reducible exact H2_) | (have H2_ := (Option.bind_some _ _).symm.trans H; with_reducible exact H2_) | with_reducible exact H | (rw [hy219]; exact H) | exact H
       have Ny219 := Aside0.mk hy219
       clear hy219
       have c9b0 := eq_true (of_decide_eq_true (by first | (with_reducible assumption) | assumption) : 0 ≤ x5_1)
       by_cases c10 : x5_1 ≤ (l0.length : Int)
       ·rw [if_pos c10] at H
        have c10b0 := eq_true c10
        have c10b1 : decide (x5_1 ≤ (l0.length : Int)) = true := decide_eq_true c10
        clear c10
        obtain ⟨y222, hy222⟩ : ∃ y_ : List Int, y_ = (l0.take (x5_1 : Int).toNat) := ⟨_, rfl⟩
        replace H : (if y219.length + y222.length < 17592186044416 then ((some (y219 ++ y222 : List Int)).bind fun y226 => (if y226.length < 17592186044416 then ((some (y226 ++ [a1] : List Int)).bind fun y229 => ((some (l0.drop (x5_1 : Int).toNat : List Int)).bind fun y232 => (if y229.length + y232.length < 17592186044416 then (some (y229 ++ y232)) else (none)))) else (none))) else (none)) = some r := by first | (rw [hy222]; with_reducible exact H) | (have H2_ := (Option.bind_some _ _).symm.trans H; rw [hy222]; with_reducible exact H2_) | (have H2_ := (Option.bind_some _ _).symm.trans H; with_reducible exact H2_) | with_reducible exact H | (rw [hy222]; exact H) | exact H
        have Ny222 := Aside0.mk hy222
        clear hy222
        by_cases c11 : y219.length + y222.length < 17592186044416
        ·rw [if_pos c11] at H
         have LMc11 := Aside0.mk c11
         clear c11
         obtain ⟨y226, hy226⟩ : ∃ y_ : List Int, y_ = (y219 ++ y222) := ⟨_, rfl⟩
         replace H : (if y226.length < 17592186044416 then ((some (y226 ++ [a1] : List Int)).bind fun y229 => ((some (l0.drop (x5_1 : Int).toNat : List Int)).bind fun y232 => (if y229.length + y232.length < 17592186044416 then (some (y229 ++ y232)) else (none)))) else (none)) = some r := by first | (rw [hy226]; with_reducible exact H) | (have H2_ := (Option.bind_some _ _).symm.trans H; rw [hy226]; with_reducible exact H2_) | (have H2_ := (Option.bind_some _ _).symm.trans H; with_reducible exact H2_) | with_reducible exact H | (rw [hy226]; exact H) | exact H
         have Ny226 := Aside0.mk hy226
         clear hy226
         by_cases c12 : y226.length < 17592186044416
         ·rw [if_pos c12] at H
          have LMc12 := Aside0.mk c12
          clear c12
          obtain ⟨y229, hy229⟩ : ∃ y_ : List Int, y_ = (y226 ++ [a1]) := ⟨_, rfl⟩
          replace H : ((some (l0.drop (x5_1 : Int).toNat : List Int)).bind fun y232 => (if y229.length + y232.length < 17592186044416 then (some (y229 ++ y232)) else (none))) = some r := by first | (rw [hy229]; with_reducible exact H) | (have H2_ := (Option.bind_some _ _).symm.trans H; rw [hy229]; with_reducible exact H2_) | (have H2_ := (Option.bind_some _ _).symm.trans H; with_reducible exact H2_) | with_reducible exact H | (rw [hy229]; exact H) | exact H
          have Ny229 := Aside0.mk hy229
          clear hy229
          have c13b0 := eq_true (of_decide_eq_true (by first | (with_reducible assumption) | assumption) : 0 ≤ x5_1)
          have c14b0 := eq_true (of_decide_eq_true (by first | (with_reducible assumption) | assumption) : x5_1 ≤ (l0.length : Int))
          obtain ⟨y232, hy232⟩ : ∃ y_ : List Int, y_ = (l0.drop (x5_1 : Int).toNat) := ⟨_, rfl⟩
          replace H : (if y229.length + y232.length < 17592186044416 then (some (y229 ++ y232)) else (none)) = some r := by first | (rw [hy232]; with_reducible exact H) | (have H2_ := (Option.bind_some _ _).symm.trans H; rw [hy232]; with_reducible exact H2_) | (have H2_ := (Option.bind_some _ _).symm.trans H; with_reducible exact H2_) | with_reducible exact H | (rw [hy232]; exact H) | exact H
          have Ny232 := Aside0.mk hy232
          clear hy232
          by_cases c15 : y229.length + y232.length < 17592186044416
          ·rw [if_pos c15] at H
           have LMc15 := Aside0.mk c15
           clear c15
           obtain ⟨y236, hy236⟩ : ∃ y_ : List Int, y_ = (y229 ++ y232) := ⟨_, rfl⟩
           replace H : (some y236) = some r := by first | (rw [hy236]; with_reducible exact H) | (have H2_ := (Option.bind_some _ _).symm.trans H; rw [hy236]; with_reducible exact H2_) | (have H2_ := (Option.bind_some _ _).symm.trans H; with_reducible exact H2_) | with_reducible exact H | (rw [hy236]; exact H) | exact H
           have Ny236 := Aside0.mk hy236
           clear hy236
           obtain rfl := Option.some.inj H
           obtain ⟨Ao16, co16, eo16⟩ := Kd.R_slice HO_0.out
           subst eo16
           have p217 : 0 ≤ (x5_1 : Int) := of_decide_eq_true (by first | (with_reducible assumption) | assumption)
           have q217 : x5_1 < (l0.length : Int) := of_decide_eq_true (by first | (with_reducible assumption) | assumption)
           obtain ⟨ad217, e217, hx217_0⟩ := Kd.at_int (Kd.R_reads' HO_0.out).2.2 x5_1 p217 q217
           cases e217
           replace p217 := eq_true p217
           replace q217 := eq_true q217
           have p218 : 0 ≤ (x5_1 : Int) := of_decide_eq_true (by first | (with_reducible assumption) | assumption)
           have q218 : x5_1 < (l0.length : Int) := of_decide_eq_true (by first | (with_reducible assumption) | assumption)
           obtain ⟨ad218, e218, hx218_0⟩ := Kd.at_int (Kd.R_reads' HO_0.out).2.2 x5_1 p218 q218
           obtain rfl : ad217 = ad218 := (by injection e218)
           replace p218 := eq_true p218
           replace q218 := eq_true q218
           go_wp2_with (first | ((with_reducible refine gate_dst (N := 34) rfl ?_); refine Kd.R_lit (Kd.int .i64) _ 3 ?hg (N := 34) ?hd (xs := ([] : List Int)) (inner := []) (ok := fun _ => True) (okp := fun _ => True) ?hr ?hp (fun _ hk => hk) trivial (Below.refl _ _) (Nat.le_refl _) (by simp) ?_; (case hd => rfl); (case hg => rfl); (case hr => first | (go_simp; done) | (go_simp; rfl)); (case hp => exact (Reps.none _ _)); intro v220 w17 ho18 hb hg_ hnew_; clear hg_ hnew_; (first | rw [← Ny219.out] at ho18 | (simp only [Int.reduceToNat] at ho18; rw [← Ny219.out] at ho18)); have HO221 := Aside0.mk (Kd.R_lower (Kd.R_new' (Kd.R_newM (M := fun k_ => (P0_ k_ ∨ w.heap.size ≤ k_)) ho18 (by first | exact HK.out.1 | exact (show Kept w _ (fun k_ => P0_ k_) from by repeat (first | (with_reducible first | exact HK.out | apply Kept.alloc | apply Kept.drewN | apply Kept.drew) | exact HK.out)).1) (fun k_ h_ => .inr h_)) (Kd.R_lt (rU HO_0))) (below_size hB)); replace HO_0 := Aside0.mk (Kd.R_elder' (rU HO_0) (Kd.R_base ho18) hb); replace HK := Aside0.mk (Kept.below (S := (fun k_ => P0_ k_)) (by repeat (first | (with_reducible first | exact HK.out | apply Kept.alloc | apply Kept.drewN | apply Kept.drew) | exact HK.out)) hb); replace HB := hS HB hb; clear hb ho18; have q19 : (x5_1 : Int) ≤ ((l0.length : Int) : Int) := of_decide_eq_true (by first | (with_reducible assumption) | assumption); obtain ⟨i019, hi019, _, hsz19, _⟩ := info_parts info3; have hroom19 : l0.length ≤ co16 := (Kd.R_reads' HO_0.out).2.1; have hC19 : Kd.C (Kd.int .i64) _ (some ad217) l0.length l0 := (Kd.R_reads' HO_0.out).2.2; have hcut19 := cut_to (P := Tryd.prog) 75 3 .i64 Tryd.underlying75 hi019 (some ad217) l0.length co16 x5_1 (of_decide_eq_true (by first | (with_reducible assumption) | assumption)) q19 hroom19; have hr19 := Kd.C_take (m := (x5_1 : Int).toNat) hC19 (by omega); have hy19 : y222.length = (x5_1 : Int).toNat := (by rw [Ny222.out, List.length_take]; omega); rw [← Ny222.out] at hr19; rw [← hy19] at hcut19; have HR225 := Aside0.mk hr19; have HC225 := Aside0.mk (show y222.length ≤ co16 from by omega); clear hr19 hC19 hroom19 hi019 hsz19; have KY19 := Aside0.mk hy19; clear hy19; have KL19 := Aside0.mk (show (x5_1 : Int).toNat ≤ l0.length from by omega); replace q19 := eq_true q19) | ((with_reducible refine gate_builtin (b := .append) (xs := #[.tmp 34, .tmp 37]) rfl ?_); at_builtin; refine Kd.R_append_rows (Kd.int .i64) (w0 := w0) w0.heap.size rfl (.tmp 34) (.tmp 37) 75 3 (.int .i64 0) 8 rfl Tryd.underlying75 info3 rfl (by decide) (by omega) v220 y219 y222 _ _ _ (fun k_ => (P0_ k_ ∨ w.heap.size ≤ k_) ∧ some k_ ≠ (.slice (some ad217) l0.length co16 : Value).ownBlock) (fun _ => False) rfl rfl ?aO ?aR (fun _ _ h => h) (fun _ h => h.elim) ?aF ?aB ?aS ?aL ?_; (case aR => repeat (first | exact (by repeat (first | (with_reducible exact HR225.out) | (with_reducible refine Kd.C_alloc ?_ _) | (with_reducible refine Kd.C_drewN ?_ _) | (with_reducible refine Kd.C_drew ?_) | exact HR225.out)) | (with_reducible refine Kd.C_alloc ?_ _) | (with_reducible refine Kd.C_drewN ?_ _) | (with_reducible refine Kd.C_drew ?_))); (case aB => exact hB); (case aF => exact (fun k_ hk => ⟨(.inr (Nat.le_trans (by first | exact HK.out.1 | exact (show Kept w _ (fun k_ => P0_ k_) from by repeat (first | (with_reducible first | exact HK.out | apply Kept.alloc | apply Kept.drewN | apply Kept.drew) | exact HK.out)).1) hk)), Kd.fresh' (Kd.R_lt (rU HO_0)) k_ hk⟩)); (case aO => exact (by (with_reducible repeat (first | apply Kd.R_alloc | apply Kd.R_drewN | apply Kd.R_drew)); exact Kd.R_mono HO221.out (fun _ hk => ⟨hk.1.1, hk.2⟩))); (case aS => exact (below_size hB)); (case aL => have := LMc11.out; omega); intro v227 w20 ho hb hg hat; rw [← Ny226.out] at ho; have HO228 := Aside0.mk (ho); replace HK := Aside0.mk (Kept.of_grown (S := (fun k_ => P0_ k_)) hg (by repeat (first | (with_reducible first | exact HK.out | apply Kept.alloc | apply Kept.drewN | apply Kept.drew) | exact HK.out)) (fun k_ e_ => (HO221.out.1 k_ e_).1.1)); replace HR225 := Aside0.mk ((show Kd.C (Kd.int .i64) w20 (some ad217) y222.length y222 from by rw [Ny222.out]; exact Kd.C_take (m := (x5_1 : Int).toNat) ((Kd.R_reads' (Kd.R_after (ok := (fun k_ => (P0_ k_ ∨ w.heap.size ≤ k_))) (rU HO_0) hg hat)).2.2) KL19.out)); replace HO_0 := Aside0.mk (Kd.R_after (ok := (fun k_ => (P0_ k_ ∨ w.heap.size ≤ k_))) (rU HO_0) hg hat); replace HB := Aside0.mk (hb); clear HO221; clear ho hb hg hat) | ((with_reducible refine gate_builtin (b := .append) (xs := #[.tmp 39, .tmp 41]) rfl ?_); at_builtin; refine Kd.R_append (Kd.int .i64) (w0 := w0) w0.heap.size rfl (.tmp 39) (.tmp 41) 75 3 (.int .i64 0) 8 rfl Tryd.underlying75 info3 rfl (by decide) (by omega) v227 y226 a1 [.int .i64 a1] (fun k_ => (P0_ k_ ∨ w.heap.size ≤ k_) ∧ some k_ ≠ (.slice (some ad217) l0.length co16 : Value).ownBlock) (fun _ => False) rfl rfl ?aP (fun _ hk => hk.elim) ?aF ?aO ?aB ?aS ?aL ?_; (case aP => exact rfl); (case aB => exact hB); (case aF => exact (fun k_ hk => ⟨(.inr (Nat.le_trans (by first | exact HK.out.1 | exact (show Kept w _ (fun k_ => P0_ k_) from by repeat (first | (with_reducible first | exact HK.out | apply Kept.alloc | apply Kept.drewN | apply Kept.drew) | exact HK.out)).1) hk)), Kd.fresh' (Kd.R_lt (rU HO_0)) k_ hk⟩)); (case aO => exact (rU HO228)); (case aS => exact (below_size hB)); (case aL => have := LMc12.out; omega); intro v230 w21 ho hb hg hat; rw [← Ny229.out] at ho; have HO231 := Aside0.mk (ho); replace HK := Aside0.mk (Kept.of_grown (S := (fun k_ => P0_ k_)) hg (by repeat (first | (with_reducible first | exact HK.out | apply Kept.alloc | apply Kept.drewN | apply Kept.drew) | exact HK.out)) (fun k_ e_ => (HO228.out.1 k_ e_).1)); replace HR225 := Aside0.mk ((show Kd.C (Kd.int .i64) w21 (some ad217) y222.length y222 from by rw [Ny222.out]; exact Kd.C_take (m := (x5_1 : Int).toNat) ((Kd.R_reads' (Kd.R_after (ok := (fun k_ => (P0_ k_ ∨ w.heap.size ≤ k_))) (rU HO_0) hg hat)).2.2) KL19.out)); replace HO_0 := Aside0.mk (Kd.R_after (ok := (fun k_ => (P0_ k_ ∨ w.heap.size ≤ k_))) (rU HO_0) hg hat); replace HB := Aside0.mk (hb); clear HO228; clear ho hb hg hat; have q22 : (x5_1 : Int) ≤ ((l0.length : Int) : Int) := of_decide_eq_true (by first | (with_reducible assumption) | assumption); obtain ⟨i022, hi022, _, hsz22, _⟩ := info_parts info3; have hroom22 : l0.length ≤ co16 := (Kd.R_reads' HO_0.out).2.1; have hC22 : Kd.C (Kd.int .i64) _ (some ad217) l0.length l0 := (Kd.R_reads' HO_0.out).2.2; have q022 : (0 : Int) ≤ (x5_1 : Int) := of_decide_eq_true (by first | (with_reducible assumption) | assumption); have hcut22 := cut_from (P := Tryd.prog) 75 3 .i64 Tryd.underlying75 hi022 1 hsz22 (some ad217) l0.length co16 x5_1 q022 q22; have hr22 := Kd.C_drop (m := (x5_1 : Int).toNat) (c := co16) hC22 (by omega) hroom22; obtain ⟨A22, hA22⟩ : ∃ A1, A1 = (if co16 = (x5_1 : Int).toNat then (some ad217) else ((some ad217) : Option Addr).map (·.add ((x5_1 : Int).toNat * 1))) := ⟨_, rfl⟩; obtain ⟨c22, hc22⟩ : ∃ c1, c1 = co16 - (x5_1 : Int).toNat := ⟨_, rfl⟩; have hy22 : y232.length = l0.length - (x5_1 : Int).toNat := (by rw [Ny232.out, List.length_drop] <;> omega); rw [show (l0).drop (x5_1 : Int).toNat = y232 from Ny232.out.symm] at hr22; replace hr22 : Kd.C (Kd.int .i64) _ A22 y232.length y232 := (by rw [hA22]; exact hr22); rw [← hy22, ← hA22, ← hc22] at hcut22; have HR235 := Aside0.mk hr22; have HC235 := Aside0.mk (show y232.length ≤ c22 from by rw [hy22, hc22]; exact Nat.sub_le_sub_right hroom22 _); clear hr22 hC22 hroom22 hi022 hsz22 hc22; have KY22 := Aside0.mk hy22; have KA22 := Aside0.mk hA22; clear hy22 hA22; have KL22 := Aside0.mk (show (x5_1 : Int).toNat ≤ l0.length from by omega); replace q22 := eq_true q22) | ((with_reducible refine gate_builtin (b := .append) (xs := #[.tmp 43, .tmp 46]) rfl ?_); at_builtin; refine Kd.R_append_rows (Kd.int .i64) (w0 := w0) w0.heap.size rfl (.tmp 43) (.tmp 46) 75 3 (.int .i64 0) 8 rfl Tryd.underlying75 info3 rfl (by decide) (by omega) v230 y229 y232 _ _ _ (fun k_ => (P0_ k_ ∨ w.heap.size ≤ k_) ∧ some k_ ≠ (.slice (some ad217) l0.length co16 : Value).ownBlock) (fun _ => False) rfl rfl ?aO ?aR (fun _ _ h => h) (fun _ h => h.elim) ?aF ?aB ?aS ?aL ?_; (case aR => repeat (first | exact (by repeat (first | (with_reducible exact HR235.out) | (with_reducible refine Kd.C_alloc ?_ _) | (with_reducible refine Kd.C_drewN ?_ _) | (with_reducible refine Kd.C_drew ?_) | exact HR235.out)) | (with_reducible refine Kd.C_alloc ?_ _) | (with_reducible refine Kd.C_drewN ?_ _) | (with_reducible refine Kd.C_drew ?_))); (case aB => exact hB); (case aF => exact (fun k_ hk => ⟨(.inr (Nat.le_trans (by first | exact HK.out.1 | exact (show Kept w _ (fun k_ => P0_ k_) from by repeat (first | (with_reducible first | exact HK.out | apply Kept.alloc | apply Kept.drewN | apply Kept.drew) | exact HK.out)).1) hk)), Kd.fresh' (Kd.R_lt (rU HO_0)) k_ hk⟩)); (case aO => exact (rU HO231)); (case aS => exact (below_size hB)); (case aL => have := LMc15.out; omega); intro v237 w23 ho hb hg hat; rw [← Ny236.out] at ho; have HO238 := Aside0.mk (ho); replace HK := Aside0.mk (Kept.of_grown (S := (fun k_ => P0_ k_)) hg (by repeat (first | (with_reducible first | exact HK.out | apply Kept.alloc | apply Kept.drewN | apply Kept.drew) | exact HK.out)) (fun k_ e_ => (HO231.out.1 k_ e_).1)); replace HR225 := Aside0.mk ((show Kd.C (Kd.int .i64) w23 (some ad217) y222.length y222 from by rw [Ny222.out]; exact Kd.C_take (m := (x5_1 : Int).toNat) ((Kd.R_reads' (Kd.R_after (ok := (fun k_ => (P0_ k_ ∨ w.heap.size ≤ k_))) (rU HO_0) hg hat)).2.2) KL19.out)); replace HR235 := Aside0.mk ((show Kd.C (Kd.int .i64) w23 A22 y232.length y232 from by rw [Ny232.out, KA22.out]; exact Kd.C_drop (m := (x5_1 : Int).toNat) (c := co16) ((Kd.R_reads' (Kd.R_after (ok := (fun k_ => (P0_ k_ ∨ w.heap.size ≤ k_))) (rU HO_0) hg hat)).2.2) KL22.out ((Kd.R_reads' (Kd.R_after (ok := (fun k_ => (P0_ k_ ∨ w.heap.size ≤ k_))) (rU HO_0) hg hat)).2.1))); replace HO_0 := Aside0.mk (Kd.R_after (ok := (fun k_ => (P0_ k_ ∨ w.heap.size ≤ k_))) (rU HO_0) hg hat); replace HB := Aside0.mk (hb); clear HO231; clear ho hb hg hat))
           go_ret
           exact ⟨_, by first | rfl | (simp [errW_none, errW_some] <;> rfl) | (simp [*, errW_none, errW_some] <;> rfl), by (with_reducible repeat (first | apply Kd.R_alloc | apply Kd.R_drewN | apply Kd.R_drew)); exact Kd.R_mono HO238.out (fun _ hk => hk.1), hB, by repeat (first | (with_reducible first | exact HK.out | apply Kept.alloc | apply Kept.drewN | apply Kept.drew) | exact HK.out)⟩
          ·rw [if_neg c15] at H
           exact absurd H (by simp)
         ·rw [if_neg c12] at H
          exact absurd H (by simp)
        ·rw [if_neg c11] at H
         exact absurd H (by simp)
       ·rw [if_neg c10] at H
        exact absurd H (by simp)
    ·rw [if_neg c4] at H
     exact absurd H (by simp)
   ·rw [if_neg c3] at H
    have c3b0 : decide (x5_1 < (l0.length : Int)) = false := decide_eq_false c3
    clear c3
    obtain ⟨y239, hy239⟩ : ∃ y_ : List Int, y_ = (([] : List Int)) := ⟨_, rfl⟩
    replace H : (if 0 ≤ x5_1 then (if x5_1 ≤ (l0.length : Int) then ((some (l0.take (x5_1 : Int).toNat : List Int)).bind fun y242 => (if y239.length + y242.length < 17592186044416 then ((some (y239 ++ y242 : List Int)).bind fun y246 => (if y246.length < 17592186044416 then ((some (y246 ++ [a1] : List Int)).bind fun y249 => ((some (l0.drop (x5_1 : Int).toNat : List Int)).bind fun y252 => (if y249.length + y252.length < 17592186044416 then (some (y249 ++ y252)) else (none)))) else (none))) else (none))) else (none)) else (none)) = some r := by first | (rw [hy239]; with_reducible exact H) | (have H2_ := (Option.bind_some _ _).symm.trans H; rw [hy239]; with_reducible exact H2_) | (have H2_ := (Option.bind_some _ _).symm.trans H; with_reducible exact H2_) | with_reducible exact H | (rw [hy239]; exact H) | exact H
    have Ny239 := Aside0.mk hy239
    clear hy239
    by_cases c24 : 0 ≤ x5_1
    ·rw [if_pos c24] at H
     have c24b0 := eq_true c24
     have c24b1 : decide (0 ≤ x5_1) = true := decide_eq_true c24
     clear c24
     by_cases c25 : x5_1 ≤ (l0.length : Int)
     ·rw [if_pos c25] at H
      have c25b0 := eq_true c25
      have c25b1 : decide (x5_1 ≤ (l0.length : Int)) = true := decide_eq_true c25
      clear c25
      obtain ⟨y242, hy242⟩ : ∃ y_ : List Int, y_ = (l0.take (x5_1 : Int).toNat) := ⟨_, rfl⟩
      replace H : (if y239.length + y242.length < 17592186044416 then ((some (y239 ++ y242 : List Int)).bind fun y246 => (if y246.length < 17592186044416 then ((some (y246 ++ [a1] : List Int)).bind fun y249 => ((some (l0.drop (x5_1 : Int).toNat : List Int)).bind fun y252 => (if y249.length + y252.length < 17592186044416 then (some (y249 ++ y252)) else (none)))) else (none))) else (none)) = some r := by first | (rw [hy242]; with_reducible exact H) | (have H2_ := (Option.bind_some _ _).symm.trans H; rw [hy242]; with_reducible exact H2_) | (have H2_ := (Option.bind_some _ _).symm.trans H; with_reducible exact H2_) | with_reducible exact H | (rw [hy242]; exact H) | exact H
      have Ny242 := Aside0.mk hy242
      clear hy242
      by_cases c26 : y239.length + y242.length < 17592186044416
      ·rw [if_pos c26] at H
       have LMc26 := Aside0.mk c26
       clear c26
       obtain ⟨y246, hy246⟩ : ∃ y_ : List Int, y_ = (y239 ++ y242) := ⟨_, rfl⟩
       replace H : (if y246.length < 17592186044416 then ((some (y246 ++ [a1] : List Int)).bind fun y249 => ((some (l0.drop (x5_1 : Int).toNat : List Int)).bind fun y252 => (if y249.length + y252.length < 17592186044416 then (some (y249 ++ y252)) else (none)))) else (none)) = some r := by first | (rw [hy246]; with_reducible exact H) | (have H2_ := (Option.bind_some _ _).symm.trans H; rw [hy246]; with_reducible exact H2_) | (have H2_ := (Option.bind_some _ _).symm.trans H; with_reducible exact H2_) | with_reducible exact H | (rw [hy246]; exact H) | exact H
       have Ny246 := Aside0.mk hy246
       clear hy246
       by_cases c27 : y246.length < 17592186044416
       ·rw [if_pos c27] at H
        have LMc27 := Aside0.mk c27
        clear c27
        obtain ⟨y249, hy249⟩ : ∃ y_ : List Int, y_ = (y246 ++ [a1]) := ⟨_, rfl⟩
        replace H : ((some (l0.drop (x5_1 : Int).toNat : List Int)).bind fun y252 => (if y249.length + y252.length < 17592186044416 then (some (y249 ++ y252)) else (none))) = some r := by first | (rw [hy249]; with_reducible exact H) | (have H2_ := (Option.bind_some _ _).symm.trans H; rw [hy249]; with_reducible exact H2_) | (have H2_ := (Option.bind_some _ _).symm.trans H; with_reducible exact H2_) | with_reducible exact H | (rw [hy249]; exact H) | exact H
        have Ny249 := Aside0.mk hy249
        clear hy249
        have c28b0 := eq_true (of_decide_eq_true (by first | (with_reducible assumption) | assumption) : 0 ≤ x5_1)
        have c29b0 := eq_true (of_decide_eq_true (by first | (with_reducible assumption) | assumption) : x5_1 ≤ (l0.length : Int))
        obtain ⟨y252, hy252⟩ : ∃ y_ : List Int, y_ = (l0.drop (x5_1 : Int).toNat) := ⟨_, rfl⟩
        replace H : (if y249.length + y252.length < 17592186044416 then (some (y249 ++ y252)) else (none)) = some r := by first | (rw [hy252]; with_reducible exact H) | (have H2_ := (Option.bind_some _ _).symm.trans H; rw [hy252]; with_reducible exact H2_) | (have H2_ := (Option.bind_some _ _).symm.trans H; with_reducible exact H2_) | with_reducible exact H | (rw [hy252]; exact H) | exact H
        have Ny252 := Aside0.mk hy252
        clear hy252
        by_cases c30 : y249.length + y252.length < 17592186044416
        ·rw [if_pos c30] at H
         have LMc30 := Aside0.mk c30
         clear c30
         obtain ⟨y256, hy256⟩ : ∃ y_ : List Int, y_ = (y249 ++ y252) := ⟨_, rfl⟩
         replace H : (some y256) = some r := by first | (rw [hy256]; with_reducible exact H) | (have H2_ := (Option.bind_some _ _).symm.trans H; rw [hy256]; with_reducible exact H2_) | (have H2_ := (Option.bind_some _ _).symm.trans H; with_reducible exact H2_) | with_reducible exact H | (rw [hy256]; exact H) | exact H
         have Ny256 := Aside0.mk hy256
         clear hy256
         obtain rfl := Option.some.inj H
         obtain ⟨Ao31, co31, eo31⟩ := Kd.R_slice HO_0.out
         subst eo31
         go_wp2_with (first | ((with_reducible refine gate_dst (N := 34) rfl ?_); refine Kd.R_lit (Kd.int .i64) _ 3 ?hg (N := 34) ?hd (xs := ([] : List Int)) (inner := []) (ok := fun _ => True) (okp := fun _ => True) ?hr ?hp (fun _ hk => hk) trivial (Below.refl _ _) (Nat.le_refl _) (by simp) ?_; (case hd => rfl); (case hg => rfl); (case hr => first | (go_simp; done) | (go_simp; rfl)); (case hp => exact (Reps.none _ _)); intro v240 w32 ho33 hb hg_ hnew_; clear hg_ hnew_; (first | rw [← Ny239.out] at ho33 | (simp only [Int.reduceToNat] at ho33; rw [← Ny239.out] at ho33)); have HO241 := Aside0.mk (Kd.R_lower (Kd.R_new' (Kd.R_newM (M := fun k_ => (P0_ k_ ∨ w.heap.size ≤ k_)) ho33 (by first | exact HK.out.1 | exact (show Kept w _ (fun k_ => P0_ k_) from by repeat (first | (with_reducible first | exact HK.out | apply Kept.alloc | apply Kept.drewN | apply Kept.drew) | exact HK.out)).1) (fun k_ h_ => .inr h_)) (Kd.R_lt (rU HO_0))) (below_size hB)); replace HO_0 := Aside0.mk (Kd.R_elder' (rU HO_0) (Kd.R_base ho33) hb); replace HK := Aside0.mk (Kept.below (S := (fun k_ => P0_ k_)) (by repeat (first | (with_reducible first | exact HK.out | apply Kept.alloc | apply Kept.drewN | apply Kept.drew) | exact HK.out)) hb); replace HB := hS HB hb; clear hb ho33; have q34 : (x5_1 : Int) ≤ ((l0.length : Int) : Int) := of_decide_eq_true (by first | (with_reducible assumption) | assumption); obtain ⟨i034, hi034, _, hsz34, _⟩ := info_parts info3; have hroom34 : l0.length ≤ co31 := (Kd.R_reads' HO_0.out).2.1; have hC34 : Kd.C (Kd.int .i64) _ Ao31 l0.length l0 := (Kd.R_reads' HO_0.out).2.2; have hcut34 := cut_to (P := Tryd.prog) 75 3 .i64 Tryd.underlying75 hi034 Ao31 l0.length co31 x5_1 (of_decide_eq_true (by first | (with_reducible assumption) | assumption)) q34 hroom34; have hr34 := Kd.C_take (m := (x5_1 : Int).toNat) hC34 (by omega); have hy34 : y242.length = (x5_1 : Int).toNat := (by rw [Ny242.out, List.length_take]; omega); rw [← Ny242.out] at hr34; rw [← hy34] at hcut34; have HR245 := Aside0.mk hr34; have HC245 := Aside0.mk (show y242.length ≤ co31 from by omega); clear hr34 hC34 hroom34 hi034 hsz34; have KY34 := Aside0.mk hy34; clear hy34; have KL34 := Aside0.mk (show (x5_1 : Int).toNat ≤ l0.length from by omega); replace q34 := eq_true q34) | ((with_reducible refine gate_builtin (b := .append) (xs := #[.tmp 34, .tmp 37]) rfl ?_); at_builtin; refine Kd.R_append_rows (Kd.int .i64) (w0 := w0) w0.heap.size rfl (.tmp 34) (.tmp 37) 75 3 (.int .i64 0) 8 rfl Tryd.underlying75 info3 rfl (by decide) (by omega) v240 y239 y242 _ _ _ (fun k_ => (P0_ k_ ∨ w.heap.size ≤ k_) ∧ some k_ ≠ (.slice Ao31 l0.length co31 : Value).ownBlock) (fun _ => False) rfl rfl ?aO ?aR (fun _ _ h => h) (fun _ h => h.elim) ?aF ?aB ?aS ?aL ?_; (case aR => repeat (first | exact (by repeat (first | (with_reducible exact HR245.out) | (with_reducible refine Kd.C_alloc ?_ _) | (with_reducible refine Kd.C_drewN ?_ _) | (with_reducible refine Kd.C_drew ?_) | exact HR245.out)) | (with_reducible refine Kd.C_alloc ?_ _) | (with_reducible refine Kd.C_drewN ?_ _) | (with_reducible refine Kd.C_drew ?_))); (case aB => exact hB); (case aF => exact (fun k_ hk => ⟨(.inr (Nat.le_trans (by first | exact HK.out.1 | exact (show Kept w _ (fun k_ => P0_ k_) from by repeat (first | (with_reducible first | exact HK.out | apply Kept.alloc | apply Kept.drewN | apply Kept.drew) | exact HK.out)).1) hk)), Kd.fresh' (Kd.R_lt (rU HO_0)) k_ hk⟩)); (case aO => exact (by (with_reducible repeat (first | apply Kd.R_alloc | apply Kd.R_drewN | apply Kd.R_drew)); exact Kd.R_mono HO241.out (fun _ hk => ⟨hk.1.1, hk.2⟩))); (case aS => exact (below_size hB)); (case aL => have := LMc26.out; omega); intro v247 w35 ho hb hg hat; rw [← Ny246.out] at ho; have HO248 := Aside0.mk (ho); replace HK := Aside0.mk (Kept.of_grown (S := (fun k_ => P0_ k_)) hg (by repeat (first | (with_reducible first | exact HK.out | apply Kept.alloc | apply Kept.drewN | apply Kept.drew) | exact HK.out)) (fun k_ e_ => (HO241.out.1 k_ e_).1.1)); replace HR245 := Aside0.mk ((show Kd.C (Kd.int .i64) w35 Ao31 y242.length y242 from by rw [Ny242.out]; exact Kd.C_take (m := (x5_1 : Int).toNat) ((Kd.R_reads' (Kd.R_after (ok := (fun k_ => (P0_ k_ ∨ w.heap.size ≤ k_))) (rU HO_0) hg hat)).2.2) KL34.out)); replace HO_0 := Aside0.mk (Kd.R_after (ok := (fun k_ => (P0_ k_ ∨ w.heap.size ≤ k_))) (rU HO_0) hg hat); replace HB := Aside0.mk (hb); clear HO241; clear ho hb hg hat) | ((with_reducible refine gate_builtin (b := .append) (xs := #[.tmp 39, .tmp 41]) rfl ?_); at_builtin; refine Kd.R_append (Kd.int .i64) (w0 := w0) w0.heap.size rfl (.tmp 39) (.tmp 41) 75 3 (.int .i64 0) 8 rfl Tryd.underlying75 info3 rfl (by decide) (by omega) v247 y246 a1 [.int .i64 a1] (fun k_ => (P0_ k_ ∨ w.heap.size ≤ k_) ∧ some k_ ≠ (.slice Ao31 l0.length co31 : Value).ownBlock) (fun _ => False) rfl rfl ?aP (fun _ hk => hk.elim) ?aF ?aO ?aB ?aS ?aL ?_; (case aP => exact rfl); (case aB => exact hB); (case aF => exact (fun k_ hk => ⟨(.inr (Nat.le_trans (by first | exact HK.out.1 | exact (show Kept w _ (fun k_ => P0_ k_) from by repeat (first | (with_reducible first | exact HK.out | apply Kept.alloc | apply Kept.drewN | apply Kept.drew) | exact HK.out)).1) hk)), Kd.fresh' (Kd.R_lt (rU HO_0)) k_ hk⟩)); (case aO => exact (rU HO248)); (case aS => exact (below_size hB)); (case aL => have := LMc27.out; omega); intro v250 w36 ho hb hg hat; rw [← Ny249.out] at ho; have HO251 := Aside0.mk (ho); replace HK := Aside0.mk (Kept.of_grown (S := (fun k_ => P0_ k_)) hg (by repeat (first | (with_reducible first | exact HK.out | apply Kept.alloc | apply Kept.drewN | apply Kept.drew) | exact HK.out)) (fun k_ e_ => (HO248.out.1 k_ e_).1)); replace HR245 := Aside0.mk ((show Kd.C (Kd.int .i64) w36 Ao31 y242.length y242 from by rw [Ny242.out]; exact Kd.C_take (m := (x5_1 : Int).toNat) ((Kd.R_reads' (Kd.R_after (ok := (fun k_ => (P0_ k_ ∨ w.heap.size ≤ k_))) (rU HO_0) hg hat)).2.2) KL34.out)); replace HO_0 := Aside0.mk (Kd.R_after (ok := (fun k_ => (P0_ k_ ∨ w.heap.size ≤ k_))) (rU HO_0) hg hat); replace HB := Aside0.mk (hb); clear HO248; clear ho hb hg hat; have q37 : (x5_1 : Int) ≤ ((l0.length : Int) : Int) := of_decide_eq_true (by first | (with_reducible assumption) | assumption); obtain ⟨i037, hi037, _, hsz37, _⟩ := info_parts info3; have hroom37 : l0.length ≤ co31 := (Kd.R_reads' HO_0.out).2.1; have hC37 : Kd.C (Kd.int .i64) _ Ao31 l0.length l0 := (Kd.R_reads' HO_0.out).2.2; have q037 : (0 : Int) ≤ (x5_1 : Int) := of_decide_eq_true (by first | (with_reducible assumption) | assumption); have hcut37 := cut_from (P := Tryd.prog) 75 3 .i64 Tryd.underlying75 hi037 1 hsz37 Ao31 l0.length co31 x5_1 q037 q37; have hr37 := Kd.C_drop (m := (x5_1 : Int).toNat) (c := co31) hC37 (by omega) hroom37; obtain ⟨A37, hA37⟩ : ∃ A1, A1 = (if co31 = (x5_1 : Int).toNat then Ao31 else (Ao31 : Option Addr).map (·.add ((x5_1 : Int).toNat * 1))) := ⟨_, rfl⟩; obtain ⟨c37, hc37⟩ : ∃ c1, c1 = co31 - (x5_1 : Int).toNat := ⟨_, rfl⟩; have hy37 : y252.length = l0.length - (x5_1 : Int).toNat := (by rw [Ny252.out, List.length_drop] <;> omega); rw [show (l0).drop (x5_1 : Int).toNat = y252 from Ny252.out.symm] at hr37; replace hr37 : Kd.C (Kd.int .i64) _ A37 y252.length y252 := (by rw [hA37]; exact hr37); rw [← hy37, ← hA37, ← hc37] at hcut37; have HR255 := Aside0.mk hr37; have HC255 := Aside0.mk (show y252.length ≤ c37 from by rw [hy37, hc37]; exact Nat.sub_le_sub_right hroom37 _); clear hr37 hC37 hroom37 hi037 hsz37 hc37; have KY37 := Aside0.mk hy37; have KA37 := Aside0.mk hA37; clear hy37 hA37; have KL37 := Aside0.mk (show (x5_1 : Int).toNat ≤ l0.length from by omega); replace q37 := eq_true q37) | ((with_reducible refine gate_builtin (b := .append) (xs := #[.tmp 43, .tmp 46]) rfl ?_); at_builtin; refine Kd.R_append_rows (Kd.int .i64) (w0 := w0) w0.heap.size rfl (.tmp 43) (.tmp 46) 75 3 (.int .i64 0) 8 rfl Tryd.underlying75 info3 rfl (by decide) (by omega) v250 y249 y252 _ _ _ (fun k_ => (P0_ k_ ∨ w.heap.size ≤ k_) ∧ some k_ ≠ (.slice Ao31 l0.length co31 : Value).ownBlock) (fun _ => False) rfl rfl ?aO ?aR (fun _ _ h => h) (fun _ h => h.elim) ?aF ?aB ?aS ?aL ?_; (case aR => repeat (first | exact (by repeat (first | (with_reducible exact HR255.out) | (with_reducible refine Kd.C_alloc ?_ _) | (with_reducible refine Kd.C_drewN ?_ _) | (with_reducible refine Kd.C_drew ?_) | exact HR255.out)) | (with_reducible refine Kd.C_alloc ?_ _) | (with_reducible refine Kd.C_drewN ?_ _) | (with_reducible refine Kd.C_drew ?_))); (case aB => exact hB); (case aF => exact (fun k_ hk => ⟨(.inr (Nat.le_trans (by first | exact HK.out.1 | exact (show Kept w _ (fun k_ => P0_ k_) from by repeat (first | (with_reducible first | exact HK.out | apply Kept.alloc | apply Kept.drewN | apply Kept.drew) | exact HK.out)).1) hk)), Kd.fresh' (Kd.R_lt (rU HO_0)) k_ hk⟩)); (case aO => exact (rU HO251)); (case aS => exact (below_size hB)); (case aL => have := LMc30.out; omega); intro v257 w38 ho hb hg hat; rw [← Ny256.out] at ho; have HO258 := Aside0.mk (ho); replace HK := Aside0.mk (Kept.of_grown (S := (fun k_ => P0_ k_)) hg (by repeat (first | (with_reducible first | exact HK.out | apply Kept.alloc | apply Kept.drewN | apply Kept.drew) | exact HK.out)) (fun k_ e_ => (HO251.out.1 k_ e_).1)); replace HR245 := Aside0.mk ((show Kd.C (Kd.int .i64) w38 Ao31 y242.length y242 from by rw [Ny242.out]; exact Kd.C_take (m := (x5_1 : Int).toNat) ((Kd.R_reads' (Kd.R_after (ok := (fun k_ => (P0_ k_ ∨ w.heap.size ≤ k_))) (rU HO_0) hg hat)).2.2) KL34.out)); replace HR255 := Aside0.mk ((show Kd.C (Kd.int .i64) w38 A37 y252.length y252 from by rw [Ny252.out, KA37.out]; exact Kd.C_drop (m := (x5_1 : Int).toNat) (c := co31) ((Kd.R_reads' (Kd.R_after (ok := (fun k_ => (P0_ k_ ∨ w.heap.size ≤ k_))) (rU HO_0) hg hat)).2.2) KL37.out ((Kd.R_reads' (Kd.R_after (ok := (fun k_ => (P0_ k_ ∨ w.heap.size ≤ k_))) (rU HO_0) hg hat)).2.1))); replace HO_0 := Aside0.mk (Kd.R_after (ok := (fun k_ => (P0_ k_ ∨ w.heap.size ≤ k_))) (rU HO_0) hg hat); replace HB := Aside0.mk (hb); clear HO251; clear ho hb hg hat))
         go_ret
         exact ⟨_, by first | rfl | (simp [errW_none, errW_some] <;> rfl) | (simp [*, errW_none, errW_some] <;> rfl), by (with_reducible repeat (first | apply Kd.R_alloc | apply Kd.R_drewN | apply Kd.R_drew)); exact Kd.R_mono HO258.out (fun _ hk => hk.1), hB, by repeat (first | (with_reducible first | exact HK.out | apply Kept.alloc | apply Kept.drewN | apply Kept.drew) | exact HK.out)⟩
        ·rw [if_neg c30] at H
         exact absurd H (by simp)
       ·rw [if_neg c27] at H
        exact absurd H (by simp)
      ·rw [if_neg c26] at H
       exact absurd H (by simp)
     ·rw [if_neg c25] at H
      exact absurd H (by simp)
    ·rw [if_neg c24] at H
     exact absurd H (by simp)

/-! ### spec_paFriends: function 101 -/
def spec_paFriends.l0 : Nat → List Int → List Bool → Int → Int → Option (List Int)
 | 0, _, _, _, _ => none
 | k + 1, x5, x11, x12, x13 => if x13 < x12 then (if 0 ≤ x13 then (if x13 < (x11.length : Int) then (if rdOf false x11 x13 = true then (if x5.length < 17592186044416 then (spec_paFriends.l0 k (x5 ++ [x13]) x11 x12 (wrap64 (x13 + 1))) else (none)) else (spec_paFriends.l0 k x5 x11 x12 (wrap64 (x13 + 1)))) else (none)) else (none)) else (some x5)
def spec_paFriends.f (k : Nat) (l0 : List (List Bool)) (a1 : Int) : Option (List Int) := if 0 ≤ a1 then (if a1 < (l0.length : Int) then (spec_paFriends.l0 k ([] : List Int) (rd_L7 l0 a1) ((rd_L7 l0 a1).length : Int) 0) else (none)) else (none)
theorem spec_paFriends.mono_l : ∀ k, (∀ y0 y1 y2 y3, LeO (spec_paFriends.l0 k y0 y1 y2 y3) (spec_paFriends.l0 (k + 1) y0 y1 y2 y3))
 | 0 => fun _ _ _ _ r h => by simp [spec_paFriends.l0] at h
 | k + 1 => by
  have ih0 := spec_paFriends.mono_l k
  ·intro y0 y1 y2 y3
   unfold spec_paFriends.l0
   repeat' first
   | (with_reducible exact ih0 _ _ _ _)
   | (with_reducible exact LeO.refl _)
   | (with_reducible exact LeO.none _)
   | (with_reducible refine LeO.ite ?_ ?_)
   | (with_reducible refine LeO.bind ?_ (fun _ => ?_))
   | exact ih0 _ _ _ _
   | exact LeO.none _
   | refine LeO.ite ?_ ?_
   | refine LeO.bind ?_ (fun _ => ?_)
theorem spec_paFriends.mono : ∀ a0 a1 k, LeO (spec_paFriends.f k a0 a1) (spec_paFriends.f (k + 1) a0 a1) := by
 intro a0 a1 k
 have ih0 := spec_paFriends.mono_l k
 unfold spec_paFriends.f
 repeat' first
   | (with_reducible exact ih0 _ _ _ _)
   | (with_reducible exact LeO.refl _)
   | (with_reducible exact LeO.none _)
   | (with_reducible refine LeO.ite ?_ ?_)
   | (with_reducible refine LeO.bind ?_ (fun _ => ?_))
   | exact ih0 _ _ _ _
   | exact LeO.none _
   | refine LeO.ite ?_ ?_
   | refine LeO.bind ?_ (fun _ => ?_)
set_option maxHeartbeats 8000000 in
set_option maxRecDepth 100000 in
theorem spec_paFriends.calls (k : Nat) (A0 : Option Addr) (c0 : Nat) (l0 : List (List Bool)) (a1 : Int) (r : List Int) (w : World) (hr0 : Kd.C (Kd.slice 4 Kd.bool) w A0 l0.length l0) (hc0 : l0.length ≤ c0) (h : spec_paFriends.f k l0 a1 = some r) :
  Calls Tryd.prog 101 #[.slice A0 l0.length c0, .int .i64 a1] w fun e w' => ∃ v0_ : Value, e = .returned (v0_) ∧ Kd.R (Kd.int .i64) 3 w' w.heap.size (fun _ => True) v0_ r ∧ Below w.heap.size w w' := by
 have HR0 := Aside0.mk hr0
 have HC0 := Aside0.mk hc0
 clear hr0 hc0
 have HB := Aside0.mk (Below.refl w.heap.size w)
 have H : (if 0 ≤ a1 then (if a1 < (l0.length : Int) then (spec_paFriends.l0 k ([] : List Int) (rd_L7 l0 a1) ((rd_L7 l0 a1).length : Int) 0) else (none)) else (none)) = some r := h
 clear h
 by_cases c3 : 0 ≤ a1
 ·rw [if_pos c3] at H
  have c3b0 : decide (0 ≤ a1) = true := decide_eq_true c3
  clear c3
  by_cases c4 : a1 < (l0.length : Int)
  ·rw [if_pos c4] at H
   have c4b0 : decide (a1 < (l0.length : Int)) = true := decide_eq_true c4
   clear c4
   have H' := Aside0.mk H
   clear H
   have p259 : 0 ≤ (a1 : Int) := of_decide_eq_true (by first | (with_reducible assumption) | assumption)
   have q259 : a1 < (l0.length : Int) := of_decide_eq_true (by first | (with_reducible assumption) | assumption)
   obtain ⟨ad259, A259_0, c259_0, e259, hx259_0, hl259_0, hi259_0⟩ := at_L7 HR0.out a1 p259 q259
   cases e259
   have HR259_0 := Aside0.mk hi259_0
   have HC259_0 := Aside0.mk hl259_0
   clear hi259_0 hl259_0
   replace p259 := eq_true p259
   replace q259 := eq_true q259
   go_enter Tryd.func101, Tryd.ntmps101
   go_wp2
   go_loopg [5, 13] k (fun kq v5 v13 w' => ∃ (x5_1 : List Int) (x13_1 : Int), v13 = .int .i64 x13_1 ∧ Aside0 (spec_paFriends.l0 kq x5_1 (rd_L7 l0 a1) ((rd_L7 l0 a1).length : Int) x13_1 = some r) ∧ Aside0 (kq ≤ k) ∧ Aside0 (Kd.R (Kd.int .i64) 3 w' w.heap.size (fun _ => True) v5 x5_1) ∧ Aside0 (Below w.heap.size w w'))
   case atStart => exact ⟨(([] : List Int)), (0), (by first | rfl | (simp; done) | (simp [*]; done)), H', ⟨Nat.le_refl _⟩, ⟨by first | exact Kd.R_nil _ _ _ _ _ | exact Kd.N_nil _ _ _ _ _ | exact Kd.V_nil _ _ _ _ _ | exact Kd.Q_nil _ _ _ _ _ | exact Kd.S_nil _ _ _ _ _⟩, ⟨hB⟩⟩
   case round =>
    clear H'
    try clear c1
    try clear c2
    try clear p2
    try clear q2
    try clear hx2
    try clear c3
    try clear c3b0
    try clear c4
    try clear c4b0
    try clear hx259_0
    try clear p259
    try clear q259
    obtain ⟨x5_1, x13_1, rfl, HA, HK1, HO_5, HB⟩ := hrel
    cases gk with
    | zero => exact absurd HA.out (by simp [spec_paFriends.l0])
    | succ k1 =>
     have H := HA.out
     clear HA
     simp only [spec_paFriends.l0] at H
     by_cases c5 : x13_1 < ((rd_L7 l0 a1).length : Int)
     ·rw [if_pos c5] at H
      have c5b0 : decide (x13_1 < ((rd_L7 l0 a1).length : Int)) = true := decide_eq_true c5
      clear c5
      by_cases c6 : 0 ≤ x13_1
      ·rw [if_pos c6] at H
       have c6b0 : decide (0 ≤ x13_1) = true := decide_eq_true c6
       clear c6
       by_cases c7 : x13_1 < ((rd_L7 l0 a1).length : Int)
       ·rw [if_pos c7] at H
        have c7b0 : decide (x13_1 < ((rd_L7 l0 a1).length : Int)) = true := decide_eq_true c7
        clear c7
        obtain ⟨bq8, hbq8⟩ : ∃ b_ : Bool, b_ = (rdOf false (rd_L7 l0 a1) x13_1) := ⟨_, rfl⟩
        replace H : (if bq8 = true then (if x5_1.length < 17592186044416 then (spec_paFriends.l0 k1 (x5_1 ++ [x13_1]) (rd_L7 l0 a1) ((rd_L7 l0 a1).length : Int) (wrap64 (x13_1 + 1))) else (none)) else (spec_paFriends.l0 k1 x5_1 (rd_L7 l0 a1) ((rd_L7 l0 a1).length : Int) (wrap64 (x13_1 + 1)))) = some r := by rw [← hbq8] at H; exact H
        have Nbq8 := Aside0.mk hbq8
        clear hbq8
        by_cases c9 : bq8 = true
        ·subst c9
         rw [if_pos rfl] at H
         by_cases c10 : x5_1.length < 17592186044416
         ·rw [if_pos c10] at H
          have LMc10 := Aside0.mk c10
          clear c10
          obtain ⟨y261, hy261⟩ : ∃ y_ : List Int, y_ = (x5_1 ++ [x13_1]) := ⟨_, rfl⟩
          replace H : (spec_paFriends.l0 k1 y261 (rd_L7 l0 a1) ((rd_L7 l0 a1).length : Int) (wrap64 (x13_1 + 1))) = some r := by first | (rw [hy261]; with_reducible exact H) | (have H2_ := (Option.bind_some _ _).symm.trans H; rw [hy261]; with_reducible exact H2_) | (have H2_ := (Option.bind_some _ _).symm.trans H; with_reducible exact H2_) | with_reducible exact H | (rw [hy261]; exact H) | exact H
          have Ny261 := Aside0.mk hy261
          clear hy261
          have H' := Aside0.mk H
          clear H
          have p260 : 0 ≤ (x13_1 : Int) := of_decide_eq_true (by first | (with_reducible assumption) | assumption)
          have q260 : x13_1 < ((rd_L7 l0 a1).length : Int) := of_decide_eq_true (by first | (with_reducible assumption) | assumption)
          obtain ⟨ad260, e260, hx260_0⟩ := Kd.at_bool HR259_0.out x13_1 p260 q260
          (try rw [← Nbq8.out] at hx260_0)
          cases e260
          replace hx260_0 := (HB.out.cell (World.block_lt_of_cell? w _ hx260_0)).trans hx260_0
          replace p260 := eq_true p260
          replace q260 := eq_true q260
          go_wp2_with (first | ((with_reducible refine gate_builtin (b := .append) (xs := #[.tmp 19, .tmp 21]) rfl ?_); at_builtin; refine Kd.R_append (Kd.int .i64) (w0 := w) w.heap.size rfl (.tmp 19) (.tmp 21) 75 3 (.int .i64 0) 8 rfl Tryd.underlying75 info3 rfl (by decide) (by omega) u5 x5_1 x13_1 [.int .i64 x13_1] (fun _ => True) (fun _ => False) rfl rfl ?aP (fun _ hk => hk.elim) ?aF ?aO ?aB ?aS ?aL ?_; (case aP => exact rfl); (case aB => exact hB); (case aF => exact (fun _ _ => trivial)); (case aO => exact (rU HO_5)); (case aS => exact (below_size hB)); (case aL => have := LMc10.out; omega); intro v262 w11 ho hb hg hat; rw [← Ny261.out] at ho; have HO263 := Aside0.mk (ho); replace HB := Aside0.mk (hb); clear HO_5; clear ho hb hg hat))
          go_roundg k1
          case measure => have := HK1.out; omega
          case rel => exact ⟨(y261), (wrap64 (x13_1 + 1)), (by first | rfl | (simp; done) | (simp [*]; done)), H', ⟨by have := HK1.out; omega⟩, ⟨rU HO263⟩, ⟨hB⟩⟩
         ·rw [if_neg c10] at H
          exact absurd H (by simp)
        ·replace c9 := Bool.eq_false_iff.mpr c9
         subst c9
         rw [if_neg (show ¬ (false = true) by decide)] at H
         have H' := Aside0.mk H
         clear H
         have p260 : 0 ≤ (x13_1 : Int) := of_decide_eq_true (by first | (with_reducible assumption) | assumption)
         have q260 : x13_1 < ((rd_L7 l0 a1).length : Int) := of_decide_eq_true (by first | (with_reducible assumption) | assumption)
         obtain ⟨ad260, e260, hx260_0⟩ := Kd.at_bool HR259_0.out x13_1 p260 q260
         (try rw [← Nbq8.out] at hx260_0)
         cases e260
         replace hx260_0 := (HB.out.cell (World.block_lt_of_cell? w _ hx260_0)).trans hx260_0
         replace p260 := eq_true p260
         replace q260 := eq_true q260
         go_wp2
         go_roundg k1
         case measure => have := HK1.out; omega
         case rel => exact ⟨(x5_1), (wrap64 (x13_1 + 1)), (by first | rfl | (simp; done) | (simp [*]; done)), H', ⟨by have := HK1.out; omega⟩, ⟨rU HO_5⟩, ⟨hB⟩⟩
       ·rw [if_neg c7] at H
        exact absurd H (by simp)
      ·rw [if_neg c6] at H
       exact absurd H (by simp)
     ·rw [if_neg c5] at H
      have c5b0 : decide (x13_1 < ((rd_L7 l0 a1).length : Int)) = false := decide_eq_false c5
      clear c5
      obtain rfl := Option.some.inj H
      go_wp2
      go_ret
      exact ⟨_, by first | rfl | (simp [errW_none, errW_some] <;> rfl) | (simp [*, errW_none, errW_some] <;> rfl), rU HO_5, hB⟩
  ·rw [if_neg c4] at H
   exact absurd H (by simp)
 ·rw [if_neg c3] at H
  exact absurd H (by simp)

end Go.Proofs.YtjpfbkkikcpmhaaDoor.PFnExactSolutions
