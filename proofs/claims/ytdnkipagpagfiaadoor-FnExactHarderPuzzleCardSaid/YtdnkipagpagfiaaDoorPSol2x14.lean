-- Of this session's own program wip/gen/gen.py (it drives the kit's print): contracts of the functions that the law reaches.
import Derived.Test.YtdnkipagpagfiaaDoorPSol2x0
namespace Go.Proofs.YtdnkipagpagfiaaDoor.PSol2
open Go.RowKit Go.Proofs.YtdnkipagpagfiaaDoorW.PrintWords Go.Proofs.YtdnkipagpagfiaaDoorW.PrintLast Go.Proofs.YtdnkipagpagfiaaDoorW.PrintMore Go.Proofs.YtdnkipagpagfiaaDoor.Base
attribute [local go_sem] max2_int min2_int max_two min_two max_three min_three max_four min_four   -- for this text's walks alone
set_option linter.unusedVariables false
set_option linter.unusedSimpArgs false

/-! ### impl_Clue_92: function 92 (a text of this session's own) -/


def impl_Clue_92.f (l0 : List (S30)) : Option (List (S30)) := if l0.length < 5864062014805 then some l0 else none
set_option maxHeartbeats 8000000 in
set_option maxRecDepth 100000 in
theorem impl_Clue_92.calls (A0 : Option Addr) (c0 : Nat) (l0 : List (S30)) (r : List (S30)) (w : World) (hr0 : Kd.C k30 w A0 l0.length l0) (hc0 : l0.length ≤ c0) (h : impl_Clue_92.f l0 = some r) :
    Calls Tryd.prog 92 #[.slice A0 l0.length c0] w fun e w' => ∃ v0_ : Value, e = .returned (v0_) ∧ Kd.R k30 30 w' w.heap.size (fun _ => True) v0_ r ∧ Below w.heap.size w w' := by
  unfold impl_Clue_92.f at h
  by_cases c2 : l0.length < 5864062014805
  · rw [if_pos c2] at h
    obtain rfl := Option.some.inj h
    have heq := fun (w : World) (n : Nat) => Go.Lib.run_eql_slice_nil (P := Tryd.prog) w 38 30 A0 n c0 0 0 Tryd.underlying38
    cases A0 with
    | none =>
      obtain rfl : l0 = [] := by
        rcases l0 with _ | ⟨x, l⟩
        · rfl
        · obtain ⟨_, h, _⟩ := hr0.2.2 (by simp); cases h
      clear hr0 h c2
      go_enter Tryd.func92, Tryd.ntmps92
      go_wp2
      go_ret
      exact ⟨_, rfl, Kd.R_nil _ _ _ _ _, Below.refl _ _⟩
    | some ad =>
      have HR0 := Aside0.mk hr0
      have LM := Aside0.mk c2
      have HB := Aside0.mk (Below.refl w.heap.size w)
      have NL := Aside0.mk (List.nil_append l0)
      clear hr0 hc0 h c2
      go_enter Tryd.func92, Tryd.ntmps92
      go_wp2_with (first | ((with_reducible refine gate_dst (N := 5) rfl ?_); refine Kd.R_lit k30 _ 30 ?hg (N := 5) ?hd (xs := ([] : List (S30))) (inner := []) (ok := fun _ => True) (okp := fun _ => True) ?hr ?hp (fun _ hk => hk) trivial (Below.refl _ _) (Nat.le_refl _) (by simp) ?_; (case hd => rfl); (case hg => rfl); (case hr => first | (go_simp; done) | (go_simp; rfl)); (case hp => exact (Reps.none _ _)); intro v132 w3 ho4 hb hg_ hnew_; clear hg_ hnew_; have n0_ := Aside0.mk (Kd.R_lower ho4 (below_size (by repeat (first | (with_reducible first | exact HB.out | apply below_alloc | apply pw_below_drewN | apply below_drew1) | exact HB.out)))); have n1_ := Aside0.mk (below_step (by repeat (first | (with_reducible first | exact HB.out | apply below_alloc | apply pw_below_drewN | apply below_drew1) | exact HB.out)) hb); clear HB; have HO133 := n0_; have HB := n1_; clear n0_ n1_; clear hb ho4) | ((with_reducible refine gate_builtin (b := .append) (xs := #[.tmp 5, .tmp 6]) rfl ?_); at_builtin; refine Kd.R_append_rows k30 (Rr := k30.K w3) (w0 := w) w.heap.size rfl (.tmp 5) (.tmp 6) 38 30 (.agg #[(.int .i64 0), (.int .i64 0), (.int .i64 0)]) 24 rfl Tryd.underlying38 info30 rfl (by decide) (by omega) v132 [] l0 _ _ _ (fun _ => True) (fun _ => False) rfl rfl ?aO ?aR ?aK (fun _ h => h.elim) ?aF ?aB ?aS ?aL ?_; (case aR => repeat (first | exact (Kd.C_below HR0.out HB.out) | (with_reducible refine Kd.C_alloc ?_ _) | (with_reducible refine Kd.C_drewN ?_ _) | (with_reducible refine Kd.C_drew ?_))); (case aK => intro x cs h; obtain rfl := k30_open h; exact k30_mkM _ _ _ x); (case aB => exact (by repeat (first | (with_reducible first | exact HB.out | apply below_alloc | apply pw_below_drewN | apply below_drew1) | exact HB.out))); (case aF => exact (fun _ _ => trivial)); (case aO => exact (by (with_reducible repeat (first | apply Kd.R_alloc | apply Kd.R_drewN | apply Kd.R_drew)); exact HO133.out)); (case aS => exact (below_size (by repeat (first | (with_reducible first | exact HB.out | apply below_alloc | apply pw_below_drewN | apply below_drew1) | exact HB.out)))); (case aL => have := LM.out; simp only [List.length_nil]; omega); intro v135 w5 ho hb hg hat; rw [NL.out] at ho; have n0_ := Aside0.mk (hb); have n1_ := Aside0.mk (ho); clear HB; clear HO133; have HB := n0_; have HO136 := n1_; clear n0_ n1_; clear ho hb hg hat))
      go_ret
      exact ⟨_, rfl, by (with_reducible repeat (first | apply Kd.R_alloc | apply Kd.R_drewN | apply Kd.R_drew)); exact HO136.out, by repeat (first | (with_reducible first | exact HB.out | apply below_alloc | apply pw_below_drewN | apply below_drew1) | exact HB.out)⟩
  · rw [if_neg c2] at h; cases h

/-! ### impl_Clue_118: function 118 (a text of this session's own) -/

def impl_Clue_118.T5 : Bool × List (List Nat × List Nat) := (true, [([], []), ([], []), ([0, 1], [0, 1]), ([], []), ([], []), ([3, 4], [3, 4]), ([2, 5], [2, 5]), ([6, 6, 0, 1, 2, 3, 4, 5, 6], [0, 3, 6])])
def impl_Clue_118.B5 : List Nat := [0, 0, 3, 0, 0, 24, 63, 127]
theorem impl_Clue_118.tab5 : rtab .any (opsOf Tryd.f118 5) = impl_Clue_118.T5 := by kernel_rfl
theorem impl_Clue_118.bits5 : waitsOk impl_Clue_118.T5.2 impl_Clue_118.B5 = true := by kernel_rfl
/-- What lies behind a row's end in its own block may turn. -/
theorem impl_Clue_118.tail1 {w : World} {base g n c j : Nat} {ok : Nat → Prop} {xs : List S30} {u : Value} (HO : Kd.R k30 30 w base ok (.slice (some ⟨g, 0, none⟩) n c) xs) (hj : n * 3 ≤ j) : Kd.R k30 30 (w.setCell ⟨g, j, none⟩ u) base ok (.slice (some ⟨g, 0, none⟩) n c) xs := by
  obtain ⟨hok, inner, ⟨hlen, hcase⟩, hr⟩ := HO
  rcases hcase with ⟨hv, _⟩ | ⟨g', cap, cur, hv, hb, hh, hnc, hcm, hcs, htake⟩
  · cases hv
  · injection hv with ha hn hc
    injection ha with ha
    injection ha with hg
    subst hg; subst hc; subst hn
    refine ⟨hok, inner, ⟨hlen, .inr ⟨g, c, cur.setIfInBounds j u, rfl, hb, blk_set hh j u, hnc, hcm, by simp [hcs], ?_⟩⟩, hr.imp_ (fun x cs hM => by obtain rfl := k30_openM hM; exact k30_mkM _ _ _ x)⟩
    rw [← htake, Array.toList_setIfInBounds, List.take_set_of_le (show xs.length * k30.sz ≤ j from hj)]
theorem impl_Clue_118.block {w : World} {base g n c : Nat} {ok : Nat → Prop} {xs : List S30} (HO : Kd.R k30 30 w base ok (.slice (some ⟨g, 0, none⟩) n c) xs) : ∃ cur, w.heap[g]? = some (.cells cur 30 (0, 0)) ∧ cur.size = c * 3 := by
  obtain ⟨hok, inner, ⟨hlen, hcase⟩, hr⟩ := HO
  rcases hcase with ⟨hv, _⟩ | ⟨g', cap, cur, hv, hb, hh, hnc, hcm, hcs, htake⟩
  · cases hv
  · injection hv with ha hn hc
    injection ha with ha
    injection ha with hg
    subst hg; subst hc; subst hn
    exact ⟨cur, hh, hcs⟩
theorem impl_Clue_118.clear {w : World} {g m c' : Nat} {cur : Array Value} (hh : w.heap[g]? = some (.cells cur 30 (0, 0))) (hs : m * 3 + 3 ≤ cur.size) :
    (Builtin.clear_ #[38] 0 #[.slice (some ⟨g, m * 3, none⟩) 1 c']).run Tryd.prog w = .ok (.tuple #[]) (((w.setCell ⟨g, m * 3, none⟩ (.int .i64 0)).setCell ⟨g, m * 3 + 1, none⟩ (.int .i64 0)).setCell ⟨g, m * 3 + 1 + 1, none⟩ (.int .i64 0)) := by
  have hst := run_storeCells_cells (P := Tryd.prog) g (m * 3) [.int .i64 0, .int .i64 0, .int .i64 0] 0 w (by
    intro j hj
    simp only [List.length_cons, List.length_nil] at hj
    have : m * 3 + 0 + j < cur.size := by omega
    simp only [Nat.add_zero] at this
    simp [World.cell?, hh, this]) (by
    intro j hj
    simp [World.frozen?, hh]) (by
    intro v hv
    simp only [List.mem_cons, List.not_mem_nil, or_false, or_self] at hv
    subst hv; rfl)
  simp only [Nat.add_zero] at hst
  have hz : ∀ w, (zeroValue 30).run Tryd.prog w = .ok (.agg #[.int .i64 0, .int .i64 0, .int .i64 0]) w := by
    intro w
    first | (simp [zeroValue]; done) | go_simp | (simp [zeroValue, Program.info?]; trace_state; sorry)
  simp [Builtin.clear_, run_underlying Tryd.underlying38, hz, hst]
  rw [show (Builtin.zeroCells (Value.agg #[Value.int IntKind.i64 0, Value.int IntKind.i64 0, Value.int IntKind.i64 0]).cells 1).toList = [.int .i64 0, .int .i64 0, .int .i64 0] from by kernel_rfl, hst]
  rfl
set_option maxHeartbeats 4000000 in
set_option maxRecDepth 100000 in
theorem impl_Clue_118.calls (base : Nat) (ok : Nat → Prop) (v : Value) (xs : List S30) (i j : Int) (w : World) (HO : Kd.R k30 30 w base ok v xs) (hbase : base ≤ w.heap.size) (h0 : 0 ≤ i) (h1 : i < xs.length) (hj : j = i + 1) :
    Calls Tryd.prog 118 #[v, .int .i64 i, .int .i64 j] w fun e w' => ∃ v0_ : Value, e = .returned (v0_) ∧ Kd.R k30 30 w' base ok v0_ (xs.eraseIdx i.toNat) ∧ Below base w w' := by
  obtain ⟨g, c, rfl, hgb, hgl, hcl⟩ := Kd.R_form HO (by omega)
  obtain ⟨hn, hnc, _⟩ := Kd.R_reads' HO
  obtain ⟨k, rfl⟩ := Int.eq_ofNat_of_zero_le h0
  subst hj
  obtain ⟨m, hm⟩ : ∃ m, xs.length = m + 1 := ⟨xs.length - 1, by omega⟩
  rw [hm] at HO hn hnc h1 ⊢
  have HO_ := Aside0.mk HO
  have HB := Aside0.mk (Below.refl base w)
  have d1 : decide ((0 : Int) ≤ (k : Int)) = true := decide_eq_true (by omega)
  have d2 : decide ((k : Int) ≤ (k : Int) + 1) = true := decide_eq_true (by omega)
  have d3 : decide ((k : Int) + 1 ≤ ((m + 1 : Nat) : Int)) = true := decide_eq_true (by omega)
  clear HO hn h0
  go_enter Tryd.func118, Tryd.ntmps118
  go_wp2
  have n0_ := Aside0.mk (Kd.R_drew HO_.out)
  have n1_ := Aside0.mk (below_drew1 HB.out)
  clear HO_ HB
  have HO_ := n0_
  have HB := n1_
  clear n0_ n1_
  have hgl2 : g < w.drew.heap.size := hgl
  have hb2 : base ≤ w.drew.heap.size := hbase
  refine start_ (n := 8) (S := fun _ => True) (ds := []) (bz 8 0) (by kernel_rfl) rfl rfl trivial (fun hHeld => ?_)
  refine with_tabW impl_Clue_118.tab5 impl_Clue_118.bits5 (fun HT_ HW_ => ?_)
  generalize w.drew = w1 at HO_ HB hgl2 hb2 hHeld ⊢
  obtain ⟨A, hA⟩ : ∃ A : Option Addr, A = if c = k + 1 then some ⟨g, 0, none⟩ else some ⟨g, (k + 1) * 3, none⟩ := ⟨_, rfl⟩
  refine run_ [(0, 0, 1, some 20), (0, 1, 3, some 21), (0, 2, 7, some 22), (0, 3, 15, some 23), (0, 4, 31, some 24), (0, 5, 63, some 25)] ?_
  apply tag0; refine run_p (v := ?_) (a' := ?_) rfl rfl (any_of HT_.out (by kernel_rfl)) (fun _ _ _ h => h) (by rfl) ?_ ?_ ?_; rotate_left 2; (intro w'; go_simp; with_reducible rfl); (first | (simp only [Act.put, List.setIfInBounds_toArray, List.set_cons_zero, List.set_cons_succ, i64_w, i32_w]; rfl) | rfl)
  apply tag0; refine run_p (v := ?_) (a' := ?_) rfl rfl (any_of HT_.out (by kernel_rfl)) (fun _ _ _ h => h) (by rfl) ?_ ?_ ?_; rotate_left 2; (intro w'; go_simp; with_reducible rfl); (first | (simp only [Act.put, List.setIfInBounds_toArray, List.set_cons_zero, List.set_cons_succ, i64_w, i32_w]; rfl) | rfl)
  apply tag0; refine run_p (v := ?_) (a' := ?_) rfl rfl (any_of HT_.out (by kernel_rfl)) (fun _ _ _ h => h) (by rfl) ?_ ?_ ?_; rotate_left 2; (intro w'; go_simp; rw [if_pos (by omega)]); (first | (simp only [Act.put, List.setIfInBounds_toArray, List.set_cons_zero, List.set_cons_succ, i64_w, i32_w]; rfl) | rfl)
  apply tag0; refine run_p (v := ?_) (a' := ?_) rfl rfl (any_of HT_.out (by kernel_rfl)) (fun _ _ _ h => h) (by rfl) ?_ ?_ ?_; rotate_left 2; (intro w'; go_simp; with_reducible rfl); (first | (simp only [Act.put, List.setIfInBounds_toArray, List.set_cons_zero, List.set_cons_succ, i64_w, i32_w]; rfl) | rfl)
  apply tag0; refine run_p (v := ?_) (a' := ?_) rfl rfl (any_of HT_.out (by kernel_rfl)) (fun _ _ _ h => h) (by rfl) ?_ ?_ ?_; rotate_left 2; (intro w'; go_simp; with_reducible rfl); (first | (simp only [Act.put, List.setIfInBounds_toArray, List.set_cons_zero, List.set_cons_succ, i64_w, i32_w]; rfl) | rfl)
  apply tag0; refine run_p (v := ?_) (a' := ?_) rfl rfl (any_of HT_.out (by kernel_rfl)) (fun _ _ _ h => h) (by rfl) ?_ ?_ ?_; rotate_left 2; (intro w'; go_simp; rw [if_pos ⟨by omega, by omega⟩, ← hA]); (first | (simp only [Act.put, List.setIfInBounds_toArray, List.set_cons_zero, List.set_cons_succ, i64_w, i32_w]; rfl) | rfl)
  refine run_nil ?_
  refine one_ (i := 6) (N := some 26) (bz 8 127) rfl rfl (one_of HT_.out (by kernel_rfl)) (by decide) (fun K hK => ?_)
  refine Kd.R_delete_step k30 (w0 := w) base (by rfl) (.tmp 22) (.tmp 25) 38 30 rfl Tryd.underlying38 (by kernel_rfl) (g := g) (n := m + 1) (c := c) (k := k) rfl rfl ?hA ?hm HO_.out ?hk HB.out hb2 ?_
  case hA =>
    rw [hA]
    split
    · rfl
    · simp only [Option.map_some, Addr.add, Nat.zero_add]; rfl
  case hm => omega
  case hk => omega
  intro w2 ho hb hg
  have HO_ := Aside0.mk ho
  have HB := Aside0.mk hb
  clear ho hb
  refine hK.out _ _ trivial (fun hHeld => ?_)
  clear hK K
  refine norm_ (a' := ?_) ?_ ?_
  rotate_left
  · show Act.put _ (some 26) _ = _
    simp only [Act.put, List.setIfInBounds_toArray, List.set_cons_zero, List.set_cons_succ, i64_w, i32_w]
    rfl
  refine run_ [(0, 7, 255, some 0)] ?_
  apply tag0; refine run_p (v := ?_) (a' := ?_) rfl rfl (any_of HT_.out (by kernel_rfl)) (fun _ _ _ h => h) (by rfl) ?_ ?_ ?_; rotate_left 2; (intro w'; go_simp; with_reducible rfl); (first | (simp only [Act.put, List.setIfInBounds_toArray, List.set_cons_zero, List.set_cons_succ, i64_w, i32_w]; rfl) | rfl)
  refine run_nil ?_
  refine done_ (done_of HT_.out (by kernel_rfl)) ?_
  obtain ⟨cur, hcur, hsz⟩ := impl_Clue_118.block HO_.out
  have hclr := impl_Clue_118.clear (m := m) (c' := c - m) hcur (by omega)
  go_wp2
  go_ret
  simp only [Int.toNat_natCast]
  exact ⟨_, rfl, impl_Clue_118.tail1 (impl_Clue_118.tail1 (impl_Clue_118.tail1 HO_.out (by omega)) (by omega)) (by omega), ((HB.out.setCell hgb _).setCell hgb _).setCell hgb _⟩

/-! ### impl_dropped: function 91 (a text of this session's own) -/
def impl_dropped.f (l0 : List S30) (a1 : Int) : Option (List S30) := if l0.length < 5864062014805 ∧ 0 ≤ a1 ∧ a1 < l0.length then some (l0.eraseIdx a1.toNat) else none
theorem impl_dropped.calls (A0 : Option Addr) (c0 : Nat) (l0 : List S30) (a1 : Int) (r : List S30) (w : World) (hr0 : Kd.C k30 w A0 l0.length l0) (hc0 : l0.length ≤ c0) (h : impl_dropped.f l0 a1 = some r) :
    Calls Tryd.prog 91 #[.slice A0 l0.length c0, .int .i64 a1] w fun e w' => ∃ v0_ : Value, e = .returned (v0_) ∧ Kd.R k30 30 w' w.heap.size (fun _ => True) v0_ r ∧ Below w.heap.size w w' := by
  unfold impl_dropped.f at h
  by_cases c2 : l0.length < 5864062014805 ∧ 0 ≤ a1 ∧ a1 < l0.length
  · rw [if_pos c2] at h
    obtain rfl := Option.some.inj h
    obtain ⟨g1, g2, g3⟩ := c2
    have hf : impl_Clue_92.f l0 = some l0 := by unfold impl_Clue_92.f; rw [if_pos g1]
    have HC := Aside0.mk (impl_Clue_92.calls A0 c0 l0 l0 w hr0 hc0 hf)
    have G := Aside0.mk (And.intro g1 (And.intro g2 g3))
    clear hr0 hc0 hf h g1 g2 g3
    go_enter Tryd.func91, Tryd.ntmps91
    go_wp2_with (first | (go_at_call 92; refine HC.out.mono ?_; rintro e w1 ⟨v1, rfl, ho, hb⟩; have HO := Aside0.mk ho; have HB := Aside0.mk hb; clear ho hb HC) | (go_at_call 118; refine (impl_Clue_118.calls w.heap.size _ v1 l0 a1 _ _ HO.out (below_size HB.out) G.out.2.1 G.out.2.2 (by have g := G.out; first | rfl | exact wrap_id (by omega) (by omega) | (simp only [i64_w]; exact wrap_id (by omega) (by omega)))).mono ?_; rintro e w2 ⟨v2, rfl, ho, hb⟩; have HO2 := Aside0.mk ho; have HB2 := Aside0.mk (HB.out.trans hb); clear ho hb))
    go_ret
    exact ⟨_, rfl, HO2.out, HB2.out⟩
  · rw [if_neg c2] at h; cases h

end Go.Proofs.YtdnkipagpagfiaaDoor.PSol2
