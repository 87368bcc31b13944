-- Of this session's own program wip/gen/gen.py (it drives the kit's print): contracts of the functions that the law reaches.
import Derived.Test.YtbjmkkgejekpnaaDoorPFnThreesCountedx0
import Derived.Test.YtbjmkkgejekpnaaDoorPFnThreesCountedx3
import Derived.Test.YtbjmkkgejekpnaaDoorPFnThreesCountedx4
import Derived.Test.YtbjmkkgejekpnaaDoorPFnThreesCountedx7
import Derived.Test.YtbjmkkgejekpnaaDoorPFnThreesCountedx8
namespace Go.Proofs.YtbjmkkgejekpnaaDoor.PFnThreesCounted
open Go.RowKit Go.Proofs.YtbjmkkgejekpnaaDoorW.PrintWords Go.Proofs.YtbjmkkgejekpnaaDoorW.PrintLast Go.Proofs.YtbjmkkgejekpnaaDoorW.PrintMore Go.Proofs.YtbjmkkgejekpnaaDoor.Base
attribute [local go_sem] max2_int min2_int max_two min_two max_three min_three max_four min_four   -- for this text's walks alone
set_option linter.unusedVariables false
set_option linter.unusedSimpArgs false
set_option maxHeartbeats 8000000
set_option maxRecDepth 100000

/-! ### impl_table_groups: function 112 (a text of this session's own) -/

def impl_CountGroups_1.ga.T3 : Bool × List (List Nat × List Nat) := (true, [([], []), ([], []), ([], []), ([2], [2]), ([3], [3]), ([4], [4]), ([0, 1, 5], [0, 1, 5])])
def impl_CountGroups_1.ga.B3 : List Nat := [0, 0, 0, 4, 12, 28, 63]
theorem impl_CountGroups_1.ga.tab3 : rtab .any (opsOf Tryd.f112 3) = impl_CountGroups_1.ga.T3 := by kernel_rfl
theorem impl_CountGroups_1.ga.bits3 : waitsOk impl_CountGroups_1.ga.T3.2 impl_CountGroups_1.ga.B3 = true := by kernel_rfl
def impl_CountGroups_1.ga.f (z : Int) (k : Nat) (t : List Int) : Option Int := impl_CountGroups_1.gs.f z k t [] (IntKind.u16.wrap (shl .u16 1 (t.length : Int) - 1)) 0
theorem impl_CountGroups_1.ga.mono (z : Int) : ∀ a0 k, LeO (impl_CountGroups_1.ga.f z k a0) (impl_CountGroups_1.ga.f z (k + 1) a0) := fun a0 k => (impl_CountGroups_1.gs.mono_l z k).2 _ _ _ _
set_option maxHeartbeats 8000000 in
set_option maxRecDepth 100000 in
theorem impl_CountGroups_1.ga.calls (k : Nat) (t : List Int) (At : Option Addr) (ct b b2 : Nat) (z : Int) (r : Int) (w : World) (base : Nat)
    (hbt : w.cell? ⟨b2, 0, none⟩ = some (.int .i64 z)) (hts : Kd.F (Kd.int .u16) w (fun k => k ≠ b) At t.length t) (hct : t.length ≤ ct)
    (hS : impl_CountGroups_1.St w base b w 0) (hbase : base ≤ w.heap.size) (hG : GTab 0 w) (hlt : b2 < base ∧ 0 < base ∧ base ≤ b) (h : impl_CountGroups_1.ga.f z k t = some r) :
    Calls Tryd.prog 112 #[.slice At t.length ct, (.func (.func 113) #[] #[.pointer (some ⟨b, 0, none⟩), .pointer (some ⟨b2, 0, none⟩)])] w fun e w' => e = .returned (.tuple #[]) ∧ impl_CountGroups_1.St w base b w' r := by
  have HBT := Aside0.mk hbt
  have HTS := Aside0.mk hts
  have HS := Aside0.mk hS
  have HG := Aside0.mk hG
  have HL := Aside0.mk hlt
  have HF := Aside0.mk h
  have HB := Aside0.mk (Below.refl w.heap.size w)
  have LB := Aside0.mk (show b < w.heap.size from blk_lt hS.box)
  have hst := fun (a : Addr) (fn : Fn) (x y : Array Value) (m : Mode) (w : World) => run_store Tryd.prog w a (.func fn x y) m rfl
  clear hbt hts hS hG hlt h
  go_enter Tryd.func112, Tryd.ntmps112
  go_wp2_with (first
    | ((with_reducible refine gate_dst (N := 2) rfl ?_); refine bxE 2 #[.slice At t.length ct] 94 rfl ?_; intro bt hg w2 hbox hb; have BKt := Aside0.mk hbox; have NBt := Aside0.mk (show b ≠ bt from by have := LB.out; omega); have GEt := gS HB hg; replace HB := hS HB hb; clear hg hbox hb)
    | ((with_reducible refine gate_dst (N := 3) rfl ?_); refine bxE 3 #[(.func (.func 113) #[] #[.pointer (some ⟨b, 0, none⟩), .pointer (some ⟨b2, 0, none⟩)])] 104 rfl ?_; intro be hg w3 hbox hb; have BKe := Aside0.mk hbox; have NBe := Aside0.mk (show b ≠ be from by have := LB.out; have := HB.out.size; omega); replace BKt := bS BKt hb; replace HB := hS HB hb; clear hg hbox hb)
    | ((with_reducible refine gate_dst (N := 4) rfl ?_); refine bxE 4 #[.nilFunc] 134 rfl ?_; intro ba hg w4 hbox hb; have BKa := Aside0.mk hbox; have NBa := Aside0.mk (show b ≠ ba from by have := LB.out; have := HB.out.size; omega); have NEa := nL BKe hg; have NTa := nL BKt hg; have GEa := gS HB hg; replace BKt := bS BKt hb; replace BKe := bS BKe hb; replace HB := hS HB hb; have ha0 := cz BKa 0; have ha1 := fz BKa 0; clear hg hbox hb))
  have BKa7 := Aside0.mk (blk_set BKa.out 0 (.func (.func 155) #[] #[.pointer (some ⟨be, 0, none⟩), .pointer (some ⟨ba, 0, none⟩), .pointer (some ⟨bt, 0, none⟩)]))
  have BKe7 := Aside0.mk (blk_far BKe.out (p := ⟨ba, 0, none⟩) NEa.out (.func (.func 155) #[] #[.pointer (some ⟨be, 0, none⟩), .pointer (some ⟨ba, 0, none⟩), .pointer (some ⟨bt, 0, none⟩)]))
  have BKt7 := Aside0.mk (blk_far BKt.out (p := ⟨ba, 0, none⟩) NTa.out (.func (.func 155) #[] #[.pointer (some ⟨be, 0, none⟩), .pointer (some ⟨ba, 0, none⟩), .pointer (some ⟨bt, 0, none⟩)]))
  have HB7 := Aside0.mk (below_set (j := 0) (v := (.func (.func 155) #[] #[.pointer (some ⟨be, 0, none⟩), .pointer (some ⟨ba, 0, none⟩), .pointer (some ⟨bt, 0, none⟩)])) HB.out GEa.out)
  clear ha0 ha1
  generalize w4.setCell ⟨ba, 0, none⟩ (.func (.func 155) #[] #[.pointer (some ⟨be, 0, none⟩), .pointer (some ⟨ba, 0, none⟩), .pointer (some ⟨bt, 0, none⟩)]) = w5 at BKa7 BKe7 BKt7 HB7 ⊢
  have SW := Aside0.mk (fun (W' : World) (hb : Below w5.heap.size w5 W') => (⟨pw_cell_below hb ((blk_cell BKa7.out 0).trans rfl), pw_cell_below hb ((blk_cell BKt7.out 0).trans rfl)⟩ : (fun w' : World => w'.cell? ⟨ba, 0, none⟩ = some (.func (.func 155) #[] #[.pointer (some ⟨be, 0, none⟩), .pointer (some ⟨ba, 0, none⟩), .pointer (some ⟨bt, 0, none⟩)]) ∧ w'.cell? ⟨bt, 0, none⟩ = some (.slice At t.length ct)) W'))
  have c0 : decide (0 ≤ (t.length : Int)) = true := by simp
  try go_wp2
  refine start_ (n := 7) (S := fun w' => w'.cell? ⟨ba, 0, none⟩ = some (.func (.func 155) #[] #[.pointer (some ⟨be, 0, none⟩), .pointer (some ⟨ba, 0, none⟩), .pointer (some ⟨bt, 0, none⟩)]) ∧ w'.cell? ⟨bt, 0, none⟩ = some (.slice At t.length ct)) (ds := [6]) (bz 7 0) (by kernel_rfl) rfl rfl (SW.out _ (by repeat (first | exact Below.refl _ _ | apply below_drew1 | apply pw_below_drewN))) (fun hHeld => ?_)
  refine with_tabW impl_CountGroups_1.ga.tab3 impl_CountGroups_1.ga.bits3 (fun HT_ HW_ => ?_)
  have HBd := Aside0.mk (show Below w5.heap.size w5 w5.drew from (by repeat (first | exact Below.refl _ _ | apply below_drew1 | apply pw_below_drewN)))
  generalize w5.drew = w6 at HBd hHeld ⊢
  obtain ⟨jt, hjt⟩ : ∃ j_ : Int, shl .u16 1 (t.length : Int) = j_ := ⟨_, rfl⟩
  have hjt_ : IntKind.u16.wrap (1 * 2 ^ min ((t.length : Int)).toNat 16) = jt := hjt
  have hjtz : (t.length : Int) ≤ 16 → IntKind.u16.wrap (1 * 2 ^ ((t.length : Int)).toNat) = jt := shl_small hjt
  have hjtu : IntKind.u16.wrap (2 ^ min ((t.length : Int)).toNat 16) = jt := by have h_ := hjt_; rw [Int.one_mul] at h_; exact h_
  have hjtv : (t.length : Int) ≤ 16 → IntKind.u16.wrap (2 ^ ((t.length : Int)).toNat) = jt := fun hle_ => by have h_ := hjtz hle_; rw [Int.one_mul] at h_; exact h_
  have hjtw : IntKind.u16.wrap (2 ^ min t.length 16) = jt := by have h_ := hjtu; rwa [Int.toNat_natCast] at h_
  have hjtx : IntKind.u16.wrap (1 * 2 ^ min t.length 16) = jt := by rw [Int.one_mul]; exact hjtw
  refine run_ [(1, 0, 1, some 6), (1, 2, 5, some 8), (0, 3, 13, some 9), (0, 4, 29, some 10), (0, 5, 61, some 11)] ?_
  repeat (first | (apply tag0; refine run_p (v := ?_) (a' := ?_) rfl rfl (any_of HT_.out (by kernel_rfl)) (fun _ _ _ h => h) (by rfl) ?_ ?_ ?_; rotate_left 2; (intro w'; go_simp; with_reducible rfl); (first | (simp only [Act.put, List.setIfInBounds_toArray, List.set_cons_zero, List.set_cons_succ, i64_w, i32_w]; rfl) | rfl)) | (apply tag1; refine run_t (v := ?_) (a' := ?_) rfl rfl (take_ofW HT_.out HW_.out (by kernel_rfl)) (fun _ _ _ h => h) (by rfl) ?_ hHeld ?_ ?_; rotate_left 2; (rintro w' ⟨s0, s1⟩; go_simp; with_reducible rfl); (first | (simp only [Act.put, List.setIfInBounds_toArray, List.set_cons_zero, List.set_cons_succ, i64_w, i32_w]; rfl) | rfl)))
  refine run_nil ?_
  refine one_ (i := 1) (N := some 7) (bz 7 63) rfl rfl (one_of HT_.out (by kernel_rfl)) (by decide) (fun K hK => ?_)
  refine Kd.R_lit_step (Kd.int .i64) (w0 := w5) w5.heap.size 3 (by rfl) (N := 7) rfl (xs := ([] : List Int)) (inner := []) (ok := fun _ => True) (okp := fun _ => False) ?hr ?hp (fun _ h => h.elim) trivial HBd.out (below_size HBd.out) (by simp) ?_
  case hr => first | (go_simp; done) | (go_simp; rfl)
  case hp => exact Reps.none _ _
  intro v7 w7 ho hb hg hnew
  obtain ⟨A7, c7, e7⟩ := Kd.R_slice ho
  rw [List.length_nil] at e7
  subst e7
  have HO7 := Aside0.mk ho
  have H57 := Aside0.mk hb
  refine hK.out _ _ (SW.out _ H57.out) (fun hHeld2 => ?_)
  clear hK K ho hb hg hnew
  refine norm_ (a' := ?_) ?_ ?_
  rotate_left
  · show Act.put _ (some 7) _ = _
    simp only [Act.put, List.setIfInBounds_toArray, List.set_cons_zero, List.set_cons_succ, i64_w, i32_w]
    rfl
  have HBw := Aside0.mk (below_step HB7.out H57.out)
  have S7 := Aside0.mk (HS.out.later hbase HBw.out)
  have B7 := Aside0.mk (Nat.le_trans hbase HBw.out.size)
  have HX7 := Aside0.mk (⟨blk_below BKe7.out H57.out, blk_below BKa7.out H57.out, blk_below BKt7.out H57.out, pw_cell_below HBw.out HBT.out, Kd.F_below HTS.out HBw.out, hct, GTab.up HG.out HBw.out, ⟨HL.out.1, HL.out.2.1, Ne.symm NBe.out, Ne.symm NBa.out, Ne.symm NBt.out, HL.out.2.2⟩⟩ : impl_CountGroups_1.gs.Bx w7 base b z b2 t At ct be ba bt)
  refine last_ (i := 6) (N := some 12) (bz 7 127) rfl rfl (one_of HT_.out (by kernel_rfl)) (by decide) (fun K hK => ?_)
  refine call_ 155 #[.slice A7 0 c7, .int .u16 (IntKind.u16.wrap (jt - 1)), .pointer (some ⟨be, 0, none⟩), .pointer (some ⟨ba, 0, none⟩), .pointer (some ⟨bt, 0, none⟩)] (by rfl) rfl ?_ ?_
  · have he := fun W_ => enters_ Tryd.func155 (by kernel_rfl) rfl #[.slice A7 0 c7, .int .u16 (IntKind.u16.wrap (jt - 1)), .pointer (some ⟨be, 0, none⟩), .pointer (some ⟨ba, 0, none⟩), .pointer (some ⟨bt, 0, none⟩)] W_
    unfold execOp
    simp [resolve, Deferred.ofValue, invoke, Act.eval, he]
  have HF2 := HF.out
  unfold impl_CountGroups_1.ga.f at HF2
  rw [hjt] at HF2
  refine (impl_CountGroups_1.gs.calls k t At ct be ba bt A7 c7 [] _ b z b2 0 r w7 base HX7.out (Kd.R_lower (Kd.R_mono (Kd.R_bound HO7.out) (fun k_ hk => (by have := LB.out; have := HB7.out.size; exact ⟨by have := hk.2.1; omega, by have := hk.2.1; have := hbase; omega⟩))) (Nat.le_trans hbase HB7.out.size)) S7.out.self B7.out HF2).mono ?_
  rintro e w8 ⟨rfl, s8⟩
  refine ⟨_, rfl, ?_⟩
  have S8 := Aside0.mk (S7.out.trans s8)
  refine hK.out _ _ ?_
  clear hK K s8
  refine done_ (done_of HT_.out (by kernel_rfl)) ?_
  (try go_wp2)
  first | go_end0 | ((try simp only [Exit.inBlock, Exit.then]); refine bodyPost_ret (results_none rfl _ _ _) rfl ?_)
  exact ⟨rfl, S8.out⟩

/-! ### impl_CountGroups: function 45 (a text of this session's own) -/

def impl_CountGroups.f (k : Nat) (a0_0 : Int) (l0_1 : List (S43)) (a1 : Int) : Option (Int × Bool) := (impl_IsParty.f k a0_0 l0_1).bind fun b => if b = true then ((impl_areCrowd.f a1).bind fun c => if c = true then ((impl_Party_table.f k a0_0 l0_1).bind fun t => (impl_CountGroups_1.ga.f a1 k t).bind fun n => some (n, true)) else some (0, false)) else some (0, false)
theorem impl_CountGroups.mono : ∀ a0_0 l0_1 a1 k, LeO (impl_CountGroups.f k a0_0 l0_1 a1) (impl_CountGroups.f (k + 1) a0_0 l0_1 a1) := by
  intro a0_0 l0_1 a1 k
  unfold impl_CountGroups.f
  repeat' first
    | (with_reducible exact impl_IsParty.mono _ _ _)
    | (with_reducible exact impl_Party_table.mono _ _ _)
    | (with_reducible exact impl_CountGroups_1.ga.mono _ _ _)
    | (with_reducible exact LeO.refl _)
    | (with_reducible refine LeO.ite ?_ ?_)
    | (with_reducible refine LeO.bind ?_ (fun _ => ?_))
set_option maxHeartbeats 8000000 in
set_option maxRecDepth 100000 in
theorem impl_CountGroups.calls (k : Nat) (a0_0 : Int) (A0_1 : Option Addr) (c0_1 : Nat) (l0_1 : List (S43)) (a1 : Int) (r1 : Int) (r2 : Bool) (w : World) (hr0_1 : Kd.C k43 w A0_1 l0_1.length l0_1) (hc0_1 : l0_1.length ≤ c0_1) (h : impl_CountGroups.f k a0_0 l0_1 a1 = some (r1, r2)) (hG : GTab 0 w := by first | exact Aside0.out ‹Aside0 (GTab _ _)› | exact GTab.up (Aside0.out ‹Aside0 (GTab _ _)›) (by repeat (first | (with_reducible first | exact Below.refl _ _ | exact Aside0.out ‹Aside0 (Below _ _ _)› | apply below_alloc | apply pw_below_drewN | apply below_drew1 | refine below_set ?_ (Aside0.out (by assumption))) | exact Aside0.out ‹Aside0 (Below _ _ _)›))) :
    Calls Tryd.prog 45 #[.agg #[.int .i64 a0_0, .slice A0_1 l0_1.length c0_1], .int .i64 a1] w fun e w' => e = .returned (.tuple #[.int .i64 r1, .bool r2]) ∧ Below w.heap.size w w' := by
  have hu := Tryd.underlying52
  have HR := Aside0.mk hr0_1
  have HG := Aside0.mk (p := GTab _ _) hG
  have LG := Aside0.mk (show 0 < w.heap.size from World.block_lt_of_cell? w _ (hG 0 (by decide)))
  have HB := Aside0.mk (Below.refl w.heap.size w)
  unfold impl_CountGroups.f at h
  clear hr0_1 hG
  cases hb : impl_IsParty.f k a0_0 l0_1 with
  | none => rw [hb] at h; cases h
  | some bp =>
    rw [hb, Option.bind_some] at h
    have HI := Aside0.mk hb
    clear hb
    cases bp with
    | false =>
      rw [if_neg (by decide)] at h
      obtain ⟨rfl, rfl⟩ : 0 = r1 ∧ false = r2 := by have e := Option.some.inj h; exact ⟨congrArg (·.1) e, congrArg (·.2) e⟩
      clear h
      go_enter Tryd.func45, Tryd.ntmps45
      go_wp2_with (first 
        | ((with_reducible refine gate_dst (N := 2) rfl ?_); refine bxE 2 #[.int .i64 a0_0, .slice A0_1 l0_1.length c0_1] 52 rfl ?_; intro g2 hg w2 hbox hb; have BK2 := Aside0.mk hbox; replace HB := hS HB hb; have h20 := cz BK2 0; have h21 := cz BK2 1; clear hg hbox hb)
        | ((with_reducible refine gate_dst (N := 3) rfl ?_); refine bxE 3 #[.int .i64 a1] 3 rfl ?_; intro g3 hg w3 hbox hb; have BK3 := Aside0.mk hbox; have L3 := Aside0.mk (blk_lt hbox); have H34 := Aside0.mk (Below.refl w3.heap.size w3); replace BK2 := bS BK2 hb; replace HB := hS HB hb; have H03 := HB; clear hg hbox hb h20 h21; have h20 := cz BK2 0; have h21 := cz BK2 1; have h30 := cz BK3 0) 
        | (go_at_call 43; refine (impl_IsParty.calls k a0_0 A0_1 c0_1 l0_1 _ _ (Kd.C_below HR.out hB) hc0_1 HI.out).mono ?_; rintro e w4 ⟨rfl, hb⟩; replace H34 := Aside0.mk (below_step H34.out hb); replace BK2 := bS BK2 hb; replace BK3 := bS BK3 hb; replace HB := hS HB hb; clear hb h20 h21 h30; have h20 := cz BK2 0; have h21 := cz BK2 1; have h30 := cz BK3 0))
      go_ret2
      exact ⟨rfl, hB⟩
    | true =>
      rw [if_pos rfl] at h
      cases hc : impl_areCrowd.f a1 with
      | none => rw [hc] at h; cases h
      | some c =>
        rw [hc, Option.bind_some] at h
        have HC := Aside0.mk hc
        clear hc
        cases c with
        | false =>
          rw [if_neg (by decide)] at h
          obtain ⟨rfl, rfl⟩ : 0 = r1 ∧ false = r2 := by have e := Option.some.inj h; exact ⟨congrArg (·.1) e, congrArg (·.2) e⟩
          clear h
          go_enter Tryd.func45, Tryd.ntmps45
          go_wp2_with (first 
        | ((with_reducible refine gate_dst (N := 2) rfl ?_); refine bxE 2 #[.int .i64 a0_0, .slice A0_1 l0_1.length c0_1] 52 rfl ?_; intro g2 hg w2 hbox hb; have BK2 := Aside0.mk hbox; replace HB := hS HB hb; have h20 := cz BK2 0; have h21 := cz BK2 1; clear hg hbox hb)
        | ((with_reducible refine gate_dst (N := 3) rfl ?_); refine bxE 3 #[.int .i64 a1] 3 rfl ?_; intro g3 hg w3 hbox hb; have BK3 := Aside0.mk hbox; have L3 := Aside0.mk (blk_lt hbox); have H34 := Aside0.mk (Below.refl w3.heap.size w3); replace BK2 := bS BK2 hb; replace HB := hS HB hb; have H03 := HB; clear hg hbox hb h20 h21; have h20 := cz BK2 0; have h21 := cz BK2 1; have h30 := cz BK3 0) 
        | (go_at_call 43; refine (impl_IsParty.calls k a0_0 A0_1 c0_1 l0_1 _ _ (Kd.C_below HR.out hB) hc0_1 HI.out).mono ?_; rintro e w4 ⟨rfl, hb⟩; replace H34 := Aside0.mk (below_step H34.out hb); replace BK2 := bS BK2 hb; replace BK3 := bS BK3 hb; replace HB := hS HB hb; clear hb h20 h21 h30; have h20 := cz BK2 0; have h21 := cz BK2 1; have h30 := cz BK3 0) 
        | (go_at_call 110; refine (impl_areCrowd.calls a1 _ _ HC.out).mono ?_; rintro e w' ⟨rfl, ⟨m, rfl⟩⟩))
          go_ret2
          exact ⟨rfl, hB⟩
        | true =>
          rw [if_pos rfl] at h
          replace h := Option.bind_eq_some_iff.mp h
          obtain ⟨t, ht, h⟩ := h
          replace h := Option.bind_eq_some_iff.mp h
          obtain ⟨n, hn, h⟩ := h
          obtain ⟨rfl, rfl⟩ : n = r1 ∧ true = r2 := by have e := Option.some.inj h; exact ⟨congrArg (·.1) e, congrArg (·.2) e⟩
          have HT := Aside0.mk ht
          have HN := Aside0.mk hn
          clear h ht hn
          go_enter Tryd.func45, Tryd.ntmps45
          go_wp2_with (first 
        | ((with_reducible refine gate_dst (N := 2) rfl ?_); refine bxE 2 #[.int .i64 a0_0, .slice A0_1 l0_1.length c0_1] 52 rfl ?_; intro g2 hg w2 hbox hb; have BK2 := Aside0.mk hbox; replace HB := hS HB hb; have h20 := cz BK2 0; have h21 := cz BK2 1; clear hg hbox hb)
        | ((with_reducible refine gate_dst (N := 3) rfl ?_); refine bxE 3 #[.int .i64 a1] 3 rfl ?_; intro g3 hg w3 hbox hb; have BK3 := Aside0.mk hbox; have L3 := Aside0.mk (blk_lt hbox); have H34 := Aside0.mk (Below.refl w3.heap.size w3); replace BK2 := bS BK2 hb; replace HB := hS HB hb; have H03 := HB; clear hg hbox hb h20 h21; have h20 := cz BK2 0; have h21 := cz BK2 1; have h30 := cz BK3 0) 
        | (go_at_call 43; refine (impl_IsParty.calls k a0_0 A0_1 c0_1 l0_1 _ _ (Kd.C_below HR.out hB) hc0_1 HI.out).mono ?_; rintro e w4 ⟨rfl, hb⟩; replace H34 := Aside0.mk (below_step H34.out hb); replace BK2 := bS BK2 hb; replace BK3 := bS BK3 hb; replace HB := hS HB hb; clear hb h20 h21 h30; have h20 := cz BK2 0; have h21 := cz BK2 1; have h30 := cz BK3 0) 
        | (go_at_call 110; refine (impl_areCrowd.calls a1 _ _ HC.out).mono ?_; rintro e w' ⟨rfl, ⟨m, rfl⟩⟩)
            | ((with_reducible refine gate_dst (N := 6) rfl ?_); refine bxE 6 #[.int .i64 0] 3 rfl ?_; intro b hg w6 hbox hb; have BK6 := Aside0.mk hbox; have GE6 := gS HB hg; have NB26 := nL BK2 hg; have NB36 := nL BK3 hg; have L36 := Aside0.mk (show w3.heap.size ≤ b from by have := H34.out.size; rw [hg]; first | exact this | exact Nat.le_trans this (below_size (pw_below_drewN (Below.refl _ _) _))); replace H34 := Aside0.mk (below_step (by first | exact H34.out | exact pw_below_drewN H34.out _) hb); replace BK2 := bS BK2 hb; replace BK3 := bS BK3 hb; replace HB := hS HB hb; clear hg hbox hb h20 h21 h30; have h20 := cz BK2 0; have h21 := cz BK2 1; have h30 := cz BK3 0; have h60 := cz BK6 0; have f60 := fz BK6 0; have hn1 := NB26.out; have hn2 := Ne.symm NB26.out; have hn3 := NB36.out; have hn4 := Ne.symm NB36.out)
            | (go_at_call 97; have q6 : Below w.heap.size w (w6.setCell ⟨b, 0, none⟩ (.int .i64 0)) := below_set HB.out GE6.out; refine (impl_Party_table.calls k a0_0 A0_1 c0_1 l0_1 t _ (Kd.C_below HR.out q6) hc0_1 HT.out).mono ?_; rintro e w7 ⟨v7, rfl, ho, hb⟩; have HOt := Aside0.mk ho; have BKb := Aside0.mk (blk_below (blk_set BK6.out 0 (.int .i64 0)) hb); have BKz := Aside0.mk (blk_below (blk_far BK3.out (p := ⟨b, 0, none⟩) NB36.out (.int .i64 0)) hb); have LB := Aside0.mk (blk_lt (blk_set BK6.out 0 (.int .i64 0))); have Q37 := Aside0.mk (below_step (H34.out.setCell L36.out (.int .i64 0)) hb); replace HB := Aside0.mk (below_step q6 hb); clear ho hb q6 h20 h21 h30 h60 f60; obtain ⟨A7, c7, e7⟩ := Kd.R_slice HOt.out; subst e7)
            | (go_at_call 112; refine (impl_CountGroups_1.ga.calls k t A7 c7 b g3 a1 n w7 w3.heap.size ((blk_cell BKz.out 0).trans rfl) (Kd.F_mono (Kd.R_F (Kd.R_bound HOt.out)) (fun k_ hk => (by have := hk.2.1; have := LB.out; omega : k_ ≠ b))) (Kd.R_reads' HOt.out).2.1 ⟨BKb.out, Below.refl _ _, fun _ _ _ => rfl⟩ Q37.out.size (GTab.up HG.out HB.out) ⟨L3.out, Nat.lt_of_lt_of_le LG.out (below_size H03.out), L36.out⟩ HN.out).mono ?_; rintro e w8 ⟨rfl, s⟩; have BK8 := Aside0.mk s.box; have HB8 := Aside0.mk (HB.out.trans (s.below.mono (below_size H03.out))); clear s; have h80 := cz BK8 0))
          go_ret2
          exact ⟨rfl, by first | exact HB8.out | exact pw_below_drewN HB8.out _⟩

/-! ### slices_IndexFunc_int_int: function 168 (a text of this session's own) -/
theorem slices_IndexFunc_int_int.calls (A0 : Option Addr) (c0 : Nat) (l0 : List Int) (p : Int → Bool) (g : Nat) (lb : Array Value) (w : World) (eg : ∀ args w, (callFunc g args).run Tryd.prog w = .ok (.enter g args) w)
    (hr0 : Kd.C (Kd.int .i64) w A0 l0.length l0)
    (hp : ∀ (W : World) (x : Int), x ∈ l0 → Below w.heap.size w W → Calls Tryd.prog g (#[.int .i64 x] ++ lb) W fun e w' => e = .returned (.bool (p x)) ∧ Below w.heap.size w w') :
    Calls Tryd.prog 168 #[.slice A0 l0.length c0, .func (.func g) #[] lb] w fun e w' => (∃ n, e = .returned (.int .i64 n) ∧ decide (0 ≤ n) = l0.any p) ∧ Below w.heap.size w w' := by
  have HR0 := Aside0.mk hr0
  have hlen : l0.length ≤ 9223372036854775807 := hr0.2.1
  clear hr0
  go_enter Tryd.func168, Tryd.ntmps168
  go_wp2
  go_loopg [8] l0.length (fun gg s8 wr => ∃ kk : Nat, kk ≤ l0.length ∧ l0.length - kk ≤ gg ∧ s8 = .int .i64 kk ∧ Aside0 (Below w.heap.size w wr) ∧ Aside0 ((l0.take kk).any p = false))
  case atStart => exact ⟨0, Nat.zero_le _, by omega, rfl, ⟨Below.refl _ w⟩, ⟨by simp⟩⟩
  case round =>
    obtain ⟨kk, hkk, hg, rfl, BW, AN⟩ := hrel
    by_cases hlt : kk < l0.length
    · have hltz : (kk : Int) < (l0.length : Int) := by omega
      obtain ⟨ad, e, hx0⟩ := Kd.at_int HR0.out (kk : Int) (by omega) hltz
      cases e
      simp only [Int.toNat_natCast] at hx0
      replace hx0 := (BW.out.cell (World.block_lt_of_cell? w _ hx0)).trans hx0
      have hgetx : rd l0 kk = l0[kk] := by simp [rd, List.getD, hlt]
      have hcall := hp wr (rd l0 kk) (by rw [hgetx]; exact List.getElem_mem hlt) BW.out
      clear hp
      have hget : (l0.take (kk + 1)).any p = p (rd l0 kk) := by
        rw [hgetx, List.take_succ_eq_append_getElem hlt, List.any_append, AN.out]; simp
      have hany : (l0.take (kk + 1)).any p = true → l0.any p = true := fun h => by
        rw [List.any_eq_true] at h ⊢
        obtain ⟨x, hx, hpx⟩ := h
        exact ⟨x, List.mem_of_mem_take hx, hpx⟩
      have HG := Aside0.mk hget
      have HA := Aside0.mk hany
      clear hget hany hgetx AN
      cases hq : p (rd l0 kk) with
      | true =>
        rw [hq] at hcall HG
        go_wp2_with (go_at_fn g; refine hcall.mono ?_; rintro e w' ⟨rfl, hb'⟩)
        go_ret
        exact ⟨⟨_, rfl, by rw [HA.out HG.out]; simp⟩, hb'⟩
      | false =>
        rw [hq] at hcall HG
        go_wp2_with (go_at_fn g; refine hcall.mono ?_; rintro e w' ⟨rfl, hb'⟩)
        go_roundg (l0.length - (kk + 1))
        case measure => omega
        case rel => exact ⟨kk + 1, by omega, by omega, by go_num, ⟨hb'⟩, HG⟩
    · have hltz : ¬ (kk : Int) < (l0.length : Int) := by omega
      go_wp2
      go_ret
      have := AN.out
      rw [List.take_of_length_le (by omega)] at this
      exact ⟨⟨_, rfl, by rw [this]; decide⟩, BW.out⟩

/-! ### slices_ContainsFunc_int_int: function 144 (a text of this session's own) -/
theorem slices_ContainsFunc_int_int.calls (A0 : Option Addr) (c0 : Nat) (l0 : List Int) (p : Int → Bool) (g : Nat) (lb : Array Value) (w : World) (eg : ∀ args w, (callFunc g args).run Tryd.prog w = .ok (.enter g args) w)
    (hr0 : Kd.C (Kd.int .i64) w A0 l0.length l0)
    (hp : ∀ (W : World) (x : Int), x ∈ l0 → Below w.heap.size w W → Calls Tryd.prog g (#[.int .i64 x] ++ lb) W fun e w' => e = .returned (.bool (p x)) ∧ Below w.heap.size w w') :
    Calls Tryd.prog 144 #[.slice A0 l0.length c0, .func (.func g) #[] lb] w fun e w' => e = .returned (.bool (l0.any p)) ∧ Below w.heap.size w w' := by
  have HC := Aside0.mk (slices_IndexFunc_int_int.calls A0 c0 l0 p g lb w eg hr0 hp)
  clear hr0 hp eg
  go_enter Tryd.func144, Tryd.ntmps144
  go_wp2_with (go_at_call 168; refine HC.out.mono ?_; rintro e w' ⟨⟨n, rfl, hn⟩, hb⟩; have HN := Aside0.mk hn; have HB := Aside0.mk hb; clear hn hb HC)
  go_ret
  exact ⟨by rw [← HN.out]; rfl, HB.out⟩

/-! ### impl_areWithin_1: function 145 (a text of this session's own) -/
/-- A number lies between two. -/
def inB (lo hi x : Int) : Bool := decide (lo ≤ x ∧ x ≤ hi)
theorem impl_areWithin_1.calls (lo hi : Int) (b1 b2 : Nat) (x : Int) (w W : World) (hb : Below w.heap.size w W) (h1 : w.cell? ⟨b1, 0, none⟩ = some (.int .i64 lo)) (h2 : w.cell? ⟨b2, 0, none⟩ = some (.int .i64 hi)) :
    Calls Tryd.prog 145 #[.int .i64 x, .pointer (some ⟨b1, 0, none⟩), .pointer (some ⟨b2, 0, none⟩)] W fun e w' => e = .returned (.bool (!inB lo hi x)) ∧ Below w.heap.size w w' := by
  have c1 := (hb.cell (World.block_lt_of_cell? w _ h1)).trans h1
  have c2 := (hb.cell (World.block_lt_of_cell? w _ h2)).trans h2
  have HB := Aside0.mk hb
  have HI := Aside0.mk (show impl_within.f x lo hi = some (inB lo hi x) from by rw [impl_within.ok]; rfl)
  clear hb h1 h2
  generalize inB lo hi x = v at HI ⊢
  go_enter Tryd.func145, Tryd.ntmps145
  go_wp2_with (go_at_call 91; refine (impl_within.calls _ _ _ _ _ HI.out).mono ?_; rintro e w' ⟨rfl, ⟨m, rfl⟩⟩)
  go_ret
  exact ⟨rfl, by first | exact HB.out | exact pw_below_drewN HB.out _⟩

/-! ### impl_areWithin: function 85 (a text of this session's own) -/
def impl_areWithin.f (l0 : List Int) (lo hi : Int) : Option Bool := some (l0.all (inB lo hi))
set_option maxHeartbeats 4000000 in
theorem impl_areWithin.calls (A0 : Option Addr) (c0 : Nat) (l0 : List Int) (lo hi : Int) (r : Bool) (w : World) (hr0 : Kd.C (Kd.int .i64) w A0 l0.length l0) (hc0 : l0.length ≤ c0) (h : impl_areWithin.f l0 lo hi = some r) :
    Calls Tryd.prog 85 #[.slice A0 l0.length c0, .int .i64 lo, .int .i64 hi] w fun e w' => e = .returned (.bool r) ∧ Below w.heap.size w w' := by
  unfold impl_areWithin.f at h
  have eg := enters_of Tryd.func145 (by kernel_rfl) rfl
  have HC := Aside0.mk (fun W (hb : Below w.heap.size w W) b1 b2 h1 h2 => slices_ContainsFunc_int_int.calls A0 c0 l0 (fun x => !inB lo hi x) 145 #[.pointer (some ⟨b1, 0, none⟩), .pointer (some ⟨b2, 0, none⟩)] W eg (Kd.C_below hr0 hb) (fun W' x _ hb' => impl_areWithin_1.calls lo hi b1 b2 x W W' hb' h1 h2))
  have H := Aside0.mk h
  clear h hr0 eg
  go_enter Tryd.func85, Tryd.ntmps85
  go_wp2_with (go_at_call 144; refine (HC.out _ (by repeat (first | exact Below.refl _ _ | apply below_alloc | apply pw_below_drewN)) _ _ (by go_simp) (by go_simp)).mono ?_; rintro e w' ⟨rfl, hb⟩; have HB := Aside0.mk hb; clear hb)
  go_ret
  have e := Option.some.inj H.out
  refine ⟨?_, below_step (by repeat (first | exact Below.refl _ _ | apply below_alloc | apply pw_below_drewN)) HB.out⟩
  rw [← e]
  show Ending.returned (.bool (!(l0.any fun x => !inB lo hi x))) = _
  congr 2
  rw [List.all_eq_not_any_not]

/-! ### impl_arePeople: function 114 -/
def impl_arePeople.f (k : Nat) (a0_0 : Int) (l0_1 : List (S43)) (l1 : List Int) : Option (Bool) := (impl_IsParty.f k a0_0 l0_1).bind fun t440 => (if t440 = true then ((impl_areWithin.f l1 0 (wrap64 (a0_0 - 1))).bind fun t441 => (some t441)) else (some false))
theorem impl_arePeople.mono : ∀ a0 a1 a2 k, LeO (impl_arePeople.f k a0 a1 a2) (impl_arePeople.f (k + 1) a0 a1 a2) := by
 intro a0 a1 a2 k
 unfold impl_arePeople.f
 repeat' first | (with_reducible first | exact impl_IsParty.mono .. | exact LeO.refl _ | exact LeO.none _ | refine LeO.ite ?_ ?_ | refine LeO.bind ?_ (fun _ => ?_)) | exact impl_IsParty.mono .. | exact LeO.none _ | refine LeO.ite ?_ ?_ | refine LeO.bind ?_ (fun _ => ?_)
theorem impl_arePeople.calls (k : Nat) (a0_0 : Int) (A0_1 : Option Addr) (c0_1 : Nat) (l0_1 : List (S43)) (A1 : Option Addr) (c1 : Nat) (l1 : List Int) (r : Bool) (w : World) (hr0_1 : Kd.C k43 w A0_1 l0_1.length l0_1) (hc0_1 : l0_1.length ≤ c0_1) (hr1 : Kd.C (Kd.int .i64) w A1 l1.length l1) (hc1 : l1.length ≤ c1) (h : impl_arePeople.f k a0_0 l0_1 l1 = some r) :
  Calls Tryd.prog 114 #[.agg #[.int .i64 a0_0, .slice A0_1 l0_1.length c0_1], .slice A1 l1.length c1] w fun e w' => e = .returned (.bool r) ∧ Below w.heap.size w w' := by
 have hu52 := Tryd.underlying52
 have HR0_1 := Aside0.mk hr0_1
 have HC0_1 := Aside0.mk hc0_1
 clear hr0_1 hc0_1
 have HR1 := Aside0.mk hr1
 have HC1 := Aside0.mk hc1
 clear hr1 hc1
 have HB := Aside0.mk (Below.refl w.heap.size w)
 have H : ((impl_IsParty.f k a0_0 l0_1).bind fun t440 => (if t440 = true then ((impl_areWithin.f l1 0 (wrap64 (a0_0 - 1))).bind fun t441 => (some t441)) else (some false))) = some r := h
 clear h
 replace H := oB H; obtain ⟨t440, A3, H⟩ := H
 by_cases c4 : t440 = true
 ·subst c4
  rw [if_pos rfl] at H
  replace H := Option.bind_eq_some_iff.mp H
  obtain ⟨t441, A50, H⟩ := H
  replace H : (some t441) = some r := H
  have A5 := Aside0.mk A50
  clear A50
  obtain rfl := Option.some.inj H
  go_enter Tryd.func114, Tryd.ntmps114
  go_wp2_with (first | ((with_reducible refine gate_dst (N := 2) rfl ?_); refine bxE 2 #[.int .i64 a0_0, .slice A0_1 l0_1.length c0_1] 52 rfl ?_; intro gb439 hg w6 hbox hb; have BK439 := Aside0.mk (hbox); have GW439 := gS HB hg; have GE439 := gS HB hg; replace HB := hS HB hb; clear hb hbox hg; obtain ⟨hcz7_0, hcz7_1, hfz7_0, hfz7_1⟩ := cf2 BK439) | ((with_reducible refine gate_callee (f := 43) rfl ?_); refine goC (N := some 6) Tryd.func43 #[.agg #[.int .i64 a0_0, .slice A0_1 l0_1.length c0_1]] rfl ?_; (with_reducible refine (impl_IsParty.calls k a0_0 _ _ l0_1 true _ ?side1 ?side2 A3.out).mono ?_); (case side1 => exact cS (Kd.C_below HR0_1.out HB.out)); (case side2 => exact HC0_1.out); rintro e w8 ⟨rfl, hb⟩; refine ⟨_, rfl, ?_⟩; replace BK439 := bS BK439 hb; replace HB := hS HB hb; (try clear hb); obtain ⟨hcz9_0, hcz9_1, hfz9_0, hfz9_1⟩ := cf2 BK439) | (go_at_call 85; (with_reducible refine (impl_areWithin.calls _ _ l1 0 (wrap64 (a0_0 - 1)) t441 _ ?side1 ?side2 A5.out).mono ?_); (case side1 => exact cS (Kd.C_below HR1.out HB.out)); (case side2 => exact HC1.out); rintro e w10 ⟨rfl, hb⟩; replace BK439 := bS BK439 hb; replace HB := hS HB hb; (try clear hb)))
  go_ret
  exact ⟨eW, hB⟩
 ·replace c4 := Bool.eq_false_iff.mpr c4
  subst c4
  replace H : (some false) = some r := by rw [if_neg (show ¬ (false = true) by decide)] at H; exact H
  obtain rfl := Option.some.inj H
  go_enter Tryd.func114, Tryd.ntmps114
  go_wp2_with (first | ((with_reducible refine gate_dst (N := 2) rfl ?_); refine bxE 2 #[.int .i64 a0_0, .slice A0_1 l0_1.length c0_1] 52 rfl ?_; intro gb439 hg w11 hbox hb; have BK439 := Aside0.mk (hbox); have GW439 := gS HB hg; have GE439 := gS HB hg; replace HB := hS HB hb; clear hb hbox hg; obtain ⟨hcz12_0, hcz12_1, hfz12_0, hfz12_1⟩ := cf2 BK439) | ((with_reducible refine gate_callee (f := 43) rfl ?_); refine goC (N := some 6) Tryd.func43 #[.agg #[.int .i64 a0_0, .slice A0_1 l0_1.length c0_1]] rfl ?_; (with_reducible refine (impl_IsParty.calls k a0_0 _ _ l0_1 false _ ?side1 ?side2 A3.out).mono ?_); (case side1 => exact cS (Kd.C_below HR0_1.out HB.out)); (case side2 => exact HC0_1.out); rintro e w13 ⟨rfl, hb⟩; refine ⟨_, rfl, ?_⟩; replace BK439 := bS BK439 hb; replace HB := hS HB hb; (try clear hb)))
  go_ret
  exact ⟨eW, hB⟩

/-! ### impl_ThreesAt: function 46 -/
def impl_ThreesAt.l0 : Nat → Int → List Int → Int → List Int → Int → Int → Option (Int × Bool)
 | 0, _, _, _, _, _, _ => none
 | k + 1, x1, x6, x7, x21, x22, x23 => if x23 < x22 then (if 0 ≤ x23 then (if x23 < (x21.length : Int) then (if 0 ≤ x1 then (if x1 < (x6.length : Int) then (if 0 ≤ (rd x21 x23) then (if (rd x21 x23) < (x6.length : Int) then ((bits_OnesCount16.f (Go.bits .and .u16 (rd x6 x1) (rd x6 (rd x21 x23)))).bind fun t457 => (impl_ThreesAt.l0 k x1 x6 (wrap64 (x7 + t457)) x21 x22 (wrap64 (x23 + 1)))) else (none)) else (none)) else (none)) else (none)) else (none)) else (none)) else (some (wrap64 (Int.tdiv x7 2), true))
def impl_ThreesAt.f (k : Nat) (a0_0 : Int) (l0_1 : List (S43)) (a1 : Int) : Option (Int × Bool) := (impl_arePeople.f k a0_0 l0_1 (([a1] : List Int))).bind fun t446 => (if t446 = true then ((impl_Party_table.f k a0_0 l0_1).bind fun t447 => (if 0 ≤ a1 then (if a1 < (t447.length : Int) then ((impl_listed.f k (rd t447 a1)).bind fun t451 => (impl_ThreesAt.l0 k a1 t447 0 t451 (t451.length : Int) 0)) else (none)) else (none))) else (some (0, false)))
theorem impl_ThreesAt.mono_l : ∀ k, (∀ y0 y1 y2 y3 y4 y5, LeO (impl_ThreesAt.l0 k y0 y1 y2 y3 y4 y5) (impl_ThreesAt.l0 (k + 1) y0 y1 y2 y3 y4 y5))
 | 0 => fun _ _ _ _ _ _ r h => by simp [impl_ThreesAt.l0] at h
 | k + 1 => by
  have ih0 := impl_ThreesAt.mono_l k
  ·intro y0 y1 y2 y3 y4 y5
   unfold impl_ThreesAt.l0
   repeat' first | (with_reducible first | exact ih0 .. | exact impl_Party_table.mono .. | exact impl_arePeople.mono .. | exact impl_listed.mono .. | exact LeO.refl _ | exact LeO.none _ | refine LeO.ite ?_ ?_ | refine LeO.bind ?_ (fun _ => ?_)) | exact ih0 .. | exact impl_Party_table.mono .. | exact impl_arePeople.mono .. | exact impl_listed.mono .. | exact LeO.none _ | refine LeO.ite ?_ ?_ | refine LeO.bind ?_ (fun _ => ?_)
theorem impl_ThreesAt.mono : ∀ a0 a1 a2 k, LeO (impl_ThreesAt.f k a0 a1 a2) (impl_ThreesAt.f (k + 1) a0 a1 a2) := by
 intro a0 a1 a2 k
 have ih0 := impl_ThreesAt.mono_l k
 unfold impl_ThreesAt.f
 repeat' first | (with_reducible first | exact ih0 .. | exact impl_Party_table.mono .. | exact impl_arePeople.mono .. | exact impl_listed.mono .. | exact LeO.refl _ | exact LeO.none _ | refine LeO.ite ?_ ?_ | refine LeO.bind ?_ (fun _ => ?_)) | exact ih0 .. | exact impl_Party_table.mono .. | exact impl_arePeople.mono .. | exact impl_listed.mono .. | exact LeO.none _ | refine LeO.ite ?_ ?_ | refine LeO.bind ?_ (fun _ => ?_)
theorem impl_ThreesAt.calls (k : Nat) (a0_0 : Int) (A0_1 : Option Addr) (c0_1 : Nat) (l0_1 : List (S43)) (a1 : Int) (r1 : Int) (r2 : Bool) (w : World) (hr0_1 : Kd.C k43 w A0_1 l0_1.length l0_1) (hc0_1 : l0_1.length ≤ c0_1) (h : impl_ThreesAt.f k a0_0 l0_1 a1 = some (r1, r2)) (hG : GTab 0 w := by first | exact Aside0.out ‹Aside0 (GTab _ _)› | exact GTab.up (Aside0.out ‹Aside0 (GTab _ _)›) (by repeat (first | (with_reducible first | exact Below.refl _ _ | exact Aside0.out ‹Aside0 (Below _ _ _)› | apply below_alloc | apply pw_below_drewN | apply below_drew1 | refine below_set ?_ (Aside0.out (by assumption))) | exact Aside0.out ‹Aside0 (Below _ _ _)›))) :
  Calls Tryd.prog 46 #[.agg #[.int .i64 a0_0, .slice A0_1 l0_1.length c0_1], .int .i64 a1] w fun e w' => e = .returned (.tuple #[.int .i64 r1, .bool r2]) ∧ Below w.heap.size w w' := by
 have hu52 := Tryd.underlying52
 have HG := Aside0.mk (p := GTab _ _) hG
 clear hG
 have HR0_1 := Aside0.mk hr0_1
 have HC0_1 := Aside0.mk hc0_1
 clear hr0_1 hc0_1
 have HB := Aside0.mk (Below.refl w.heap.size w)
 have H : ((impl_arePeople.f k a0_0 l0_1 (([a1] : List Int))).bind fun t446 => (if t446 = true then ((impl_Party_table.f k a0_0 l0_1).bind fun t447 => (if 0 ≤ a1 then (if a1 < (t447.length : Int) then ((impl_listed.f k (rd t447 a1)).bind fun t451 => (impl_ThreesAt.l0 k a1 t447 0 t451 (t451.length : Int) 0)) else (none)) else (none))) else (some (0, false)))) = some (r1, r2) := h
 clear h
 obtain ⟨y443, hy443⟩ : ∃ y_ : List Int, y_ = (([a1] : List Int)) := ⟨_, rfl⟩
 replace H : ((impl_arePeople.f k a0_0 l0_1 y443).bind fun t446 => (if t446 = true then ((impl_Party_table.f k a0_0 l0_1).bind fun t447 => (if 0 ≤ a1 then (if a1 < (t447.length : Int) then ((impl_listed.f k (rd t447 a1)).bind fun t451 => (impl_ThreesAt.l0 k a1 t447 0 t451 (t451.length : Int) 0)) else (none)) else (none))) else (some (0, false)))) = some (r1, r2) := by first | (rw [hy443]; with_reducible exact H) | (have H2_ := (Option.bind_some _ _).symm.trans H; rw [hy443]; with_reducible exact H2_) | (have H2_ := (Option.bind_some _ _).symm.trans H; with_reducible exact H2_) | with_reducible exact H | (rw [hy443]; exact H) | exact H
 have Ny443 := Aside0.mk hy443
 clear hy443
 replace H := oB H; obtain ⟨t446, A3, H⟩ := H
 by_cases c4 : t446 = true
 ·subst c4
  rw [if_pos rfl] at H
  replace H := oB H; obtain ⟨t447, A5, H⟩ := H
  replace H := ifD H; obtain ⟨c6b0, H⟩ := H
  replace H := ifD H; obtain ⟨c7b0, H⟩ := H
  replace H := oB H; obtain ⟨t451, A8, H⟩ := H
  have H' := Aside0.mk H
  clear H
  go_enter Tryd.func46, Tryd.ntmps46
  go_wp2_with (first | ((with_reducible refine gate_dst (N := 2) rfl ?_); refine bxE 2 #[.int .i64 a0_0, .slice A0_1 l0_1.length c0_1] 52 rfl ?_; intro gb442 hg w9 hbox hb; have BK442 := Aside0.mk (hbox); have GW442 := gS HB hg; have GE442 := gS HB hg; replace HB := hS HB hb; clear hb hbox hg; obtain ⟨hcz10_0, hcz10_1, hfz10_0, hfz10_1⟩ := cf2 BK442) | ((with_reducible refine gate_dst (N := 12) rfl ?_); refine Kd.R_lit (Kd.int .i64) _ 3 ?hg (N := 12) ?hd (xs := ([a1] : List Int)) (inner := [.int .i64 a1]) (ok := fun _ => True) (okp := fun _ => True) ?hr ?hp (fun _ hk => hk) trivial (Below.refl _ _) (Nat.le_refl _) (by simp) ?_; (case hd => rfl); (case hg => rfl); (case hr => first | (go_simp; done) | (go_simp; rfl)); (case hp => exact (Reps.one (show Kd.M (Kd.int .i64) _ _ _ a1 [.int .i64 a1] from rfl) (Reps.none _ _))); intro v444 w11 ho12 hb hg_ hnew_; clear hg_ hnew_; (first | rw [← Ny443.out] at ho12 | (simp only [Int.reduceToNat] at ho12; rw [← Ny443.out] at ho12)); have HO445 := Aside0.mk (Kd.R_lower ho12 (below_size hB)); replace BK442 := bS BK442 hb; replace HB := hS HB hb; clear hb ho12; obtain ⟨Ao13, co13, eo13⟩ := Kd.R_slice HO445.out; subst eo13) | (go_at_call 114; (with_reducible refine (impl_arePeople.calls k a0_0 _ _ l0_1 _ _ y443 true _ ?side1 ?side2 ?side3 ?side4 A3.out).mono ?_); (case side1 => exact cS (Kd.C_below HR0_1.out HB.out)); (case side2 => exact HC0_1.out); (case side3 => exact cS (Kd.R_reads' HO445.out).2.2); (case side4 => exact (Kd.R_reads' HO445.out).2.1); rintro e w14 ⟨rfl, hb⟩; replace HO445 := rB HO445 hb; replace BK442 := bS BK442 hb; replace HB := hS HB hb; (try clear hb); obtain ⟨hcz15_0, hcz15_1, hfz15_0, hfz15_1⟩ := cf2 BK442) | (go_at_call 97; (with_reducible refine (impl_Party_table.calls k a0_0 _ _ l0_1 t447 _ ?side1 ?side2 A5.out).mono ?_); (case side1 => exact cS (Kd.C_below HR0_1.out HB.out)); (case side2 => exact HC0_1.out); rintro e w16 ⟨v448, rfl, ho0, hb⟩; have HO449 := Aside0.mk (Kd.R_lower ho0 (below_size hB)); replace HO445 := rB HO445 hb; replace BK442 := bS BK442 hb; replace HB := hS HB hb; (try clear hb ho0); obtain ⟨Ao17, co17, eo17⟩ := Kd.R_slice HO449.out; subst eo17; have p450 : 0 ≤ (a1 : Int) := of_decide_eq_true (by first | (with_reducible assumption) | assumption); have q450 : a1 < (t447.length : Int) := of_decide_eq_true (by first | (with_reducible assumption) | assumption); obtain ⟨ad450, e450, hx450_0⟩ := Kd.at_int (Kd.R_reads' HO449.out).2.2 a1 p450 q450; cases e450; replace p450 := eq_true p450; replace q450 := eq_true q450) | (go_at_call 75; (with_reducible refine (impl_listed.calls k (rd t447 a1) t451 _ A8.out).mono ?_); rintro e w18 ⟨v452, rfl, ho0, hb⟩; have HO453 := Aside0.mk (Kd.R_lower (Kd.R_new' ho0 (Kd.R_lt (rU HO445))) (below_size hB)); replace HO445 := Aside0.mk (Kd.R_elder' (rU HO445) (Kd.R_base ho0) hb); replace HO449 := rB HO449 hb; replace BK442 := bS BK442 hb; replace HB := hS HB hb; (try clear hb ho0); obtain ⟨Ao19, co19, eo19⟩ := Kd.R_slice HO453.out; subst eo19))
  repeat (go_quiet (first | ((with_reducible refine gate_dst (N := 2) rfl ?_); refine bxE 2 #[.int .i64 a0_0, .slice A0_1 l0_1.length c0_1] 52 rfl ?_; intro gb442 hg w9 hbox hb; have BK442 := Aside0.mk (hbox); have GW442 := gS HB hg; have GE442 := gS HB hg; replace HB := hS HB hb; clear hb hbox hg; obtain ⟨hcz10_0, hcz10_1, hfz10_0, hfz10_1⟩ := cf2 BK442) | ((with_reducible refine gate_dst (N := 12) rfl ?_); refine Kd.R_lit (Kd.int .i64) _ 3 ?hg (N := 12) ?hd (xs := ([a1] : List Int)) (inner := [.int .i64 a1]) (ok := fun _ => True) (okp := fun _ => True) ?hr ?hp (fun _ hk => hk) trivial (Below.refl _ _) (Nat.le_refl _) (by simp) ?_; (case hd => rfl); (case hg => rfl); (case hr => first | (go_simp; done) | (go_simp; rfl)); (case hp => exact (Reps.one (show Kd.M (Kd.int .i64) _ _ _ a1 [.int .i64 a1] from rfl) (Reps.none _ _))); intro v444 w11 ho12 hb hg_ hnew_; clear hg_ hnew_; (first | rw [← Ny443.out] at ho12 | (simp only [Int.reduceToNat] at ho12; rw [← Ny443.out] at ho12)); have HO445 := Aside0.mk (Kd.R_lower ho12 (below_size hB)); replace BK442 := bS BK442 hb; replace HB := hS HB hb; clear hb ho12; obtain ⟨Ao13, co13, eo13⟩ := Kd.R_slice HO445.out; subst eo13) | (go_at_call 114; (with_reducible refine (impl_arePeople.calls k a0_0 _ _ l0_1 _ _ y443 true _ ?side1 ?side2 ?side3 ?side4 A3.out).mono ?_); (case side1 => exact cS (Kd.C_below HR0_1.out HB.out)); (case side2 => exact HC0_1.out); (case side3 => exact cS (Kd.R_reads' HO445.out).2.2); (case side4 => exact (Kd.R_reads' HO445.out).2.1); rintro e w14 ⟨rfl, hb⟩; replace HO445 := rB HO445 hb; replace BK442 := bS BK442 hb; replace HB := hS HB hb; (try clear hb); obtain ⟨hcz15_0, hcz15_1, hfz15_0, hfz15_1⟩ := cf2 BK442) | (go_at_call 97; (with_reducible refine (impl_Party_table.calls k a0_0 _ _ l0_1 t447 _ ?side1 ?side2 A5.out).mono ?_); (case side1 => exact cS (Kd.C_below HR0_1.out HB.out)); (case side2 => exact HC0_1.out); rintro e w16 ⟨v448, rfl, ho0, hb⟩; have HO449 := Aside0.mk (Kd.R_lower ho0 (below_size hB)); replace HO445 := rB HO445 hb; replace BK442 := bS BK442 hb; replace HB := hS HB hb; (try clear hb ho0); obtain ⟨Ao17, co17, eo17⟩ := Kd.R_slice HO449.out; subst eo17; have p450 : 0 ≤ (a1 : Int) := of_decide_eq_true (by first | (with_reducible assumption) | assumption); have q450 : a1 < (t447.length : Int) := of_decide_eq_true (by first | (with_reducible assumption) | assumption); obtain ⟨ad450, e450, hx450_0⟩ := Kd.at_int (Kd.R_reads' HO449.out).2.2 a1 p450 q450; cases e450; replace p450 := eq_true p450; replace q450 := eq_true q450) | (go_at_call 75; (with_reducible refine (impl_listed.calls k (rd t447 a1) t451 _ A8.out).mono ?_); rintro e w18 ⟨v452, rfl, ho0, hb⟩; have HO453 := Aside0.mk (Kd.R_lower (Kd.R_new' ho0 (Kd.R_lt (rU HO445))) (below_size hB)); replace HO445 := Aside0.mk (Kd.R_elder' (rU HO445) (Kd.R_base ho0) hb); replace HO449 := rB HO449 hb; replace BK442 := bS BK442 hb; replace HB := hS HB hb; (try clear hb ho0); obtain ⟨Ao19, co19, eo19⟩ := Kd.R_slice HO453.out; subst eo19)); try go_wp2_with (first | ((with_reducible refine gate_dst (N := 2) rfl ?_); refine bxE 2 #[.int .i64 a0_0, .slice A0_1 l0_1.length c0_1] 52 rfl ?_; intro gb442 hg w9 hbox hb; have BK442 := Aside0.mk (hbox); have GW442 := gS HB hg; have GE442 := gS HB hg; replace HB := hS HB hb; clear hb hbox hg; obtain ⟨hcz10_0, hcz10_1, hfz10_0, hfz10_1⟩ := cf2 BK442) | ((with_reducible refine gate_dst (N := 12) rfl ?_); refine Kd.R_lit (Kd.int .i64) _ 3 ?hg (N := 12) ?hd (xs := ([a1] : List Int)) (inner := [.int .i64 a1]) (ok := fun _ => True) (okp := fun _ => True) ?hr ?hp (fun _ hk => hk) trivial (Below.refl _ _) (Nat.le_refl _) (by simp) ?_; (case hd => rfl); (case hg => rfl); (case hr => first | (go_simp; done) | (go_simp; rfl)); (case hp => exact (Reps.one (show Kd.M (Kd.int .i64) _ _ _ a1 [.int .i64 a1] from rfl) (Reps.none _ _))); intro v444 w11 ho12 hb hg_ hnew_; clear hg_ hnew_; (first | rw [← Ny443.out] at ho12 | (simp only [Int.reduceToNat] at ho12; rw [← Ny443.out] at ho12)); have HO445 := Aside0.mk (Kd.R_lower ho12 (below_size hB)); replace BK442 := bS BK442 hb; replace HB := hS HB hb; clear hb ho12; obtain ⟨Ao13, co13, eo13⟩ := Kd.R_slice HO445.out; subst eo13) | (go_at_call 114; (with_reducible refine (impl_arePeople.calls k a0_0 _ _ l0_1 _ _ y443 true _ ?side1 ?side2 ?side3 ?side4 A3.out).mono ?_); (case side1 => exact cS (Kd.C_below HR0_1.out HB.out)); (case side2 => exact HC0_1.out); (case side3 => exact cS (Kd.R_reads' HO445.out).2.2); (case side4 => exact (Kd.R_reads' HO445.out).2.1); rintro e w14 ⟨rfl, hb⟩; replace HO445 := rB HO445 hb; replace BK442 := bS BK442 hb; replace HB := hS HB hb; (try clear hb); obtain ⟨hcz15_0, hcz15_1, hfz15_0, hfz15_1⟩ := cf2 BK442) | (go_at_call 97; (with_reducible refine (impl_Party_table.calls k a0_0 _ _ l0_1 t447 _ ?side1 ?side2 A5.out).mono ?_); (case side1 => exact cS (Kd.C_below HR0_1.out HB.out)); (case side2 => exact HC0_1.out); rintro e w16 ⟨v448, rfl, ho0, hb⟩; have HO449 := Aside0.mk (Kd.R_lower ho0 (below_size hB)); replace HO445 := rB HO445 hb; replace BK442 := bS BK442 hb; replace HB := hS HB hb; (try clear hb ho0); obtain ⟨Ao17, co17, eo17⟩ := Kd.R_slice HO449.out; subst eo17; have p450 : 0 ≤ (a1 : Int) := of_decide_eq_true (by first | (with_reducible assumption) | assumption); have q450 : a1 < (t447.length : Int) := of_decide_eq_true (by first | (with_reducible assumption) | assumption); obtain ⟨ad450, e450, hx450_0⟩ := Kd.at_int (Kd.R_reads' HO449.out).2.2 a1 p450 q450; cases e450; replace p450 := eq_true p450; replace q450 := eq_true q450) | (go_at_call 75; (with_reducible refine (impl_listed.calls k (rd t447 a1) t451 _ A8.out).mono ?_); rintro e w18 ⟨v452, rfl, ho0, hb⟩; have HO453 := Aside0.mk (Kd.R_lower (Kd.R_new' ho0 (Kd.R_lt (rU HO445))) (below_size hB)); replace HO445 := Aside0.mk (Kd.R_elder' (rU HO445) (Kd.R_base ho0) hb); replace HO449 := rB HO449 hb; replace BK442 := bS BK442 hb; replace HB := hS HB hb; (try clear hb ho0); obtain ⟨Ao19, co19, eo19⟩ := Kd.R_slice HO453.out; subst eo19)))
  go_loopg [7, 23] k (fun kq v7 v23 w' => ∃ (x7_1 : Int) (x23_1 : Int), v7 = .int .i64 x7_1 ∧ v23 = .int .i64 x23_1 ∧ Aside0 (impl_ThreesAt.l0 kq a1 t447 x7_1 t451 (t451.length : Int) x23_1 = some (r1, r2)) ∧ Aside0 (kq ≤ k) ∧ Aside0 (Kd.R (Kd.int .u16) 71 w' w.heap.size (fun _ => True) (.slice (some ad450) t447.length co17) t447) ∧ Aside0 (Kd.R (Kd.int .i64) 3 w' w.heap.size (fun _ => True) (.slice Ao19 t451.length co19) t451) ∧ Aside0 (w'.heap[gb442]? = some (.cells #[.int .i64 a0_0, (.slice A0_1 l0_1.length c0_1)] 52 (0, 0))) ∧ Aside0 (Below w.heap.size w w'))
  case atStart => exact ⟨(0), (0), sR, sR, H', ⟨Nat.le_refl _⟩, ⟨rU HO449⟩, ⟨by (with_reducible repeat (first | apply Kd.R_alloc | apply Kd.R_drewN | apply Kd.R_drew)); exact Kd.R_mono HO453.out (fun _ hk => trivial)⟩, ⟨bK⟩, ⟨hB⟩⟩
  case round =>
   clear H'
   (try clear c4); (try clear c6b0); (try clear c7b0); (try clear hcz10_0 hcz10_1 hfz10_0 hfz10_1); (try clear hcz15_0 hcz15_1 hfz15_0 hfz15_1); (try clear hx450_0); (try clear p450); (try clear q450)
   obtain ⟨x7_1, x23_1, rfl, rfl, HA, HK1, HO_6, HO_21, BK442, HB⟩ := hrel
   cases gk with
   | zero => exact absurd HA.out (by simp [impl_ThreesAt.l0])
   | succ k1 =>
    have H := HA.out
    clear HA
    simp only [impl_ThreesAt.l0] at H
    by_cases c20 : x23_1 < (t451.length : Int)
    ·rw [if_pos c20] at H
     have c20b0 := decide_eq_true c20
     clear c20
     replace H := ifD H; obtain ⟨c21b0, H⟩ := H
     replace H := ifD H; obtain ⟨c22b0, H⟩ := H
     replace H := ifD H; obtain ⟨c23b0, H⟩ := H
     replace H := ifD H; obtain ⟨c24b0, H⟩ := H
     replace H := ifD H; obtain ⟨c25b0, H⟩ := H
     replace H := ifD H; obtain ⟨c26b0, H⟩ := H
     replace H := oB H; obtain ⟨t457, A27, H⟩ := H
     have H' := Aside0.mk H
     clear H
     have p454 : 0 ≤ (x23_1 : Int) := of_decide_eq_true (by first | (with_reducible assumption) | assumption)
     have q454 : x23_1 < (t451.length : Int) := of_decide_eq_true (by first | (with_reducible assumption) | assumption)
     obtain ⟨ad454, e454, hx454_0⟩ := Kd.at_int (Kd.R_reads' HO_21.out).2.2 x23_1 p454 q454
     cases e454
     replace p454 := eq_true p454
     replace q454 := eq_true q454
     have p455 : 0 ≤ (a1 : Int) := of_decide_eq_true (by first | (with_reducible assumption) | assumption)
     have q455 : a1 < (t447.length : Int) := of_decide_eq_true (by first | (with_reducible assumption) | assumption)
     obtain ⟨ad455, e455, hx455_0⟩ := Kd.at_int (Kd.R_reads' HO_6.out).2.2 a1 p455 q455
     obtain rfl : ad450 = ad455 := (by injection e455)
     replace p455 := eq_true p455
     replace q455 := eq_true q455
     have p456 : 0 ≤ ((rd t451 x23_1) : Int) := of_decide_eq_true (by first | (with_reducible assumption) | assumption)
     have q456 : (rd t451 x23_1) < (t447.length : Int) := of_decide_eq_true (by first | (with_reducible assumption) | assumption)
     obtain ⟨ad456, e456, hx456_0⟩ := Kd.at_int (Kd.R_reads' HO_6.out).2.2 (rd t451 x23_1) p456 q456
     obtain rfl : ad450 = ad456 := (by injection e456)
     replace p456 := eq_true p456
     replace q456 := eq_true q456
     go_wp2_with (first | (go_at_call 115; (with_reducible refine (bits_OnesCount16.calls (Go.bits .and .u16 (rd t447 a1) (rd t447 (rd t451 x23_1))) t457 _ A27.out).mono ?_); rintro e w' ⟨rfl, ⟨nd, rfl⟩⟩; (try first | exact ⟨rfl, _, World.drewN_drewN _ _ _⟩ | exact ⟨rfl, _, Eq.trans (World.drewN_drewN _ _ _) (congrArg (World.drewN _) (Nat.add_assoc _ _ _))⟩)))
     repeat (go_quiet (first | (go_at_call 115; (with_reducible refine (bits_OnesCount16.calls (Go.bits .and .u16 (rd t447 a1) (rd t447 (rd t451 x23_1))) t457 _ A27.out).mono ?_); rintro e w' ⟨rfl, ⟨nd, rfl⟩⟩; (try first | exact ⟨rfl, _, World.drewN_drewN _ _ _⟩ | exact ⟨rfl, _, Eq.trans (World.drewN_drewN _ _ _) (congrArg (World.drewN _) (Nat.add_assoc _ _ _))⟩))); try go_wp2_with (first | (go_at_call 115; (with_reducible refine (bits_OnesCount16.calls (Go.bits .and .u16 (rd t447 a1) (rd t447 (rd t451 x23_1))) t457 _ A27.out).mono ?_); rintro e w' ⟨rfl, ⟨nd, rfl⟩⟩; (try first | exact ⟨rfl, _, World.drewN_drewN _ _ _⟩ | exact ⟨rfl, _, Eq.trans (World.drewN_drewN _ _ _) (congrArg (World.drewN _) (Nat.add_assoc _ _ _))⟩))))
     go_roundg k1
     case measure => have := HK1.out; omega
     case rel => exact ⟨(wrap64 (x7_1 + t457)), (wrap64 (x23_1 + 1)), sR, sR, H', ⟨by have := HK1.out; omega⟩, ⟨rU HO_6⟩, ⟨rU HO_21⟩, ⟨bK⟩, ⟨hB⟩⟩
    ·rw [if_neg c20] at H
     have c20b0 := decide_eq_false c20
     clear c20
     simp only [Option.some.injEq, Prod.mk.injEq] at H
     obtain ⟨rfl, rfl⟩ := H
     go_wp2
     repeat (go_quiet (fail); try go_wp2)
     go_ret2
     exact ⟨eW, hB⟩
 ·replace c4 := Bool.eq_false_iff.mpr c4
  subst c4
  replace H : (some (0, false)) = some (r1, r2) := by rw [if_neg (show ¬ (false = true) by decide)] at H; exact H
  simp only [Option.some.injEq, Prod.mk.injEq] at H
  obtain ⟨rfl, rfl⟩ := H
  go_enter Tryd.func46, Tryd.ntmps46
  go_wp2_with (first | ((with_reducible refine gate_dst (N := 2) rfl ?_); refine bxE 2 #[.int .i64 a0_0, .slice A0_1 l0_1.length c0_1] 52 rfl ?_; intro gb442 hg w28 hbox hb; have BK442 := Aside0.mk (hbox); have GW442 := gS HB hg; have GE442 := gS HB hg; replace HB := hS HB hb; clear hb hbox hg; obtain ⟨hcz29_0, hcz29_1, hfz29_0, hfz29_1⟩ := cf2 BK442) | ((with_reducible refine gate_dst (N := 12) rfl ?_); refine Kd.R_lit (Kd.int .i64) _ 3 ?hg (N := 12) ?hd (xs := ([a1] : List Int)) (inner := [.int .i64 a1]) (ok := fun _ => True) (okp := fun _ => True) ?hr ?hp (fun _ hk => hk) trivial (Below.refl _ _) (Nat.le_refl _) (by simp) ?_; (case hd => rfl); (case hg => rfl); (case hr => first | (go_simp; done) | (go_simp; rfl)); (case hp => exact (Reps.one (show Kd.M (Kd.int .i64) _ _ _ a1 [.int .i64 a1] from rfl) (Reps.none _ _))); intro v444 w30 ho31 hb hg_ hnew_; clear hg_ hnew_; (first | rw [← Ny443.out] at ho31 | (simp only [Int.reduceToNat] at ho31; rw [← Ny443.out] at ho31)); have HO445 := Aside0.mk (Kd.R_lower ho31 (below_size hB)); replace BK442 := bS BK442 hb; replace HB := hS HB hb; clear hb ho31; obtain ⟨Ao32, co32, eo32⟩ := Kd.R_slice HO445.out; subst eo32) | (go_at_call 114; (with_reducible refine (impl_arePeople.calls k a0_0 _ _ l0_1 _ _ y443 false _ ?side1 ?side2 ?side3 ?side4 A3.out).mono ?_); (case side1 => exact cS (Kd.C_below HR0_1.out HB.out)); (case side2 => exact HC0_1.out); (case side3 => exact cS (Kd.R_reads' HO445.out).2.2); (case side4 => exact (Kd.R_reads' HO445.out).2.1); rintro e w33 ⟨rfl, hb⟩; replace HO445 := rB HO445 hb; replace BK442 := bS BK442 hb; replace HB := hS HB hb; (try clear hb)))
  repeat (go_quiet (first | ((with_reducible refine gate_dst (N := 2) rfl ?_); refine bxE 2 #[.int .i64 a0_0, .slice A0_1 l0_1.length c0_1] 52 rfl ?_; intro gb442 hg w28 hbox hb; have BK442 := Aside0.mk (hbox); have GW442 := gS HB hg; have GE442 := gS HB hg; replace HB := hS HB hb; clear hb hbox hg; obtain ⟨hcz29_0, hcz29_1, hfz29_0, hfz29_1⟩ := cf2 BK442) | ((with_reducible refine gate_dst (N := 12) rfl ?_); refine Kd.R_lit (Kd.int .i64) _ 3 ?hg (N := 12) ?hd (xs := ([a1] : List Int)) (inner := [.int .i64 a1]) (ok := fun _ => True) (okp := fun _ => True) ?hr ?hp (fun _ hk => hk) trivial (Below.refl _ _) (Nat.le_refl _) (by simp) ?_; (case hd => rfl); (case hg => rfl); (case hr => first | (go_simp; done) | (go_simp; rfl)); (case hp => exact (Reps.one (show Kd.M (Kd.int .i64) _ _ _ a1 [.int .i64 a1] from rfl) (Reps.none _ _))); intro v444 w30 ho31 hb hg_ hnew_; clear hg_ hnew_; (first | rw [← Ny443.out] at ho31 | (simp only [Int.reduceToNat] at ho31; rw [← Ny443.out] at ho31)); have HO445 := Aside0.mk (Kd.R_lower ho31 (below_size hB)); replace BK442 := bS BK442 hb; replace HB := hS HB hb; clear hb ho31; obtain ⟨Ao32, co32, eo32⟩ := Kd.R_slice HO445.out; subst eo32) | (go_at_call 114; (with_reducible refine (impl_arePeople.calls k a0_0 _ _ l0_1 _ _ y443 false _ ?side1 ?side2 ?side3 ?side4 A3.out).mono ?_); (case side1 => exact cS (Kd.C_below HR0_1.out HB.out)); (case side2 => exact HC0_1.out); (case side3 => exact cS (Kd.R_reads' HO445.out).2.2); (case side4 => exact (Kd.R_reads' HO445.out).2.1); rintro e w33 ⟨rfl, hb⟩; replace HO445 := rB HO445 hb; replace BK442 := bS BK442 hb; replace HB := hS HB hb; (try clear hb))); try go_wp2_with (first | ((with_reducible refine gate_dst (N := 2) rfl ?_); refine bxE 2 #[.int .i64 a0_0, .slice A0_1 l0_1.length c0_1] 52 rfl ?_; intro gb442 hg w28 hbox hb; have BK442 := Aside0.mk (hbox); have GW442 := gS HB hg; have GE442 := gS HB hg; replace HB := hS HB hb; clear hb hbox hg; obtain ⟨hcz29_0, hcz29_1, hfz29_0, hfz29_1⟩ := cf2 BK442) | ((with_reducible refine gate_dst (N := 12) rfl ?_); refine Kd.R_lit (Kd.int .i64) _ 3 ?hg (N := 12) ?hd (xs := ([a1] : List Int)) (inner := [.int .i64 a1]) (ok := fun _ => True) (okp := fun _ => True) ?hr ?hp (fun _ hk => hk) trivial (Below.refl _ _) (Nat.le_refl _) (by simp) ?_; (case hd => rfl); (case hg => rfl); (case hr => first | (go_simp; done) | (go_simp; rfl)); (case hp => exact (Reps.one (show Kd.M (Kd.int .i64) _ _ _ a1 [.int .i64 a1] from rfl) (Reps.none _ _))); intro v444 w30 ho31 hb hg_ hnew_; clear hg_ hnew_; (first | rw [← Ny443.out] at ho31 | (simp only [Int.reduceToNat] at ho31; rw [← Ny443.out] at ho31)); have HO445 := Aside0.mk (Kd.R_lower ho31 (below_size hB)); replace BK442 := bS BK442 hb; replace HB := hS HB hb; clear hb ho31; obtain ⟨Ao32, co32, eo32⟩ := Kd.R_slice HO445.out; subst eo32) | (go_at_call 114; (with_reducible refine (impl_arePeople.calls k a0_0 _ _ l0_1 _ _ y443 false _ ?side1 ?side2 ?side3 ?side4 A3.out).mono ?_); (case side1 => exact cS (Kd.C_below HR0_1.out HB.out)); (case side2 => exact HC0_1.out); (case side3 => exact cS (Kd.R_reads' HO445.out).2.2); (case side4 => exact (Kd.R_reads' HO445.out).2.1); rintro e w33 ⟨rfl, hb⟩; replace HO445 := rB HO445 hb; replace BK442 := bS BK442 hb; replace HB := hS HB hb; (try clear hb))))
  go_ret2
  exact ⟨eW, hB⟩

/-! ### impl_isRising: function 116 -/
def impl_isRising.l0 : Nat → List Int → Int → Option (Bool)
 | 0, _, _ => none
 | k + 1, x0, x3 => if x3 < (x0.length : Int) then (if 0 ≤ x3 then (if 0 ≤ (wrap64 (x3 - 1)) then (if (wrap64 (x3 - 1)) < (x0.length : Int) then (if (rd x0 x3) ≤ (rd x0 (wrap64 (x3 - 1))) then (some false) else (impl_isRising.l0 k x0 (wrap64 (x3 + 1)))) else (none)) else (none)) else (none)) else (some true)
def impl_isRising.f (k : Nat) (l0 : List Int) : Option (Bool) := impl_isRising.l0 k l0 1
theorem impl_isRising.mono_l : ∀ k, (∀ y0 y1, LeO (impl_isRising.l0 k y0 y1) (impl_isRising.l0 (k + 1) y0 y1))
 | 0 => fun _ _ r h => by simp [impl_isRising.l0] at h
 | k + 1 => by
  have ih0 := impl_isRising.mono_l k
  ·intro y0 y1
   unfold impl_isRising.l0
   repeat' first | (with_reducible first | exact ih0 .. | exact LeO.refl _ | exact LeO.none _ | refine LeO.ite ?_ ?_ | refine LeO.bind ?_ (fun _ => ?_)) | exact ih0 .. | exact LeO.none _ | refine LeO.ite ?_ ?_ | refine LeO.bind ?_ (fun _ => ?_)
theorem impl_isRising.mono : ∀ a0 k, LeO (impl_isRising.f k a0) (impl_isRising.f (k + 1) a0) := by
 intro a0 k
 have ih0 := impl_isRising.mono_l k
 unfold impl_isRising.f
 repeat' first | (with_reducible first | exact ih0 .. | exact LeO.refl _ | exact LeO.none _ | refine LeO.ite ?_ ?_ | refine LeO.bind ?_ (fun _ => ?_)) | exact ih0 .. | exact LeO.none _ | refine LeO.ite ?_ ?_ | refine LeO.bind ?_ (fun _ => ?_)
theorem impl_isRising.calls (k : Nat) (A0 : Option Addr) (c0 : Nat) (l0 : List Int) (r : Bool) (w : World) (hr0 : Kd.C (Kd.int .i64) w A0 l0.length l0) (hc0 : l0.length ≤ c0) (h : impl_isRising.f k l0 = some r) :
  Calls Tryd.prog 116 #[.slice A0 l0.length c0] w fun e w' => e = .returned (.bool r) ∧ Drawn0 w w' := by
 have HR0 := Aside0.mk hr0
 have HC0 := Aside0.mk hc0
 clear hr0 hc0
 have H : (impl_isRising.l0 k l0 1) = some r := h
 clear h
 have H' := Aside0.mk H
 clear H
 go_enter Tryd.func116, Tryd.ntmps116
 go_wp2
 repeat (go_quiet (fail); try go_wp2)
 go_loopg [3] k (fun kq v3 w' => ∃ (x3_1 : Int), v3 = .int .i64 x3_1 ∧ Aside0 (impl_isRising.l0 kq l0 x3_1 = some r) ∧ Aside0 (kq ≤ k) ∧ Drawn0 w w')
 case atStart => exact ⟨(1), sR, H', ⟨Nat.le_refl _⟩, by repeat (first | exact Drawn0.refl _ | apply Drawn0.step)⟩
 case round =>
  clear H'
  obtain ⟨x3_1, rfl, HA, HK1, ⟨m1, rfl⟩⟩ := hrel
  cases gk with
  | zero => exact absurd HA.out (by simp [impl_isRising.l0])
  | succ k1 =>
   have H := HA.out
   clear HA
   simp only [impl_isRising.l0] at H
   by_cases c2 : x3_1 < (l0.length : Int)
   ·rw [if_pos c2] at H
    have c2b0 := decide_eq_true c2
    clear c2
    replace H := ifD H; obtain ⟨c3b0, H⟩ := H
    obtain ⟨ji4, hji4⟩ : ∃ j_ : Int, (wrap64 (x3_1 - 1)) = j_ := ⟨_, rfl⟩
    replace H : (if 0 ≤ (ji4) then (if (ji4) < (l0.length : Int) then (if (rd l0 x3_1) ≤ (rd l0 (ji4)) then (some false) else (impl_isRising.l0 k1 l0 (wrap64 (x3_1 + 1)))) else (none)) else (none)) = some r := by first | (rw [hji4] at H; exact H) | (simp only [hji4] at H ⊢; exact H)
    have hji4w : (IntKind.i64.wrap (x3_1 - 1)) = ji4 := (i64_w _).trans hji4
    replace H := ifD H; obtain ⟨c5b0, H⟩ := H
    replace H := ifD H; obtain ⟨c6b0, H⟩ := H
    by_cases c7 : (rd l0 x3_1) ≤ (rd l0 (ji4))
    ·rw [if_pos c7] at H
     have c7b0 := decide_eq_true c7
     clear c7
     obtain rfl := Option.some.inj H
     have p458 : 0 ≤ (x3_1 : Int) := of_decide_eq_true (by first | (with_reducible assumption) | assumption)
     have q458 : x3_1 < (l0.length : Int) := of_decide_eq_true (by first | (with_reducible assumption) | assumption)
     obtain ⟨ad458, e458, hx458_0⟩ := Kd.at_int HR0.out x3_1 p458 q458
     cases e458
     replace p458 := eq_true p458
     replace q458 := eq_true q458
     have p459 : 0 ≤ ((ji4) : Int) := of_decide_eq_true (by first | (with_reducible assumption) | assumption)
     have q459 : (ji4) < (l0.length : Int) := of_decide_eq_true (by first | (with_reducible assumption) | assumption)
     obtain ⟨ad459, e459, hx459_0⟩ := Kd.at_int HR0.out (ji4) p459 q459
     obtain rfl : ad458 = ad459 := (by injection e459)
     replace p459 := eq_true p459
     replace q459 := eq_true q459
     go_wp2
     repeat (go_quiet (fail); try go_wp2)
     go_ret
     exact ⟨by first | rfl | (simp; done) | (simp only [← hji4] <;> (first | rfl | simp)) | (simp [*]; done), by repeat (first | exact Drawn0.refl _ | apply Drawn0.step)⟩
    ·rw [if_neg c7] at H
     have c7b0 := decide_eq_false c7
     clear c7
     have H' := Aside0.mk H
     clear H
     have p458 : 0 ≤ (x3_1 : Int) := of_decide_eq_true (by first | (with_reducible assumption) | assumption)
     have q458 : x3_1 < (l0.length : Int) := of_decide_eq_true (by first | (with_reducible assumption) | assumption)
     obtain ⟨ad458, e458, hx458_0⟩ := Kd.at_int HR0.out x3_1 p458 q458
     cases e458
     replace p458 := eq_true p458
     replace q458 := eq_true q458
     have p459 : 0 ≤ ((ji4) : Int) := of_decide_eq_true (by first | (with_reducible assumption) | assumption)
     have q459 : (ji4) < (l0.length : Int) := of_decide_eq_true (by first | (with_reducible assumption) | assumption)
     obtain ⟨ad459, e459, hx459_0⟩ := Kd.at_int HR0.out (ji4) p459 q459
     obtain rfl : ad458 = ad459 := (by injection e459)
     replace p459 := eq_true p459
     replace q459 := eq_true q459
     go_wp2
     repeat (go_quiet (fail); try go_wp2)
     go_roundg k1
     case measure => have := HK1.out; omega
     case rel => exact ⟨(wrap64 (x3_1 + 1)), sR, H', ⟨by have := HK1.out; omega⟩, by repeat (first | exact Drawn0.refl _ | apply Drawn0.step)⟩
   ·rw [if_neg c2] at H
    have c2b0 := decide_eq_false c2
    clear c2
    obtain rfl := Option.some.inj H
    go_wp2
    repeat (go_quiet (fail); try go_wp2)
    go_ret
    exact ⟨by first | rfl | (simp; done) | (simp [*]; done), by repeat (first | exact Drawn0.refl _ | apply Drawn0.step)⟩

/-! ### impl_table_isGroup: function 117 -/
mutual
def impl_table_isGroup.l0 : Nat → List Int → List Int → List Int → Int → Int → Option (Bool)
 | 0, _, _, _, _, _ => none
 | k + 1, x0, x1, x9, x10, x11 => if x11 < x10 then (if 0 ≤ x11 then (if x11 < (x9.length : Int) then (if x11 ≤ (x1.length : Int) then (impl_table_isGroup.l1 k x0 x1 (rd x9 x11) x9 x10 x11 (x1.take (x11 : Int).toNat) ((x1.take (x11 : Int).toNat).length : Int) 0) else (none)) else (none)) else (none)) else (some true)
def impl_table_isGroup.l1 : Nat → List Int → List Int → Int → List Int → Int → Int → List Int → Int → Int → Option (Bool)
 | 0, _, _, _, _, _, _, _, _, _ => none
 | k + 1, x0, x1, x6, x9, x10, x11, x18, x19, x20 => if x20 < x19 then (if 0 ≤ x20 then (if x20 < (x18.length : Int) then ((impl_table_has.f x0 x6 (rd x18 x20)).bind fun t463 => (if t463 = true then (impl_table_isGroup.l1 k x0 x1 x6 x9 x10 x11 x18 x19 (wrap64 (x20 + 1))) else (some false))) else (none)) else (none)) else (impl_table_isGroup.l0 k x0 x1 x9 x10 (wrap64 (x11 + 1)))
end
def impl_table_isGroup.f (k : Nat) (l0 : List Int) (l1 : List Int) : Option (Bool) := impl_table_isGroup.l0 k l0 l1 l1 (l1.length : Int) 0
theorem impl_table_isGroup.mono_l : ∀ k, (∀ y0 y1 y2 y3 y4, LeO (impl_table_isGroup.l0 k y0 y1 y2 y3 y4) (impl_table_isGroup.l0 (k + 1) y0 y1 y2 y3 y4)) ∧ (∀ y0 y1 y2 y3 y4 y5 y6 y7 y8, LeO (impl_table_isGroup.l1 k y0 y1 y2 y3 y4 y5 y6 y7 y8) (impl_table_isGroup.l1 (k + 1) y0 y1 y2 y3 y4 y5 y6 y7 y8))
 | 0 => ⟨fun _ _ _ _ _ r h => by simp [impl_table_isGroup.l0] at h, fun _ _ _ _ _ _ _ _ _ r h => by simp [impl_table_isGroup.l1] at h⟩
 | k + 1 => by
  obtain ⟨ih0, ih1⟩ := impl_table_isGroup.mono_l k
  refine ⟨?_, ?_⟩ <;> intros <;> (first | unfold impl_table_isGroup.l0 | unfold impl_table_isGroup.l1)
  all_goals (repeat' first | (with_reducible first | exact ih0 .. | exact ih1 .. | exact LeO.refl _ | exact LeO.none _ | refine LeO.ite ?_ ?_ | refine LeO.bind ?_ (fun _ => ?_)) | exact ih0 .. | exact ih1 .. | exact LeO.none _ | refine LeO.ite ?_ ?_ | refine LeO.bind ?_ (fun _ => ?_))
theorem impl_table_isGroup.mono : ∀ a0 a1 k, LeO (impl_table_isGroup.f k a0 a1) (impl_table_isGroup.f (k + 1) a0 a1) := by
 intro a0 a1 k
 obtain ⟨ih0, ih1⟩ := impl_table_isGroup.mono_l k
 unfold impl_table_isGroup.f
 repeat' first | (with_reducible first | exact ih0 .. | exact ih1 .. | exact LeO.refl _ | exact LeO.none _ | refine LeO.ite ?_ ?_ | refine LeO.bind ?_ (fun _ => ?_)) | exact ih0 .. | exact ih1 .. | exact LeO.none _ | refine LeO.ite ?_ ?_ | refine LeO.bind ?_ (fun _ => ?_)
theorem impl_table_isGroup.calls (k : Nat) (A0 : Option Addr) (c0 : Nat) (l0 : List Int) (A1 : Option Addr) (c1 : Nat) (l1 : List Int) (r : Bool) (w : World) (hr0 : Kd.C (Kd.int .u16) w A0 l0.length l0) (hc0 : l0.length ≤ c0) (hr1 : Kd.C (Kd.int .i64) w A1 l1.length l1) (hc1 : l1.length ≤ c1) (h : impl_table_isGroup.f k l0 l1 = some r) :
  Calls Tryd.prog 117 #[.slice A0 l0.length c0, .slice A1 l1.length c1] w fun e w' => e = .returned (.bool r) ∧ Drawn0 w w' := by
 have HR0 := Aside0.mk hr0
 have HC0 := Aside0.mk hc0
 clear hr0 hc0
 have HR1 := Aside0.mk hr1
 have HC1 := Aside0.mk hc1
 clear hr1 hc1
 have H : (impl_table_isGroup.l0 k l0 l1 l1 (l1.length : Int) 0) = some r := h
 clear h
 have H' := Aside0.mk H
 clear H
 go_enter Tryd.func117, Tryd.ntmps117
 go_wp2
 go_loopg [11] k (fun kq v11 w' => ∃ (x11_1 : Int), v11 = .int .i64 x11_1 ∧ Aside0 (impl_table_isGroup.l0 kq l0 l1 l1 (l1.length : Int) x11_1 = some r) ∧ Aside0 (kq ≤ k) ∧ Drawn0 w w')
 case atStart => exact ⟨(0), sR, H', ⟨Nat.le_refl _⟩, by repeat (first | exact Drawn0.refl _ | apply Drawn0.step)⟩
 case round =>
  clear H'
  (try clear c1)
  obtain ⟨x11_1, rfl, HA, HK1, ⟨m1, rfl⟩⟩ := hrel
  cases gk with
  | zero => exact absurd HA.out (by simp [impl_table_isGroup.l0])
  | succ k1 =>
   have H := HA.out
   clear HA
   simp only [impl_table_isGroup.l0] at H
   by_cases c3 : x11_1 < (l1.length : Int)
   ·rw [if_pos c3] at H
    have c3b0 := decide_eq_true c3
    clear c3
    replace H := ifD H; obtain ⟨c4b0, H⟩ := H
    replace H := ifD H; obtain ⟨c5b0, H⟩ := H
    have c6b0 := eq_true (of_decide_eq_true (by first | (with_reducible assumption) | assumption) : 0 ≤ x11_1)
    replace H := ifP H; obtain ⟨c7, H⟩ := H
    have c7b0 := eq_true c7
    have c7b1 : decide (x11_1 ≤ (l1.length : Int)) = true := decide_eq_true c7
    clear c7
    have H' := Aside0.mk H
    clear H
    have p460 : 0 ≤ (x11_1 : Int) := of_decide_eq_true (by first | (with_reducible assumption) | assumption)
    have q460 : x11_1 < (l1.length : Int) := of_decide_eq_true (by first | (with_reducible assumption) | assumption)
    obtain ⟨ad460, e460, hx460_0⟩ := Kd.at_int HR1.out x11_1 p460 q460
    cases e460
    replace p460 := eq_true p460
    replace q460 := eq_true q460
    obtain ⟨i08, hi08, _, hsz8, _⟩ := info_parts info3
    obtain ⟨hcut8, hA8, hC8⟩ := print_take_of (P := Tryd.prog) (Value.int .i64) 0 32 3 .i64 Tryd.underlying32 hi08 hsz8 (some ad460) c1 l1 x11_1 (of_decide_eq_true (by first | (with_reducible assumption) | assumption)) (of_decide_eq_true (by first | (with_reducible assumption) | assumption)) HC1.out
    have HR461 := Aside0.mk (Kd.C_of_reads (h1 := fun _ => rfl) (hA8 _ (Kd.reads_of_C HR1.out)))
    have HC461 := Aside0.mk hC8
    clear hA8 hC8 hi08 hsz8
    obtain ⟨yc8, hyc8⟩ : ∃ y_, y_ = (l1.take (x11_1 : Int).toNat) := ⟨_, rfl⟩
    rw [← hyc8] at hcut8
    rw [← hyc8] at HR461
    rw [← hyc8] at HC461
    (try rw [← hyc8] at H')
    have Nyc8 := Aside0.mk hyc8
    clear hyc8
    go_wp2
    go_loopg [20] k1 (fun kq v20 w' => ∃ (x20_2 : Int), v20 = .int .i64 x20_2 ∧ Aside0 (impl_table_isGroup.l1 kq l0 l1 (rd l1 x11_1) l1 (l1.length : Int) x11_1 yc8 (yc8.length : Int) x20_2 = some r) ∧ Aside0 (kq ≤ k1) ∧ Drawn0 w w')
    case atStart => exact ⟨(0), sR, H', ⟨Nat.le_refl _⟩, by repeat (first | exact Drawn0.refl _ | apply Drawn0.step)⟩
    case round =>
     clear H'
     (try clear c1); (try clear c3); (try clear c3b0); (try clear c4b0); (try clear c5b0); (try clear c6b0); (try clear c7); (try clear c7b0); (try clear c7b1); (try clear hx460_0); (try clear p460); (try clear q460)
     obtain ⟨x20_2, rfl, HA, HK2, ⟨m2, rfl⟩⟩ := hrel
     cases gk with
     | zero => exact absurd HA.out (by simp [impl_table_isGroup.l1])
     | succ k2 =>
      have H := HA.out
      clear HA
      simp only [impl_table_isGroup.l1] at H
      by_cases c9 : x20_2 < (yc8.length : Int)
      ·rw [if_pos c9] at H
       have c9b0 := decide_eq_true c9
       clear c9
       replace H := ifD H; obtain ⟨c10b0, H⟩ := H
       replace H := ifD H; obtain ⟨c11b0, H⟩ := H
       replace H := oB H; obtain ⟨t463, A12, H⟩ := H
       by_cases c13 : t463 = true
       ·subst c13
        rw [if_pos rfl] at H
        have H' := Aside0.mk H
        clear H
        have p462 : 0 ≤ (x20_2 : Int) := of_decide_eq_true (by first | (with_reducible assumption) | assumption)
        have q462 : x20_2 < (yc8.length : Int) := of_decide_eq_true (by first | (with_reducible assumption) | assumption)
        obtain ⟨ad462, e462, hx462_0⟩ := Kd.at_int HR461.out x20_2 p462 q462
        obtain rfl : ad460 = ad462 := (by injection e462)
        replace p462 := eq_true p462
        replace q462 := eq_true q462
        go_wp2_with (first | ((with_reducible refine gate_callee (f := 99) rfl ?_); refine goC (N := some 27) Tryd.func99 #[.slice A0 l0.length c0, .int .i64 (rd l1 x11_1), .int .i64 (rd yc8 x20_2)] rfl ?_; (with_reducible refine (impl_table_has.calls _ _ l0 (rd l1 x11_1) (rd yc8 x20_2) true _ ?side1 ?side2 A12.out).mono ?_); (case side1 => exact cS HR0.out); (case side2 => exact HC0.out); rintro e w' ⟨rfl, ⟨nd, rfl⟩⟩; refine ⟨_, rfl, ?_⟩))
        go_roundg k2
        case measure => have := HK1.out; have := HK2.out; omega
        case rel => exact ⟨(wrap64 (x20_2 + 1)), sR, H', ⟨by have := HK1.out; have := HK2.out; omega⟩, by repeat (first | exact Drawn0.refl _ | apply Drawn0.step)⟩
       ·replace c13 := Bool.eq_false_iff.mpr c13
        subst c13
        replace H : (some false) = some r := by rw [if_neg (show ¬ (false = true) by decide)] at H; exact H
        obtain rfl := Option.some.inj H
        have p462 : 0 ≤ (x20_2 : Int) := of_decide_eq_true (by first | (with_reducible assumption) | assumption)
        have q462 : x20_2 < (yc8.length : Int) := of_decide_eq_true (by first | (with_reducible assumption) | assumption)
        obtain ⟨ad462, e462, hx462_0⟩ := Kd.at_int HR461.out x20_2 p462 q462
        obtain rfl : ad460 = ad462 := (by injection e462)
        replace p462 := eq_true p462
        replace q462 := eq_true q462
        go_wp2_with (first | ((with_reducible refine gate_callee (f := 99) rfl ?_); refine goC (N := some 27) Tryd.func99 #[.slice A0 l0.length c0, .int .i64 (rd l1 x11_1), .int .i64 (rd yc8 x20_2)] rfl ?_; (with_reducible refine (impl_table_has.calls _ _ l0 (rd l1 x11_1) (rd yc8 x20_2) false _ ?side1 ?side2 A12.out).mono ?_); (case side1 => exact cS HR0.out); (case side2 => exact HC0.out); rintro e w' ⟨rfl, ⟨nd, rfl⟩⟩; refine ⟨_, rfl, ?_⟩))
        go_ret
        exact ⟨by first | rfl | (simp; done) | (simp [*]; done), by repeat (first | exact Drawn0.refl _ | apply Drawn0.step)⟩
      ·rw [if_neg c9] at H
       have c9b0 := decide_eq_false c9
       clear c9
       have H' := Aside0.mk H
       clear H
       go_wp2
       go_roundg k2
       case measure => have := HK1.out; have := HK2.out; omega
       case rel => exact ⟨(wrap64 (x11_1 + 1)), sR, H', ⟨by have := HK1.out; have := HK2.out; omega⟩, by repeat (first | exact Drawn0.refl _ | apply Drawn0.step)⟩
   ·rw [if_neg c3] at H
    have c3b0 := decide_eq_false c3
    clear c3
    obtain rfl := Option.some.inj H
    go_wp2
    go_ret
    exact ⟨by first | rfl | (simp; done) | (simp [*]; done), by repeat (first | exact Drawn0.refl _ | apply Drawn0.step)⟩

/-! ### impl_IsGroup: function 47 -/
def impl_IsGroup.f (k : Nat) (a0_0 : Int) (l0_1 : List (S43)) (l1 : List Int) : Option (Bool × Bool) := (impl_IsParty.f k a0_0 l0_1).bind fun t465 => (if t465 = true then ((impl_arePeople.f k a0_0 l0_1 l1).bind fun t466 => (if t466 = true then ((impl_isRising.f k l1).bind fun t467 => (if t467 = true then ((impl_Party_table.f k a0_0 l0_1).bind fun t468 => ((impl_table_isGroup.f k t468 l1).bind fun t471 => (some (t471, true)))) else (some (false, true)))) else (some (false, true)))) else (some (false, false)))
theorem impl_IsGroup.mono : ∀ a0 a1 a2 k, LeO (impl_IsGroup.f k a0 a1 a2) (impl_IsGroup.f (k + 1) a0 a1 a2) := by
 intro a0 a1 a2 k
 unfold impl_IsGroup.f
 repeat' first | (with_reducible first | exact impl_IsParty.mono .. | exact impl_Party_table.mono .. | exact impl_arePeople.mono .. | exact impl_isRising.mono .. | exact impl_table_isGroup.mono .. | exact LeO.refl _ | exact LeO.none _ | refine LeO.ite ?_ ?_ | refine LeO.bind ?_ (fun _ => ?_)) | exact impl_IsParty.mono .. | exact impl_Party_table.mono .. | exact impl_arePeople.mono .. | exact impl_isRising.mono .. | exact impl_table_isGroup.mono .. | exact LeO.none _ | refine LeO.ite ?_ ?_ | refine LeO.bind ?_ (fun _ => ?_)
theorem impl_IsGroup.calls (k : Nat) (a0_0 : Int) (A0_1 : Option Addr) (c0_1 : Nat) (l0_1 : List (S43)) (A1 : Option Addr) (c1 : Nat) (l1 : List Int) (r1 : Bool) (r2 : Bool) (w : World) (hr0_1 : Kd.C k43 w A0_1 l0_1.length l0_1) (hc0_1 : l0_1.length ≤ c0_1) (hr1 : Kd.C (Kd.int .i64) w A1 l1.length l1) (hc1 : l1.length ≤ c1) (h : impl_IsGroup.f k a0_0 l0_1 l1 = some (r1, r2)) :
  Calls Tryd.prog 47 #[.agg #[.int .i64 a0_0, .slice A0_1 l0_1.length c0_1], .slice A1 l1.length c1] w fun e w' => e = .returned (.tuple #[.bool r1, .bool r2]) ∧ Below w.heap.size w w' := by
 have hu52 := Tryd.underlying52
 have HR0_1 := Aside0.mk hr0_1
 have HC0_1 := Aside0.mk hc0_1
 clear hr0_1 hc0_1
 have HR1 := Aside0.mk hr1
 have HC1 := Aside0.mk hc1
 clear hr1 hc1
 have HB := Aside0.mk (Below.refl w.heap.size w)
 have H : ((impl_IsParty.f k a0_0 l0_1).bind fun t465 => (if t465 = true then ((impl_arePeople.f k a0_0 l0_1 l1).bind fun t466 => (if t466 = true then ((impl_isRising.f k l1).bind fun t467 => (if t467 = true then ((impl_Party_table.f k a0_0 l0_1).bind fun t468 => ((impl_table_isGroup.f k t468 l1).bind fun t471 => (some (t471, true)))) else (some (false, true)))) else (some (false, true)))) else (some (false, false)))) = some (r1, r2) := h
 clear h
 replace H := oB H; obtain ⟨t465, A3, H⟩ := H
 by_cases c4 : t465 = true
 ·subst c4
  rw [if_pos rfl] at H
  replace H := oB H; obtain ⟨t466, A5, H⟩ := H
  by_cases c6 : t466 = true
  ·subst c6
   rw [if_pos rfl] at H
   replace H := oB H; obtain ⟨t467, A7, H⟩ := H
   by_cases c8 : t467 = true
   ·subst c8
    rw [if_pos rfl] at H
    replace H := oB H; obtain ⟨t468, A9, H⟩ := H
    replace H := Option.bind_eq_some_iff.mp H
    obtain ⟨t471, A100, H⟩ := H
    replace H : (some (t471, true)) = some (r1, r2) := H
    have A10 := Aside0.mk A100
    clear A100
    simp only [Option.some.injEq, Prod.mk.injEq] at H
    obtain ⟨rfl, rfl⟩ := H
    go_enter Tryd.func47, Tryd.ntmps47
    go_wp2_with (first | ((with_reducible refine gate_dst (N := 2) rfl ?_); refine bxE 2 #[.int .i64 a0_0, .slice A0_1 l0_1.length c0_1] 52 rfl ?_; intro gb464 hg w11 hbox hb; have BK464 := Aside0.mk (hbox); have GW464 := gS HB hg; have GE464 := gS HB hg; replace HB := hS HB hb; clear hb hbox hg; obtain ⟨hcz12_0, hcz12_1, hfz12_0, hfz12_1⟩ := cf2 BK464) | ((with_reducible refine gate_callee (f := 43) rfl ?_); refine goC (N := some 7) Tryd.func43 #[.agg #[.int .i64 a0_0, .slice A0_1 l0_1.length c0_1]] rfl ?_; (with_reducible refine (impl_IsParty.calls k a0_0 _ _ l0_1 true _ ?side1 ?side2 A3.out).mono ?_); (case side1 => exact cS (Kd.C_below HR0_1.out HB.out)); (case side2 => exact HC0_1.out); rintro e w13 ⟨rfl, hb⟩; refine ⟨_, rfl, ?_⟩; replace BK464 := bS BK464 hb; replace HB := hS HB hb; (try clear hb); obtain ⟨hcz14_0, hcz14_1, hfz14_0, hfz14_1⟩ := cf2 BK464) | ((with_reducible refine gate_callee (f := 114) rfl ?_); refine goC (N := some 11) Tryd.func114 #[.agg #[.int .i64 a0_0, .slice A0_1 l0_1.length c0_1], .slice A1 l1.length c1] rfl ?_; (with_reducible refine (impl_arePeople.calls k a0_0 _ _ l0_1 _ _ l1 true _ ?side1 ?side2 ?side3 ?side4 A5.out).mono ?_); (case side1 => exact cS (Kd.C_below HR0_1.out HB.out)); (case side2 => exact HC0_1.out); (case side3 => exact cS (Kd.C_below HR1.out HB.out)); (case side4 => exact HC1.out); rintro e w15 ⟨rfl, hb⟩; refine ⟨_, rfl, ?_⟩; replace BK464 := bS BK464 hb; replace HB := hS HB hb; (try clear hb)) | (go_at_call 116; (with_reducible refine (impl_isRising.calls k _ _ l1 true _ ?side1 ?side2 A7.out).mono ?_); (case side1 => exact cS (Kd.C_below HR1.out HB.out)); (case side2 => exact HC1.out); rintro e w' ⟨rfl, ⟨nd, rfl⟩⟩; obtain ⟨hcz16_0, hcz16_1, hfz16_0, hfz16_1⟩ := cf2 BK464) | (go_at_call 97; (with_reducible refine (impl_Party_table.calls k a0_0 _ _ l0_1 t468 _ ?side1 ?side2 A9.out).mono ?_); (case side1 => repeat (first | exact (Kd.C_below HR0_1.out hB) | (with_reducible refine Kd.C_alloc ?_ _) | (with_reducible refine Kd.C_drewN ?_ _) | (with_reducible refine Kd.C_drew ?_))); (case side2 => exact HC0_1.out); rintro e w17 ⟨v469, rfl, ho0, hb⟩; have HO470 := Aside0.mk (Kd.R_lower ho0 (below_size hB)); replace BK464 := bS BK464 hb; replace HB := hS HB hb; (try clear hb ho0); obtain ⟨Ao18, co18, eo18⟩ := Kd.R_slice HO470.out; subst eo18) | (go_at_call 117; (with_reducible refine (impl_table_isGroup.calls k _ _ t468 _ _ l1 t471 _ ?side1 ?side2 ?side3 ?side4 A10.out).mono ?_); (case side1 => exact cS (Kd.R_reads' HO470.out).2.2); (case side2 => exact (Kd.R_reads' HO470.out).2.1); (case side3 => exact cS (Kd.C_below HR1.out HB.out)); (case side4 => exact HC1.out); rintro e w' ⟨rfl, ⟨nd, rfl⟩⟩))
    go_ret2
    exact ⟨eW, hB⟩
   ·replace c8 := Bool.eq_false_iff.mpr c8
    subst c8
    replace H : (some (false, true)) = some (r1, r2) := by rw [if_neg (show ¬ (false = true) by decide)] at H; exact H
    simp only [Option.some.injEq, Prod.mk.injEq] at H
    obtain ⟨rfl, rfl⟩ := H
    go_enter Tryd.func47, Tryd.ntmps47
    go_wp2_with (first | ((with_reducible refine gate_dst (N := 2) rfl ?_); refine bxE 2 #[.int .i64 a0_0, .slice A0_1 l0_1.length c0_1] 52 rfl ?_; intro gb464 hg w19 hbox hb; have BK464 := Aside0.mk (hbox); have GW464 := gS HB hg; have GE464 := gS HB hg; replace HB := hS HB hb; clear hb hbox hg; obtain ⟨hcz20_0, hcz20_1, hfz20_0, hfz20_1⟩ := cf2 BK464) | ((with_reducible refine gate_callee (f := 43) rfl ?_); refine goC (N := some 7) Tryd.func43 #[.agg #[.int .i64 a0_0, .slice A0_1 l0_1.length c0_1]] rfl ?_; (with_reducible refine (impl_IsParty.calls k a0_0 _ _ l0_1 true _ ?side1 ?side2 A3.out).mono ?_); (case side1 => exact cS (Kd.C_below HR0_1.out HB.out)); (case side2 => exact HC0_1.out); rintro e w21 ⟨rfl, hb⟩; refine ⟨_, rfl, ?_⟩; replace BK464 := bS BK464 hb; replace HB := hS HB hb; (try clear hb); obtain ⟨hcz22_0, hcz22_1, hfz22_0, hfz22_1⟩ := cf2 BK464) | ((with_reducible refine gate_callee (f := 114) rfl ?_); refine goC (N := some 11) Tryd.func114 #[.agg #[.int .i64 a0_0, .slice A0_1 l0_1.length c0_1], .slice A1 l1.length c1] rfl ?_; (with_reducible refine (impl_arePeople.calls k a0_0 _ _ l0_1 _ _ l1 true _ ?side1 ?side2 ?side3 ?side4 A5.out).mono ?_); (case side1 => exact cS (Kd.C_below HR0_1.out HB.out)); (case side2 => exact HC0_1.out); (case side3 => exact cS (Kd.C_below HR1.out HB.out)); (case side4 => exact HC1.out); rintro e w23 ⟨rfl, hb⟩; refine ⟨_, rfl, ?_⟩; replace BK464 := bS BK464 hb; replace HB := hS HB hb; (try clear hb)) | (go_at_call 116; (with_reducible refine (impl_isRising.calls k _ _ l1 false _ ?side1 ?side2 A7.out).mono ?_); (case side1 => exact cS (Kd.C_below HR1.out HB.out)); (case side2 => exact HC1.out); rintro e w' ⟨rfl, ⟨nd, rfl⟩⟩))
    go_ret2
    exact ⟨eW, hB⟩
  ·replace c6 := Bool.eq_false_iff.mpr c6
   subst c6
   replace H : (some (false, true)) = some (r1, r2) := by rw [if_neg (show ¬ (false = true) by decide)] at H; exact H
   simp only [Option.some.injEq, Prod.mk.injEq] at H
   obtain ⟨rfl, rfl⟩ := H
   go_enter Tryd.func47, Tryd.ntmps47
   go_wp2_with (first | ((with_reducible refine gate_dst (N := 2) rfl ?_); refine bxE 2 #[.int .i64 a0_0, .slice A0_1 l0_1.length c0_1] 52 rfl ?_; intro gb464 hg w24 hbox hb; have BK464 := Aside0.mk (hbox); have GW464 := gS HB hg; have GE464 := gS HB hg; replace HB := hS HB hb; clear hb hbox hg; obtain ⟨hcz25_0, hcz25_1, hfz25_0, hfz25_1⟩ := cf2 BK464) | ((with_reducible refine gate_callee (f := 43) rfl ?_); refine goC (N := some 7) Tryd.func43 #[.agg #[.int .i64 a0_0, .slice A0_1 l0_1.length c0_1]] rfl ?_; (with_reducible refine (impl_IsParty.calls k a0_0 _ _ l0_1 true _ ?side1 ?side2 A3.out).mono ?_); (case side1 => exact cS (Kd.C_below HR0_1.out HB.out)); (case side2 => exact HC0_1.out); rintro e w26 ⟨rfl, hb⟩; refine ⟨_, rfl, ?_⟩; replace BK464 := bS BK464 hb; replace HB := hS HB hb; (try clear hb); obtain ⟨hcz27_0, hcz27_1, hfz27_0, hfz27_1⟩ := cf2 BK464) | ((with_reducible refine gate_callee (f := 114) rfl ?_); refine goC (N := some 11) Tryd.func114 #[.agg #[.int .i64 a0_0, .slice A0_1 l0_1.length c0_1], .slice A1 l1.length c1] rfl ?_; (with_reducible refine (impl_arePeople.calls k a0_0 _ _ l0_1 _ _ l1 false _ ?side1 ?side2 ?side3 ?side4 A5.out).mono ?_); (case side1 => exact cS (Kd.C_below HR0_1.out HB.out)); (case side2 => exact HC0_1.out); (case side3 => exact cS (Kd.C_below HR1.out HB.out)); (case side4 => exact HC1.out); rintro e w28 ⟨rfl, hb⟩; refine ⟨_, rfl, ?_⟩; replace BK464 := bS BK464 hb; replace HB := hS HB hb; (try clear hb)))
   go_ret2
   exact ⟨eW, hB⟩
 ·replace c4 := Bool.eq_false_iff.mpr c4
  subst c4
  replace H : (some (false, false)) = some (r1, r2) := by rw [if_neg (show ¬ (false = true) by decide)] at H; exact H
  simp only [Option.some.injEq, Prod.mk.injEq] at H
  obtain ⟨rfl, rfl⟩ := H
  go_enter Tryd.func47, Tryd.ntmps47
  go_wp2_with (first | ((with_reducible refine gate_dst (N := 2) rfl ?_); refine bxE 2 #[.int .i64 a0_0, .slice A0_1 l0_1.length c0_1] 52 rfl ?_; intro gb464 hg w29 hbox hb; have BK464 := Aside0.mk (hbox); have GW464 := gS HB hg; have GE464 := gS HB hg; replace HB := hS HB hb; clear hb hbox hg; obtain ⟨hcz30_0, hcz30_1, hfz30_0, hfz30_1⟩ := cf2 BK464) | ((with_reducible refine gate_callee (f := 43) rfl ?_); refine goC (N := some 7) Tryd.func43 #[.agg #[.int .i64 a0_0, .slice A0_1 l0_1.length c0_1]] rfl ?_; (with_reducible refine (impl_IsParty.calls k a0_0 _ _ l0_1 false _ ?side1 ?side2 A3.out).mono ?_); (case side1 => exact cS (Kd.C_below HR0_1.out HB.out)); (case side2 => exact HC0_1.out); rintro e w31 ⟨rfl, hb⟩; refine ⟨_, rfl, ?_⟩; replace BK464 := bS BK464 hb; replace HB := hS HB hb; (try clear hb)))
  go_ret2
  exact ⟨eW, hB⟩

/-! ### laws_vLess: function 48 -/
def laws_vLess.l0 : Nat → List Int → List Int → Int → Int → Option (Bool)
 | 0, _, _, _, _ => none
 | k + 1, x0, x1, x7, x8 => if x8 < x7 then (if x8 ≥ (x1.length : Int) then (some false) else (if 0 ≤ x8 then (if x8 < (x0.length : Int) then (if x8 < (x1.length : Int) then (if (rd x0 x8) = (rd x1 x8) then (laws_vLess.l0 k x0 x1 x7 (wrap64 (x8 + 1))) else (some (decide ((rd x0 x8) < (rd x1 x8))))) else (none)) else (none)) else (none))) else (some (decide ((x0.length : Int) < (x1.length : Int))))
def laws_vLess.f (k : Nat) (l0 : List Int) (l1 : List Int) : Option (Bool) := laws_vLess.l0 k l0 l1 (l0.length : Int) 0
theorem laws_vLess.mono_l : ∀ k, (∀ y0 y1 y2 y3, LeO (laws_vLess.l0 k y0 y1 y2 y3) (laws_vLess.l0 (k + 1) y0 y1 y2 y3))
 | 0 => fun _ _ _ _ r h => by simp [laws_vLess.l0] at h
 | k + 1 => by
  have ih0 := laws_vLess.mono_l k
  ·intro y0 y1 y2 y3
   unfold laws_vLess.l0
   repeat' first | (with_reducible first | exact ih0 .. | exact LeO.refl _ | exact LeO.none _ | refine LeO.ite ?_ ?_ | refine LeO.bind ?_ (fun _ => ?_)) | exact ih0 .. | exact LeO.none _ | refine LeO.ite ?_ ?_ | refine LeO.bind ?_ (fun _ => ?_)
theorem laws_vLess.mono : ∀ a0 a1 k, LeO (laws_vLess.f k a0 a1) (laws_vLess.f (k + 1) a0 a1) := by
 intro a0 a1 k
 have ih0 := laws_vLess.mono_l k
 unfold laws_vLess.f
 repeat' first | (with_reducible first | exact ih0 .. | exact LeO.refl _ | exact LeO.none _ | refine LeO.ite ?_ ?_ | refine LeO.bind ?_ (fun _ => ?_)) | exact ih0 .. | exact LeO.none _ | refine LeO.ite ?_ ?_ | refine LeO.bind ?_ (fun _ => ?_)
theorem laws_vLess.calls (k : Nat) (A0 : Option Addr) (c0 : Nat) (l0 : List Int) (A1 : Option Addr) (c1 : Nat) (l1 : List Int) (r : Bool) (w : World) (hr0 : Kd.C (Kd.int .i64) w A0 l0.length l0) (hc0 : l0.length ≤ c0) (hr1 : Kd.C (Kd.int .i64) w A1 l1.length l1) (hc1 : l1.length ≤ c1) (h : laws_vLess.f k l0 l1 = some r) :
  Calls Tryd.prog 48 #[.slice A0 l0.length c0, .slice A1 l1.length c1] w fun e w' => e = .returned (.bool r) ∧ Drawn0 w w' := by
 have HR0 := Aside0.mk hr0
 have HC0 := Aside0.mk hc0
 clear hr0 hc0
 have HR1 := Aside0.mk hr1
 have HC1 := Aside0.mk hc1
 clear hr1 hc1
 have H : (laws_vLess.l0 k l0 l1 (l0.length : Int) 0) = some r := h
 clear h
 have H' := Aside0.mk H
 clear H
 go_enter Tryd.func48, Tryd.ntmps48
 go_wp2
 repeat (go_quiet (fail); try go_wp2)
 go_loopg [8] k (fun kq v8 w' => ∃ (x8_1 : Int), v8 = .int .i64 x8_1 ∧ Aside0 (laws_vLess.l0 kq l0 l1 (l0.length : Int) x8_1 = some r) ∧ Aside0 (kq ≤ k) ∧ Drawn0 w w')
 case atStart => exact ⟨(0), sR, H', ⟨Nat.le_refl _⟩, by repeat (first | exact Drawn0.refl _ | apply Drawn0.step)⟩
 case round =>
  clear H'
  (try clear c1)
  obtain ⟨x8_1, rfl, HA, HK1, ⟨m1, rfl⟩⟩ := hrel
  cases gk with
  | zero => exact absurd HA.out (by simp [laws_vLess.l0])
  | succ k1 =>
   have H := HA.out
   clear HA
   simp only [laws_vLess.l0] at H
   by_cases c3 : x8_1 < (l0.length : Int)
   ·rw [if_pos c3] at H
    have c3b0 := decide_eq_true c3
    clear c3
    by_cases c4 : x8_1 ≥ (l1.length : Int)
    ·rw [if_pos c4] at H
     have c4b0 : decide ((l1.length : Int) ≤ x8_1) = true := decide_eq_true c4
     clear c4
     obtain rfl := Option.some.inj H
     go_wp2
     repeat (go_quiet (fail); try go_wp2)
     go_ret
     exact ⟨by first | rfl | (simp; done) | (simp [*]; done), by repeat (first | exact Drawn0.refl _ | apply Drawn0.step)⟩
    ·rw [if_neg c4] at H
     have c4b0 : decide ((l1.length : Int) ≤ x8_1) = false := decide_eq_false c4
     clear c4
     replace H := ifD H; obtain ⟨c5b0, H⟩ := H
     replace H := ifD H; obtain ⟨c6b0, H⟩ := H
     replace H := ifD H; obtain ⟨c7b0, H⟩ := H
     by_cases c8 : (rd l0 x8_1) = (rd l1 x8_1)
     ·rw [if_pos c8] at H
      have c8b0 : ((rd l0 x8_1) == (rd l1 x8_1)) = true := beq_iff_eq.mpr c8
      have c8b1 : ((rd l0 x8_1) != (rd l1 x8_1)) = false := bne_eq_false_iff_eq.mpr c8
      clear c8
      have H' := Aside0.mk H
      clear H
      have p472 : 0 ≤ (x8_1 : Int) := of_decide_eq_true (by first | (with_reducible assumption) | assumption)
      have q472 : x8_1 < (l0.length : Int) := of_decide_eq_true (by first | (with_reducible assumption) | assumption)
      obtain ⟨ad472, e472, hx472_0⟩ := Kd.at_int HR0.out x8_1 p472 q472
      cases e472
      replace p472 := eq_true p472
      replace q472 := eq_true q472
      have p473 : 0 ≤ (x8_1 : Int) := of_decide_eq_true (by first | (with_reducible assumption) | assumption)
      have q473 : x8_1 < (l1.length : Int) := of_decide_eq_true (by first | (with_reducible assumption) | assumption)
      obtain ⟨ad473, e473, hx473_0⟩ := Kd.at_int HR1.out x8_1 p473 q473
      cases e473
      replace p473 := eq_true p473
      replace q473 := eq_true q473
      go_wp2
      repeat (go_quiet (fail); try go_wp2)
      go_roundg k1
      case measure => have := HK1.out; omega
      case rel => exact ⟨(wrap64 (x8_1 + 1)), sR, H', ⟨by have := HK1.out; omega⟩, by repeat (first | exact Drawn0.refl _ | apply Drawn0.step)⟩
     ·rw [if_neg c8] at H
      have c8b0 : ((rd l0 x8_1) == (rd l1 x8_1)) = false := beq_eq_false_iff_ne.mpr c8
      have c8b1 : ((rd l0 x8_1) != (rd l1 x8_1)) = true := bne_iff_ne.mpr c8
      obtain rfl := Option.some.inj H
      have p472 : 0 ≤ (x8_1 : Int) := of_decide_eq_true (by first | (with_reducible assumption) | assumption)
      have q472 : x8_1 < (l0.length : Int) := of_decide_eq_true (by first | (with_reducible assumption) | assumption)
      obtain ⟨ad472, e472, hx472_0⟩ := Kd.at_int HR0.out x8_1 p472 q472
      cases e472
      replace p472 := eq_true p472
      replace q472 := eq_true q472
      have p473 : 0 ≤ (x8_1 : Int) := of_decide_eq_true (by first | (with_reducible assumption) | assumption)
      have q473 : x8_1 < (l1.length : Int) := of_decide_eq_true (by first | (with_reducible assumption) | assumption)
      obtain ⟨ad473, e473, hx473_0⟩ := Kd.at_int HR1.out x8_1 p473 q473
      cases e473
      replace p473 := eq_true p473
      replace q473 := eq_true q473
      have p474 : 0 ≤ (x8_1 : Int) := of_decide_eq_true (by first | (with_reducible assumption) | assumption)
      have q474 : x8_1 < (l0.length : Int) := of_decide_eq_true (by first | (with_reducible assumption) | assumption)
      obtain ⟨ad474, e474, hx474_0⟩ := Kd.at_int HR0.out x8_1 p474 q474
      obtain rfl : ad472 = ad474 := (by injection e474)
      replace p474 := eq_true p474
      replace q474 := eq_true q474
      have p475 : 0 ≤ (x8_1 : Int) := of_decide_eq_true (by first | (with_reducible assumption) | assumption)
      have q475 : x8_1 < (l1.length : Int) := of_decide_eq_true (by first | (with_reducible assumption) | assumption)
      obtain ⟨ad475, e475, hx475_0⟩ := Kd.at_int HR1.out x8_1 p475 q475
      obtain rfl : ad473 = ad475 := (by injection e475)
      replace p475 := eq_true p475
      replace q475 := eq_true q475
      go_wp2
      repeat (go_quiet (fail); try go_wp2)
      go_ret
      exact ⟨by first | rfl | (simp; done) | (simp [*]; done), by repeat (first | exact Drawn0.refl _ | apply Drawn0.step)⟩
   ·rw [if_neg c3] at H
    have c3b0 := decide_eq_false c3
    clear c3
    obtain rfl := Option.some.inj H
    go_wp2
    repeat (go_quiet (fail); try go_wp2)
    go_ret
    exact ⟨by first | rfl | (simp; done) | (simp [*]; done), by repeat (first | exact Drawn0.refl _ | apply Drawn0.step)⟩

end Go.Proofs.YtbjmkkgejekpnaaDoor.PFnThreesCounted
