-- Of this session's own program wip/gen/gen.py (it drives the kit's print): contracts of the functions that the law reaches.
import Derived.LoopIn
import Derived.LoopNIn
import Derived.OwnWalkIn
import Derived.RangeFuncBox
import Derived.RangeFuncCalls
import Derived.RangeFuncLeaves
import Derived.RangeFuncWrites
import Derived.Shelf.RegionOpen
import Derived.TacticsInMore
import Derived.Test.YtfehaoadnbcgoaaDoorPFnExactParsePuzzlex0
import Derived.Test.YtfehaoadnbcgoaaDoorPFnExactParsePuzzlex5
import Derived.Test.YtfehaoadnbcgoaaDoorPFnExactParsePuzzlex6
import Derived.Test.YtfehaoadnbcgoaaDoorPFnExactParsePuzzlex7
namespace Go.Proofs.YtfehaoadnbcgoaaDoor.PFnExactParsePuzzle
open Go.RowKit Go.Proofs.YtfehaoadnbcgoaaDoorW.PrintWords Go.Proofs.YtfehaoadnbcgoaaDoorW.PrintLast Go.Proofs.YtfehaoadnbcgoaaDoorW.PrintMore Go.Proofs.YtfehaoadnbcgoaaDoor.Base
attribute [local go_sem] max2_int min2_int max_two min_two max_three min_three max_four min_four   -- for this text's walks alone
set_option linter.unusedVariables false
set_option linter.unusedSimpArgs false

/-! ### impl_ParsePuzzle: function 28 (a text of this session's own) -/
-- WANTS Derived.RangeFuncBox
-- WANTS Derived.RangeFuncLeaves
-- WANTS Derived.RangeFuncCalls
-- WANTS Derived.RangeFuncWrites
-- WANTS Derived.Shelf.RegionOpen
-- WANTS Derived.OwnWalkIn
-- WANTS Derived.TacticsInMore
-- WANTS Derived.LoopNIn
-- WANTS Derived.LoopIn
attribute [local go_sem] Oper.semAt_some

def impl_ParsePuzzle.T7 : Bool × List (List Nat × List Nat) := (true, [([], []), ([0], [0]), ([], []), ([2], [2]), ([3], [3]), ([], []), ([5], [5]), ([6], [6]), ([], []), ([8], [8]), ([9], [9]), ([4, 7, 10], [4, 7, 10]), ([11], [11]), ([1, 12], [1, 12]), ([0, 1, 2, 3, 4, 5, 6, 7, 8, 9, 10, 11, 12, 13], []), ([14, 13, 13, 0, 1, 2, 3, 4, 5, 6, 7, 8, 9, 10, 11, 12, 13], [13, 14])])
def impl_ParsePuzzle.B7 : List Nat := [0, 1, 0, 4, 12, 0, 32, 96, 0, 256, 768, 2044, 4092, 8191, 16383, 32767]
theorem impl_ParsePuzzle.tab7 : rtab .any (opsOf Tryd.f28 7) = impl_ParsePuzzle.T7 := by kernel_rfl
theorem impl_ParsePuzzle.bits7 : waitsOk impl_ParsePuzzle.T7.2 impl_ParsePuzzle.B7 = true := by kernel_rfl
/-- The clues that stand behind a number. -/
def impl_ParsePuzzle.pr (zs : List Int) (m x : Nat) : S89 := ⟨zs.getD (1 + 3 * (x % m)) 0, zs.getD (1 + 3 * (x % m) + 1) 0, zs.getD (1 + 3 * (x % m) + 2) 0⟩
/-- No operation of a region defers a call. -/
def impl_ParsePuzzle.calm (ops : Array Oper) : Bool := ops.all fun o => match o.op with | .defer _ => false | _ => true
theorem impl_ParsePuzzle.calm_at {ops : Array Oper} (h : impl_ParsePuzzle.calm ops = true) (i : Nat) (o : Oper) (ho : ops[i]? = some o) : ∀ c, o.op ≠ .defer c := by
  intro c e
  have h2 := Array.all_eq_true.mp h i (Array.getElem?_eq_some_iff.mp ho).1
  rw [(Array.getElem?_eq_some_iff.mp ho).2, e] at h2
  cases h2
theorem impl_ParsePuzzle.opIn {P : Program} {ops : Array Oper} {Q : Exit → Act → World → Prop} (l n i : Nat) (hd : impl_ParsePuzzle.calm ops = true) (hQ : ¬ LetsOut Q) {K : Act → World → Prop} {a : Act} {w : World} (h : wpOp P ops Q i K a w) : wpOpIn (Fence.wide.inRound l) n P ops Q i K a w := by
  unfold wpOp at h
  unfold wpOpIn
  cases ho : ops[i]? with
  | none => simp only [ho] at h ⊢; exact h
  | some o =>
    simp only [ho] at h ⊢
    by_cases hw : Region.wanted o (yielded ops a.tmps) = true
    · rw [if_pos hw] at h ⊢
      rcases h with h | h
      · refine ⟨fun _ _ => trivial, ?_⟩
        rw [show (Fence.wide.inRound l).round = some l from rfl, Oper.semAt_some l _ _ (impl_ParsePuzzle.calm_at hd i o ho)]
        unfold Oper.wp at h
        generalize (execOp a.eval o).run P w = r at h ⊢
        cases r with
        | ok x w' =>
          cases x with
          | value v => exact h
          | skip => exact h
          | defer d => exact h
          | enter f args => exact ⟨(fun h => by cases h), CallsIn.inRound l ((callsIn_wide.2 h).mono fun e w'' he => by cases e <;> exact he)⟩
          | row row args => exact ⟨(fun h => by cases h), fun c cs _ => let ⟨v, w', r, s⟩ := h c cs; ⟨v, w', r, stepsIn_wide.2 s⟩⟩
          | round l f tmps assign body => exact h.elim
          | _ => exact h.elim
        | halt x w' => cases x <;> first | exact h | exact h.elim
      · exact absurd h.2 hQ
    · rw [if_neg hw] at h ⊢
      exact ⟨fun _ _ => trivial, h⟩
theorem impl_ParsePuzzle.anyIn {P : Program} {ops : Array Oper} {Q : Exit → Act → World → Prop} {md : Region.Mode} (l n : Nat) (hd : impl_ParsePuzzle.calm ops = true) (hQ : ¬ LetsOut Q) : ∀ (fuel : Nat) (listed : Array Bool) (a : Act) (w : World), wpAny P md ops Q fuel listed a w → wpAnyIn (Fence.wide.inRound l) n P md ops Q fuel listed a w
  | 0, _, _, _, h => h
  | fuel + 1, _, _, _, h => ⟨h.1, fun i hi => wpOpIn_mono (fun a w => impl_ParsePuzzle.anyIn l n hd hQ fuel _ a w) (impl_ParsePuzzle.opIn l n i hd hQ (h.2 i hi))⟩
/-- A drawn region within a round, walked as one outside. -/
theorem impl_ParsePuzzle.start_in {P : Program} {ops : Array Oper} {Q : Exit → Act → World → Prop} {S : World → Prop} {ds : List Nat} {id n r nn : Nat} {a : Act} {w : World} (l : Array Bool) (hm : P.follows .mixedOrders = true) (hn : ops.size = n) (hl : Array.replicate n false = l) (hd : impl_ParsePuzzle.calm ops = true) (hQ : ¬ LetsOut Q) (hS : S w.drew)
    (h : S w.drew → wpAnyLast P .any ops Q S ds n l a w.drew) : (Code.region id ops true).wpIn (Fence.wide.inRound r) nn P Q a w := by
  subst hn
  subst hl
  exact wpIn_region_any hm (impl_ParsePuzzle.anyIn r nn hd hQ _ _ _ _ (wpAny_of_last _ _ _ _ (h hS)))
/-- A row stands where a block that is no cells has turned. -/
theorem impl_ParsePuzzle.row_from {α : Type} {d : Kd α} {e base : Nat} {ok : Nat → Prop} {v : Value} {xs : List α} {W W' : World} {row : Option Nat} (h : d.R e W base ok v xs) (hg : W.grownBy W' row) (hr : ∀ r, row = some r → ∃ o : Obj, W.heap[r]? = some o ∧ o.isCells = false) : d.R e W' base ok v xs :=
  Kd.R_mono (Kd.R_grown (Kd.R_bound h) hg (fun k hk he => by
    obtain ⟨_, _, _, _, _, cells, hc⟩ := hk
    obtain ⟨o, ho, hcc⟩ := hr k he.symm
    rw [hc] at ho
    cases ho
    cases hcc)) (fun _ hk => hk.1)
/-- What stands between two rounds. -/
structure impl_ParsePuzzle.In (w : World) (z0 : Int) (g2 g4 c4 g6 Bs Bn m o1 : Nat) (zs : List Int) (pre : List Nat) (W : World) : Prop where
  row : ∃ Av cv, W.heap[g6]? = some (.cells #[.int .i64 z0, .slice Av pre.length cv] 53 (0, 0)) ∧ Kd.R k89 89 W w.heap.size (fun _ => True) (.slice Av pre.length cv) (pre.map (impl_ParsePuzzle.pr zs m))
  nums : Kd.R (Kd.int .i64) 3 W w.heap.size (fun _ => True) (.slice (some ⟨g4, 0, none⟩) (3 * m + 1) c4) zs
  res : W.heap[g2]? = some (.cells #[.int .i64 0, .slice none 0 0] 53 (0, 0))
  bs : W.heap[Bs]? = some (.cells #[.slice (some ⟨g4, o1, none⟩) (3 * m) (c4 - 1)] 24 (0, 0))
  bn : W.heap[Bn]? = some (.cells #[.int .i64 ((3 : Nat) : Int)] 3 (0, 0))
  below : Below w.heap.size w W
theorem impl_ParsePuzzle.In.own {w : World} {z0 : Int} {g2 g4 c4 g6 Bs Bn m o1 B : Nat} {zs : List Int} (hB : w.heap.size ≤ B) : OwnFrom B (impl_ParsePuzzle.In w z0 g2 g4 c4 g6 Bs Bn m o1 zs) := by
  intro pre W W' row h hg hr
  have hr2 := fun r e => (hr r e).2
  obtain ⟨Av, cv, h6, hv⟩ := h.row
  exact ⟨⟨Av, cv, (grownBy_keeps_cells hg hr2 h6 rfl).trans h6, impl_ParsePuzzle.row_from hv hg hr2⟩, impl_ParsePuzzle.row_from h.nums hg hr2, (grownBy_keeps_cells hg hr2 h.res rfl).trans h.res, (grownBy_keeps_cells hg hr2 h.bs rfl).trans h.bs, (grownBy_keeps_cells hg hr2 h.bn rfl).trans h.bn, h.below.grown hg h.below.size (fun k e => Nat.le_trans hB (hr k e).1)⟩
theorem impl_ParsePuzzle.cutAt (g4 c4 m : Nat) (h : 3 * m + 1 ≤ c4) : ∃ o_, (if c4 = 1 then some (⟨g4, 0, none⟩ : Addr) else some ⟨g4, 1, none⟩) = some ⟨g4, o_, none⟩ ∧ (0 < m → o_ = 1) := by
  by_cases e : c4 = 1
  · exact ⟨0, by rw [if_pos e], fun _ => by omega⟩
  · exact ⟨1, by rw [if_neg e], fun _ => rfl⟩
theorem impl_ParsePuzzle.row_cells {e : TypeId} {W : World} {base : Nat} {ok : Nat → Prop} {g n cap : Nat} {zs : List Int} (h : Kd.R (Kd.int .i64) e W base ok (.slice (some ⟨g, 0, none⟩) n cap) zs) (j : Nat) (hj : j < zs.length) : W.cell? ⟨g, j, none⟩ = some (.int .i64 (zs.getD j 0)) := by
  obtain ⟨rfl, _, hr⟩ := Kd.R_reads' h
  obtain ⟨ad, e1, hx⟩ := Kd.at_int hr (j : Int) (by omega) (by omega)
  cases e1
  rw [add_plain, Int.toNat_natCast] at hx
  exact hx
/-- What comes of the numbers that a text holds. -/
def impl_ParsePuzzle.fin (k : Nat) (a0 : ByteArray) (zs : List Int) : Option (Int × (List (S89)) × Bool) :=
  if zs.length % 3 = 1 then ((impl_IsPuzzle.f (zs.getD 0 0) ((List.range (zs.length / 3)).map (impl_ParsePuzzle.pr zs (zs.length / 3)))).bind fun b => if b = true then ((impl_puzzleText.f k (zs.getD 0 0) ((List.range (zs.length / 3)).map (impl_ParsePuzzle.pr zs (zs.length / 3)))).bind fun t => if t = a0 then some (zs.getD 0 0, ((List.range (zs.length / 3)).map (impl_ParsePuzzle.pr zs (zs.length / 3))), true) else some (0, ([] : List (S89)), false)) else some (0, ([] : List (S89)), false)) else some (0, ([] : List (S89)), false)
def impl_ParsePuzzle.f (k : Nat) (a0 : ByteArray) : Option (Int × (List (S89)) × Bool) :=
  if a0.size ≤ 1048576 then (match impl_numbersIn.nums 10 (Lib.goFieldsP (strings_IndexRune.sg ⟨#[58, 46, 44]⟩) a0) with | none => some (0, ([] : List (S89)), false) | some zs => impl_ParsePuzzle.fin k a0 zs) else none
theorem impl_ParsePuzzle.mono : ∀ a0 k, LeO (impl_ParsePuzzle.f k a0) (impl_ParsePuzzle.f (k + 1) a0) := by
  intro a0 k
  unfold impl_ParsePuzzle.f
  refine LeO.ite ?_ (LeO.none _)
  cases impl_numbersIn.nums 10 (Lib.goFieldsP (strings_IndexRune.sg ⟨#[58, 46, 44]⟩) a0) with
  | none => exact LeO.refl _
  | some zs =>
    show LeO (impl_ParsePuzzle.fin k a0 zs) (impl_ParsePuzzle.fin (k + 1) a0 zs)
    unfold impl_ParsePuzzle.fin
    repeat' first
      | (with_reducible exact impl_puzzleText.mono _ _ _)
      | (with_reducible exact LeO.refl _)
      | (with_reducible exact LeO.none _)
      | (with_reducible refine LeO.ite ?_ ?_)
      | (with_reducible refine LeO.bind ?_ (fun _ => ?_))
theorem impl_ParsePuzzle.ne_list {T s : ByteArray} (h : ¬ T = s) : (T.toList == s.toList) = false := impl_number.ne_list h
set_option maxHeartbeats 4000000 in
set_option maxRecDepth 100000 in
theorem impl_ParsePuzzle.bad (s : ByteArray) (hs : s.size ≤ 1048576) (w : World) (hG : GTab 0 w) (h : match impl_numbersIn.nums 10 (Lib.goFieldsP (strings_IndexRune.sg ⟨#[58, 46, 44]⟩) s) with | none => True | some zs => zs.length % 3 ≠ 1) :
    Calls Tryd.prog 28 #[.string s] w fun e w' => ∃ v1_ : Value, e = .returned (.tuple #[.agg #[.int .i64 0, v1_], .bool false]) ∧ Kd.R k89 89 w' w.heap.size (fun _ => True) v1_ [] ∧ Below w.heap.size w w' := by
  have HG := Aside0.mk (p := GTab _ _) hG
  have HB := Aside0.mk (Below.refl w.heap.size w)
  clear hG
  obtain ⟨rr, hrr⟩ : ∃ r_, r_ = impl_numbersIn.nums 10 (Lib.goFieldsP (strings_IndexRune.sg ⟨#[58, 46, 44]⟩) s) := ⟨_, rfl⟩
  have HN := Aside0.mk (fun w hG => impl_numbersIn.calls s hs 10 w hG)
  rw [← hrr] at h HN
  clear hrr
  have hu := Tryd.underlying53
  cases rr with
  | none =>
    clear h
    go_enter Tryd.func28, Tryd.ntmps28
    go_wp2_with (first
      | ((with_reducible refine gate_dst (N := 2) rfl ?_); refine bxE 2 #[.int .i64 0, .slice none 0 0] 53 rfl ?_; intro g2 hg w2 hbox hb; have BK2 := Aside0.mk hbox; have GE2 := gS HB hg; replace HB := hS HB hb; have h20 := cz BK2 0; have h21 := cz BK2 1; have f20 := fz BK2 0; have f21 := fz BK2 1; clear hg hbox hb)
      | (go_at_call 56; refine (HN.out _ (GTab.up HG.out HB.out)).mono ?_; rintro e w4 ⟨v4, rfl, _, hb⟩; replace BK2 := bS BK2 hb; replace HB := hS HB hb; clear hb h20 h21 f20 f21; have h20 := cz BK2 0; have h21 := cz BK2 1; have f20 := fz BK2 0; have f21 := fz BK2 1))
    have X2 := blk_put (cs := #[.int .i64 0, .slice none 0 0]) (blk_put (cs := #[.int .i64 0, .slice none 0 0]) BK2.out 0 (.int .i64 0) rfl) 1 (.slice none 0 0) rfl
    have XB := below_set (below_set HB.out GE2.out : Below w.heap.size w (w4.setCell ⟨g2, 0, none⟩ (.int .i64 0))) GE2.out (j := 1) (v := .slice none 0 0)
    refine bodyPost_ret (results_ct rfl _ _ g2 53 #[.int .i64 0, .slice none 0 0] (0, 0) _ rfl X2 Tryd.underlying53 rfl (by kernel_rfl)) rfl ?_
    exact ⟨_, rfl, Kd.R_nil _ _ _ _ _, XB⟩
  | some zs =>
    have h3 : ¬ zs.length % 3 = 1 := h
    clear h
    go_enter Tryd.func28, Tryd.ntmps28
    go_wp2_with (first
      | ((with_reducible refine gate_dst (N := 2) rfl ?_); refine bxE 2 #[.int .i64 0, .slice none 0 0] 53 rfl ?_; intro g2 hg w2 hbox hb; have BK2 := Aside0.mk hbox; have GE2 := gS HB hg; replace HB := hS HB hb; have h20 := cz BK2 0; have h21 := cz BK2 1; have f20 := fz BK2 0; have f21 := fz BK2 1; clear hg hbox hb)
      | (go_at_call 56; refine (HN.out _ (GTab.up HG.out HB.out)).mono ?_; rintro e w4 ⟨v4, rfl, ho, hb⟩; replace BK2 := bS BK2 hb; replace HB := hS HB hb; clear hb h20 h21 f20 f21; have h20 := cz BK2 0; have h21 := cz BK2 1; have f20 := fz BK2 0; have f21 := fz BK2 1; obtain ⟨A4, c4, e4⟩ := Kd.R_slice ho; subst e4; clear ho))
    have X2 := blk_put (cs := #[.int .i64 0, .slice none 0 0]) (blk_put (cs := #[.int .i64 0, .slice none 0 0]) BK2.out 0 (.int .i64 0) rfl) 1 (.slice none 0 0) rfl
    have XB := below_set (below_set HB.out GE2.out : Below w.heap.size w (w4.setCell ⟨g2, 0, none⟩ (.int .i64 0))) GE2.out (j := 1) (v := .slice none 0 0)
    refine bodyPost_ret (results_ct rfl _ _ g2 53 #[.int .i64 0, .slice none 0 0] (0, 0) _ rfl X2 Tryd.underlying53 rfl (by kernel_rfl)) rfl ?_
    exact ⟨_, rfl, Kd.R_nil _ _ _ _ _, XB⟩
set_option maxHeartbeats 4000000 in
set_option maxRecDepth 100000 in
theorem impl_ParsePuzzle.good (k : Nat) (s : ByteArray) (hs : s.size ≤ 1048576) (zs : List Int) (m : Nat) (hzl : zs.length = 3 * m + 1) (ps : List S89) (hps : ps = (List.range m).map (impl_ParsePuzzle.pr zs m)) (w : World) (hG : GTab 0 w)
    (h : impl_numbersIn.nums 10 (Lib.goFieldsP (strings_IndexRune.sg ⟨#[58, 46, 44]⟩) s) = some zs) (hml : m ≤ 400000) (r1 : Int) (r2 : List S89) (r3 : Bool)
    (hr : ((impl_IsPuzzle.f (zs.getD 0 0) ps).bind fun b => if b = true then ((impl_puzzleText.f k (zs.getD 0 0) ps).bind fun t => if t = s then some (zs.getD 0 0, ps, true) else some (0, ([] : List (S89)), false)) else some (0, ([] : List (S89)), false)) = some (r1, r2, r3)) :
    Calls Tryd.prog 28 #[.string s] w fun e w' => ∃ v1_ : Value, e = .returned (.tuple #[.agg #[.int .i64 r1, v1_], .bool r3]) ∧ Kd.R k89 89 w' w.heap.size (fun _ => True) v1_ r2 ∧ Below w.heap.size w w' := by
  have HG := Aside0.mk (p := GTab _ _) hG
  have HB := Aside0.mk (Below.refl w.heap.size w)
  clear hG
  have HNI := Aside0.mk (fun w hG => impl_numbersIn.calls s hs 10 w hG)
  rw [h] at HNI
  have HPS := Aside0.mk hps
  have HZL := Aside0.mk hzl
  have HR := Aside0.mk hr
  obtain ⟨z0, hz0⟩ : ∃ z_, z_ = zs.getD 0 0 := ⟨_, rfl⟩
  rw [← hz0] at HR
  have HZ0 := Aside0.mk hz0
  clear hr hps hzl hz0 h
  refine (callsIn_wide (n := 3)).1 (callsIn_of_wp_marks Tryd.func28 rfl trivial (wpIn_wide.2 ?_) rfl)
  simp only [Tryd.ntmps28, List.size_toArray, List.length_cons, List.length_nil, Nat.reduceAdd, Nat.reduceSub, Array.replicate_succ, Array.replicate_zero, List.push_toArray, List.append_toArray, List.nil_append, List.cons_append]
  go_wp2_with (first
    | ((with_reducible refine gate_dst (N := 2) rfl ?_); refine bxE 2 #[.int .i64 0, .slice none 0 0] 53 rfl ?_; intro g2 hg w2 hbox hb; have BK2 := Aside0.mk hbox; have GE2 := gS HB hg; replace HB := hS HB hb; clear hg hbox hb)
    | (go_at_call 56; refine (HNI.out _ (GTab.up HG.out HB.out)).mono ?_; rintro e w4 ⟨v4, rfl, ho, hb⟩; rw [show (some zs).getD [] = zs from rfl] at ho; have HO4 := Aside0.mk (Kd.R_lower ho (below_size hB)); replace BK2 := bS BK2 hb; replace HB := hS HB hb; clear hb ho; obtain ⟨g4, c4, e4, _, l4, _, _⟩ := Kd.R_form HO4.out (by have := HZL.out; omega); subst e4; have hx0 := impl_ParsePuzzle.row_cells HO4.out 0 (by have := HZL.out; omega); rw [← HZ0.out] at hx0; have hcap := (Kd.R_reads' HO4.out).2.1; rw [HZL.out] at hcap ⊢; have HO5 := HO4; rw [HZL.out] at HO5; clear HO4)
    | ((with_reducible refine gate_dst (N := 6) rfl ?_); refine bxE 6 #[.int .i64 0, .slice none 0 0] 53 rfl ?_; intro g6 hg w6 hbox hb; have BK6 := Aside0.mk hbox; have GE6 := gS HB hg; have NB26 := nL BK2 hg; replace BK2 := bS BK2 hb; replace HB := hS HB hb; replace HO5 := Aside0.mk (Kd.R_below HO5.out hb); clear hg hbox hb; have h60 := cz BK6 0; have h61 := cz BK6 1; have f60 := fz BK6 0; have f61 := fz BK6 1)
    | (go_at_call 57; refine (slices_Chunk_int_int.calls _ _ _ 3 (by omega) _).mono ?_; rintro e w7 ⟨Bs, Bn, rfl, hBs, hBn, gBs, gBn, hb⟩; obtain ⟨o1, ho1, hom⟩ := impl_ParsePuzzle.cutAt g4 c4 m hcap; rw [ho1] at hBs ⊢; have HOM := Aside0.mk hom; clear ho1 hom; have x6 : ((w6.setCell ⟨g6, 0, none⟩ (.int .i64 z0)).setCell ⟨g6, 1, none⟩ (.slice none 0 0)).heap[g6]? = some (.cells #[.int .i64 z0, .slice none 0 0] 53 (0, 0)) := blk_put (cs := #[.int .i64 z0, .slice none 0 0]) (blk_put (cs := #[.int .i64 0, .slice none 0 0]) BK6.out 0 (.int .i64 z0) rfl) 1 (.slice none 0 0) rfl; have x2 : ((w6.setCell ⟨g6, 0, none⟩ (.int .i64 z0)).setCell ⟨g6, 1, none⟩ (.slice none 0 0)).heap[g2]? = _ := blk_far (blk_far BK2.out NB26.out _) NB26.out _; have x5 := Kd.R_set (Kd.R_set HO5.out BK6.out (by decide) 0 (.int .i64 z0)) (blk_put (cs := #[.int .i64 0, .slice none 0 0]) BK6.out 0 (.int .i64 z0) rfl) (by decide) 1 (.slice none 0 0); have xb := below_set (below_set HB.out GE6.out : Below w.heap.size w (w6.setCell ⟨g6, 0, none⟩ (.int .i64 z0))) GE6.out (j := 1) (v := .slice none 0 0); have l6 := blk_lt x6; have BK6y := Aside0.mk (blk_below x6 hb); have BK2y := Aside0.mk (blk_below x2 hb); have HO5y := Aside0.mk (Kd.R_below x5 hb); have HBy := Aside0.mk (below_step xb hb); have NS6 : Aside0 (Bs ≠ g6) := ⟨by omega⟩; have NN6 : Aside0 (Bn ≠ g6) := ⟨by omega⟩; have HBS := Aside0.mk hBs; have HBN := Aside0.mk hBn; clear x6 x2 x5 xb hb gBs gBn hBs hBn l6 h60 h61 f60 f61 BK6 BK2 HO5 HB hx0 l4))
  refine wpIn_wide.1 (wpIn_rangeFunc_ownG (n := 3) rfl (by omega) (gf := 91) (lb := #[.pointer (some ⟨Bs, 0, none⟩), .pointer (some ⟨Bn, 0, none⟩)]) rfl trivial (enters_ Tryd.func91 (by kernel_rfl) rfl)
    (slices_Chunk_int_int_1.stops 2 (by omega) Bs Bn g4 o1 m 3 (c4 - 1) (by omega) (by omega) (by omega) w7 (cz HBS 0) (cz HBN 0)) (fun h k => ⟨k.1.trans h.1, k.2.trans h.2⟩)
    (fun W l o o' hl _ _ _ => ⟨World.putObj_heap_other (by have := blk_lt HBS.out; omega), World.putObj_heap_other (by have := blk_lt HBN.out; omega)⟩) (Below.refl _ _) (fun _ => rfl)
    (impl_ParsePuzzle.In w z0 g2 g4 c4 g6 Bs Bn m o1 zs) (fun _ _ _ => False) (impl_ParsePuzzle.In.own (below_size HBy.out)) (fun _ _ _ _ _ hs _ _ => hs)
    ⟨⟨none, 0, BK6y.out, Kd.R_nil _ _ _ _ _⟩, HO5y.out, BK2y.out, HBS.out, HBN.out, HBy.out⟩
    (fun x => { tmps := #[.string s, undef, .pointer (some ⟨g2, 0, none⟩), .bool false, .slice (some ⟨g4, 0, none⟩) (3 * m + 1) c4, .bool true, .pointer (some ⟨g6, 0, none⟩), .slice (some ⟨g4, o1 + 3 * (x % m), none⟩) 3 3, .tuple #[.slice (some ⟨g4, 0, none⟩) (3 * m + 1) c4, .bool true], .string s, .tuple #[.slice (some ⟨g4, 0, none⟩) (3 * m + 1) c4, .bool true], .slice (some ⟨g4, 0, none⟩) (3 * m + 1) c4, .bool true, .bool true, .bool false, .bool false, .slice (some ⟨g4, 0, none⟩) (3 * m + 1) c4, .int .i64 (3 * (m : Int) + 1), .int .i64 1, .bool false, .bool false, undef, .slice (some ⟨g4, 0, none⟩) (3 * m + 1) c4, .pointer (some ⟨g4, 0, none⟩), .int .i64 z0, .agg #[.int .i64 z0, .slice none 0 0], .slice (some ⟨g4, 0, none⟩) (3 * m + 1) c4, .slice (some ⟨g4, o1, none⟩) (3 * m) (c4 - 1), .func (.func 91) #[] #[.pointer (some ⟨Bs, 0, none⟩), .pointer (some ⟨Bn, 0, none⟩)], .slice (some ⟨g4, o1 + 3 * (x % m), none⟩) 3 3, undef, undef, undef, undef, undef, undef, undef, undef, undef, undef, undef, undef, undef, undef, undef, undef, undef, undef, undef, undef, undef, undef, undef, undef, undef, undef], defers := [] }) ?assign ?body ?done ?stop)
  case assign =>
    intro l x W K hK
    gi_wp2
    exact hK
  case body =>
    intro l pre x W h hl
    obtain ⟨Av, cv, h6, hv⟩ := h.row
    have hm0 : 0 < m := by omega
    obtain rfl : o1 = 1 := HOM.out hm0
    have hx : x % m < m := Nat.mod_lt _ hm0
    have z1 := impl_ParsePuzzle.row_cells h.nums (1 + 3 * (x % m)) (by have := HZL.out; omega)
    have z2 := impl_ParsePuzzle.row_cells h.nums (1 + 3 * (x % m) + 1) (by have := HZL.out; omega)
    have z3 := impl_ParsePuzzle.row_cells h.nums (1 + 3 * (x % m) + 2) (by have := HZL.out; omega)
    have hpr : impl_ParsePuzzle.pr zs m x = ⟨zs.getD (1 + 3 * (x % m)) 0, zs.getD (1 + 3 * (x % m) + 1) 0, zs.getD (1 + 3 * (x % m) + 2) 0⟩ := rfl
    obtain ⟨y1, hy1⟩ : ∃ y_, y_ = zs.getD (1 + 3 * (x % m)) 0 := ⟨_, rfl⟩
    obtain ⟨y2, hy2⟩ : ∃ y_, y_ = zs.getD (1 + 3 * (x % m) + 1) 0 := ⟨_, rfl⟩
    obtain ⟨y3, hy3⟩ : ∃ y_, y_ = zs.getD (1 + 3 * (x % m) + 2) 0 := ⟨_, rfl⟩
    obtain ⟨j, hj⟩ : ∃ j_, j_ = 1 + 3 * (x % m) := ⟨_, rfl⟩
    rw [← hy1] at z1 hpr
    rw [← hy2] at z2 hpr
    rw [← hy3] at z3 hpr
    rw [← hj] at z1 z2 z3 ⊢
    have HJ := Aside0.mk hj
    clear hy1 hy2 hy3 hj
    gi_wp2
    refine impl_ParsePuzzle.start_in (n := 16) (S := fun w' => w'.cell? ⟨g6, 1, none⟩ = some (.slice Av pre.length cv) ∧ w'.cell? ⟨g4, j, none⟩ = some (.int .i64 y1) ∧ w'.cell? ⟨g4, j + 1, none⟩ = some (.int .i64 y2) ∧ w'.cell? ⟨g4, j + 2, none⟩ = some (.int .i64 y3)) (ds := [15]) (bz 16 0) (by kernel_rfl) rfl rfl (by kernel_rfl) (fun ⟨_, _, h⟩ => h) ⟨(blk_cell h6 1).trans rfl, z1, z2, z3⟩ (fun hHeld => ?_)
    obtain ⟨_, _, e4, _, _, cells4, h4⟩ := Kd.R_form h.nums (by have := HZL.out; omega)
    injection e4 with e4a _ _
    injection e4a with e4b
    injection e4b with e4c _ _
    subst e4c
    have D6 : W.drew.heap[g6]? = _ := blk_drew h6
    have D4 : W.drew.heap[g4]? = _ := blk_drew h4
    have D2 : W.drew.heap[g2]? = _ := blk_drew h.res
    have DS : W.drew.heap[Bs]? = _ := blk_drew h.bs
    have DN : W.drew.heap[Bn]? = _ := blk_drew h.bn
    have Dv := Kd.R_drew hv
    have Dn := Kd.R_drew h.nums
    have Db := below_drew1 h.below
    have Dk := KeepsOthers.drew W
    have d1 : W.drew.cell? ⟨g4, j, none⟩ = some (.int .i64 y1) := z1
    have d2 : W.drew.cell? ⟨g4, j + 1, none⟩ = some (.int .i64 y2) := z2
    have d3 : W.drew.cell? ⟨g4, j + 2, none⟩ = some (.int .i64 y3) := z3
    refine with_tabW impl_ParsePuzzle.tab7 impl_ParsePuzzle.bits7 (fun HT_ HW_ => ?_)
    generalize W.drew = Wd at D6 D4 D2 DS DN Dv Dn Db Dk d1 d2 d3 hHeld ⊢
    refine run_ [(0, 0, 1, some 30), (1, 1, 3, some 31), (0, 2, 7, some 32), (0, 3, 15, some 33), (1, 4, 31, some 34), (0, 5, 63, some 35), (0, 6, 127, some 36), (1, 7, 255, some 37), (0, 8, 511, some 38), (0, 9, 1023, some 39), (1, 10, 2047, some 40), (0, 11, 4095, some 41)] ?_
    repeat (first | (apply tag0; refine run_p (v := ?_) (a' := ?_) rfl rfl (any_of HT_.out (by kernel_rfl)) (fun _ _ _ h => h) (by rfl) ?_ ?_ ?_; rotate_left 2; (intro w'; go_simp; with_reducible rfl); (first | (simp only [Act.put, List.setIfInBounds_toArray, List.set_cons_zero, List.set_cons_succ, i64_w, i32_w]; rfl) | rfl)) | (apply tag1; refine run_t (v := ?_) (a' := ?_) rfl rfl (take_ofW HT_.out HW_.out (by kernel_rfl)) (fun _ _ _ h => h) (by rfl) ?_ hHeld ?_ ?_; rotate_left 2; (rintro w' ⟨s0, s1, s2, s3⟩; go_simp; with_reducible rfl); (first | (simp only [Act.put, List.setIfInBounds_toArray, List.set_cons_zero, List.set_cons_succ, i64_w, i32_w]; rfl) | rfl)))
    refine run_nil ?_
    have SW : ∀ W' : World, W'.heap[g6]? = some (.cells #[.int .i64 z0, .slice Av pre.length cv] 53 (0, 0)) → W'.heap[g4]? = Wd.heap[g4]? → (W'.cell? ⟨g6, 1, none⟩ = some (.slice Av pre.length cv) ∧ W'.cell? ⟨g4, j, none⟩ = some (.int .i64 y1) ∧ W'.cell? ⟨g4, j + 1, none⟩ = some (.int .i64 y2) ∧ W'.cell? ⟨g4, j + 2, none⟩ = some (.int .i64 y3)) := fun W' a6 a4 => ⟨(blk_cell a6 1).trans rfl, (World.cell?_of_block (a := ⟨g4, j, none⟩) a4).trans d1, (World.cell?_of_block (a := ⟨g4, j + 1, none⟩) a4).trans d2, (World.cell?_of_block (a := ⟨g4, j + 2, none⟩) a4).trans d3⟩
    refine one_ (i := 12) (N := some 42) (bz 16 8191) rfl rfl (one_of HT_.out (by kernel_rfl)) (by decide) (fun K hK => ?_)
    refine value_ (w1 := ?_) (v := ?_) (by rfl) rfl ?_ ?_
    rotate_left 2
    · go_simp
      constructor
      · rfl
      · rfl
    refine hK.out _ _ (SW _ (blk_alloc D6 _) ((blk_alloc D4 _).trans D4.symm)) (fun hHeld => ?_)
    clear hK K
    refine norm_ (a' := ?_) ?_ ?_
    rotate_left
    · show Act.put _ (some 42) _ = _
      simp only [Act.put, List.setIfInBounds_toArray, List.set_cons_zero, List.set_cons_succ, i64_w, i32_w]
      rfl
    refine one_ (i := 13) (N := some 43) (bz 16 16383) rfl rfl (one_of HT_.out (by kernel_rfl)) (by decide) (fun K hK => ?_)
    refine Kd.R_append_step k89 (w0 := w) w.heap.size (by rfl) (.tmp 31) (.tmp 42) 51 89 (.agg #[.int .i64 0, .int .i64 0, .int .i64 0]) 24 rfl Tryd.underlying51 info89 rfl (by decide) (by omega) (.slice Av pre.length cv) (pre.map (impl_ParsePuzzle.pr zs m)) (impl_ParsePuzzle.pr zs m x) [.int .i64 y1, .int .i64 y2, .int .i64 y3] (fun _ => True) (fun _ => False) rfl rfl ?aP (fun _ hk => hk.elim) ?aF ?aO ?aB ?aS ?aL ?_
    case aP => rw [hpr]; exact k89_mkM _ _ _ (⟨y1, y2, y3⟩ : S89)
    case aB => exact Db
    case aF => exact (fun _ _ => trivial)
    case aO => exact Dv
    case aS => exact Db.size
    case aL => rw [List.length_map]; omega
    intro v8 w8 ho hb hg hat
    rw [show pre.map (impl_ParsePuzzle.pr zs m) ++ [impl_ParsePuzzle.pr zs m x] = (pre ++ [x]).map (impl_ParsePuzzle.pr zs m) from by rw [List.map_append]; rfl] at ho
    obtain ⟨A8, c8, e8⟩ := Kd.R_slice ho
    have hle : (pre ++ [x]).length = pre.length + 1 := by rw [List.length_append]; rfl
    rw [List.length_map, hle] at e8
    subst e8
    have N6 := blk_grown D6 hg (Kd.R_ne Dv D6 (by decide))
    have N4 := blk_grown D4 hg (Kd.R_ne Dv D4 (by decide))
    have N2 := blk_grown D2 hg (Kd.R_ne Dv D2 (by decide))
    have NS := blk_grown DS hg (Kd.R_ne Dv DS (by decide))
    have NN := blk_grown DN hg (Kd.R_ne Dv DN (by decide))
    have Nn := Kd.R_mono (ok' := fun _ => True) (Kd.R_grown (Kd.R_bound Dn) hg (fun k_ hk => by
      obtain ⟨_, _, _, q, hq, cells, hc⟩ := hk
      exact Kd.R_ne Dv hc (by
        rcases List.mem_cons.mp hq with h9 | h9
        · exact h9 ▸ (by decide)
        · cases h9))) (fun _ _ => trivial)
    have K8 := Dk.trans (KeepsOthers.of_grownBy hg (fun j o ej hj => by
      obtain ⟨inner, hown⟩ := Kd.R_own Dv
      obtain ⟨cells, hc⟩ := own_typed hown j ej
      rw [hc] at hj
      cases hj
      rfl))
    refine hK.out _ _ (SW _ N6 (N4.trans D4.symm)) (fun hHeld => ?_)
    clear hK K
    refine norm_ (a' := ?_) ?_ ?_
    rotate_left
    · show Act.put _ (some 43) _ = _
      simp only [Act.put, List.setIfInBounds_toArray, List.set_cons_zero, List.set_cons_succ, i64_w, i32_w]
      rfl
    refine run_ [(0, 14, 32767, some 44)] ?_
    repeat (apply tag0; refine run_p (v := ?_) (a' := ?_) rfl rfl (any_of HT_.out (by kernel_rfl)) (fun _ _ _ h => h) (by rfl) ?_ ?_ ?_; rotate_left 2; (intro w'; go_simp; with_reducible rfl); (first | (simp only [Act.put, List.setIfInBounds_toArray, List.set_cons_zero, List.set_cons_succ, i64_w, i32_w]; rfl) | rfl))
    refine run_nil ?_
    refine last_ (i := 15) (N := none) (bz 16 65535) rfl rfl (one_of HT_.out (by kernel_rfl)) (by decide) (fun K hK => ?_)
    have hs9 : w8.cell? ⟨g6, 1, none⟩ = some (.slice Av pre.length cv) := (blk_cell N6 1).trans rfl
    have hf9 := blk_frozen N6 1
    refine skip_ (w1 := ?_) (by rfl) rfl ?_ ?_
    rotate_left
    · go_simp
      rfl
    refine hK.out _ _ ?_
    clear hK K
    refine done_ (done_of HT_.out (by kernel_rfl)) ?_
    have M2 := blk_far N2 (p := ⟨g6, 1, none⟩) NB26.out (.slice A8 (pre.length + 1) c8)
    have MS := blk_far NS (p := ⟨g6, 1, none⟩) NS6.out (.slice A8 (pre.length + 1) c8)
    have MN := blk_far NN (p := ⟨g6, 1, none⟩) NN6.out (.slice A8 (pre.length + 1) c8)
    show KeepsFrom _ _ _ ∧ _ ∧ _
    exact ⟨(K8.trans (KeepsOthers.setCell _ _ _)).from _, ⟨MS.trans h.bs.symm, MN.trans h.bn.symm⟩,
      ⟨A8, c8, by rw [hle]; exact blk_put (cs := #[.int .i64 z0, .slice Av pre.length cv]) N6 1 _ rfl, by rw [hle]; exact Kd.R_set ho N6 (by decide) 1 _⟩, Kd.R_set Nn N6 (by decide) 1 _, M2, MS, MN, below_set hb GE6.out⟩
  case done =>
    rintro D ys W hD rfl h hK
    obtain ⟨A8, c8, h6, hv⟩ := h.row
    rw [← HPS.out] at hv
    have hpl : (List.range m).length = ps.length := by rw [HPS.out, List.length_map]
    rw [hpl] at h6 hv
    have BK6 := Aside0.mk h6
    have BK2 := Aside0.mk h.res
    have HB := Aside0.mk h.below
    have HV := Aside0.mk hv
    have DD := Aside0.mk hK
    have h60 := cz BK6 0
    have h61 := cz BK6 1
    have h20 := cz BK2 0
    have h21 := cz BK2 1
    have f20 := fz BK2 0
    have f21 := fz BK2 1
    have hwD : w.heap.size ≤ D := Nat.le_trans (below_size HBy.out) hD
    have hr := HR.out
    clear h6 hv hK hpl h HO5y BK6y BK2y HBy HBS HBN HR
    cases hi : impl_IsPuzzle.f z0 ps with
    | none =>
      rw [hi] at hr
      cases hr
    | some b =>
      rw [hi, Option.bind_some] at hr
      have HI := Aside0.mk hi
      clear hi
      cases b with
      | false =>
        obtain ⟨rfl, rfl, rfl⟩ : r1 = 0 ∧ r2 = [] ∧ r3 = false := by
          rw [if_neg (by decide)] at hr
          have e := Option.some.inj hr
          exact ⟨(congrArg (·.1) e).symm, (congrArg (·.2.1) e).symm, (congrArg (·.2.2) e).symm⟩
        clear hr
        go_wp2_with (first
      | (go_at_call 58; refine (impl_IsPuzzle.calls z0 A8 c8 ps false _ (cS (Kd.R_reads' HV.out).2.2) (Kd.R_reads' HV.out).2.1 HI.out).mono ?_; rintro e w9 ⟨rfl, hb⟩; replace BK6 := bS BK6 hb; replace BK2 := bS BK2 hb; replace HB := hS HB hb; replace HV := Aside0.mk (Kd.R_below HV.out hb); replace DD := Aside0.mk (blk_below DD.out hb); clear hb h60 h61 h20 h21 f20 f21; have h60 := cz BK6 0; have h61 := cz BK6 1; have h20 := cz BK2 0; have h21 := cz BK2 1; have f20 := fz BK2 0; have f21 := fz BK2 1))
        have X2 := blk_put (cs := #[.int .i64 0, .slice none 0 0]) (blk_put (cs := #[.int .i64 0, .slice none 0 0]) BK2.out 0 (.int .i64 0) rfl) 1 (.slice none 0 0) rfl
        have XB := below_set (below_set HB.out GE2.out : Below w.heap.size w (w9.setCell ⟨g2, 0, none⟩ (.int .i64 0))) GE2.out (j := 1) (v := .slice none 0 0)
        have XD := (KeepsOthers.setCell _ ⟨g2, 1, none⟩ (.slice none 0 0)).same D _ ((KeepsOthers.setCell _ ⟨g2, 0, none⟩ (.int .i64 0)).same D _ DD.out rfl) rfl
        have hne : g2 ≠ D := by
          rintro rfl
          rw [X2] at XD
          cases XD
        clear h60 h61 h20 h21 f20 f21
        generalize (w9.setCell ⟨g2, 0, none⟩ (.int .i64 0)).setCell ⟨g2, 1, none⟩ (.slice none 0 0) = wf at X2 XB XD ⊢
        refine ⟨by simp, .inl ⟨D, _, rfl, run_takeDeferred XD, ?_⟩⟩
        exact ⟨_, results_ct rfl _ _ g2 53 #[.int .i64 0, .slice none 0 0] (0, 0) _ rfl ((World.putObj_heap_other hne).trans X2) Tryd.underlying53 rfl (by kernel_rfl), ⟨_, rfl, Kd.R_nil _ _ _ _ _, XB.trans (belowK_b (w := w) (Nat.le_refl _) wf D _ _ hwD XD rfl rfl)⟩⟩
      | true =>
        rw [if_pos rfl] at hr
        cases ht : impl_puzzleText.f k z0 ps with
        | none =>
          rw [ht] at hr
          cases hr
        | some tx =>
          rw [ht, Option.bind_some] at hr
          have HT := Aside0.mk ht
          clear ht
          by_cases hts : tx = s
          · subst hts
            obtain ⟨rfl, rfl, rfl⟩ : z0 = r1 ∧ ps = r2 ∧ true = r3 := by
              rw [if_pos rfl] at hr
              have e := Option.some.inj hr
              exact ⟨congrArg (·.1) e, congrArg (·.2.1) e, congrArg (·.2.2) e⟩
            clear hr
            go_wp2_with (first
              | (go_at_call 58; refine (impl_IsPuzzle.calls z0 A8 c8 ps true _ (cS (Kd.R_reads' HV.out).2.2) (Kd.R_reads' HV.out).2.1 HI.out).mono ?_; rintro e w9 ⟨rfl, hb⟩; replace BK6 := bS BK6 hb; replace BK2 := bS BK2 hb; replace HB := hS HB hb; replace HV := Aside0.mk (Kd.R_below HV.out hb); replace DD := Aside0.mk (blk_below DD.out hb); clear hb h60 h61 h20 h21 f20 f21; have h60 := cz BK6 0; have h61 := cz BK6 1; have h20 := cz BK2 0; have h21 := cz BK2 1; have f20 := fz BK2 0; have f21 := fz BK2 1)
              | (go_at_call 59; refine (impl_puzzleText.calls k z0 A8 c8 ps tx _ (cS (Kd.R_reads' HV.out).2.2) (Kd.R_reads' HV.out).2.1 HT.out).mono ?_; rintro e w10 ⟨rfl, hb⟩; replace BK6 := bS BK6 hb; replace BK2 := bS BK2 hb; replace HB := hS HB hb; replace HV := Aside0.mk (Kd.R_below HV.out hb); replace DD := Aside0.mk (blk_below DD.out hb); clear hb h60 h61 h20 h21 f20 f21; have h60 := cz BK6 0; have h61 := cz BK6 1; have h20 := cz BK2 0; have h21 := cz BK2 1; have f20 := fz BK2 0; have f21 := fz BK2 1))
            have X2 := blk_put (cs := #[.int .i64 z0, .slice none 0 0]) (blk_put (cs := #[.int .i64 0, .slice none 0 0]) BK2.out 0 (.int .i64 z0) rfl) 1 (.slice A8 ps.length c8) rfl
            have XV := Kd.R_set (Kd.R_set HV.out BK2.out (by decide) 0 (.int .i64 z0)) (blk_put (cs := #[.int .i64 0, .slice none 0 0]) BK2.out 0 (.int .i64 z0) rfl) (by decide) 1 (.slice A8 ps.length c8)
            have XB := below_set (below_set HB.out GE2.out : Below w.heap.size w (w10.setCell ⟨g2, 0, none⟩ (.int .i64 z0))) GE2.out (j := 1) (v := .slice A8 ps.length c8)
            have XD := (KeepsOthers.setCell _ ⟨g2, 1, none⟩ (.slice A8 ps.length c8)).same D _ ((KeepsOthers.setCell _ ⟨g2, 0, none⟩ (.int .i64 z0)).same D _ DD.out rfl) rfl
            have hne : g2 ≠ D := by
              rintro rfl
              rw [X2] at XD
              cases XD
            clear h60 h61 h20 h21 f20 f21
            generalize (w10.setCell ⟨g2, 0, none⟩ (.int .i64 z0)).setCell ⟨g2, 1, none⟩ (.slice A8 ps.length c8) = wf at X2 XV XB XD ⊢
            refine ⟨by simp, .inl ⟨D, _, rfl, run_takeDeferred XD, ?_⟩⟩
            exact ⟨_, results_ct rfl _ _ g2 53 #[.int .i64 z0, .slice A8 ps.length c8] (0, 0) _ rfl ((World.putObj_heap_other hne).trans X2) Tryd.underlying53 rfl (by kernel_rfl), ⟨_, rfl, impl_ParsePuzzle.row_from XV (grownBy_putObj' _ D _) (fun r e => by cases e; exact ⟨_, XD, rfl⟩), XB.trans (belowK_b (w := w) (Nat.le_refl _) wf D _ _ hwD XD rfl rfl)⟩⟩
          · obtain ⟨rfl, rfl, rfl⟩ : r1 = 0 ∧ r2 = [] ∧ r3 = false := by
              rw [if_neg hts] at hr
              have e := Option.some.inj hr
              exact ⟨(congrArg (·.1) e).symm, (congrArg (·.2.1) e).symm, (congrArg (·.2.2) e).symm⟩
            clear hr
            have htl := impl_ParsePuzzle.ne_list hts
            clear hts
            go_wp2_with (first
              | (go_at_call 58; refine (impl_IsPuzzle.calls z0 A8 c8 ps true _ (cS (Kd.R_reads' HV.out).2.2) (Kd.R_reads' HV.out).2.1 HI.out).mono ?_; rintro e w9 ⟨rfl, hb⟩; replace BK6 := bS BK6 hb; replace BK2 := bS BK2 hb; replace HB := hS HB hb; replace HV := Aside0.mk (Kd.R_below HV.out hb); replace DD := Aside0.mk (blk_below DD.out hb); clear hb h60 h61 h20 h21 f20 f21; have h60 := cz BK6 0; have h61 := cz BK6 1; have h20 := cz BK2 0; have h21 := cz BK2 1; have f20 := fz BK2 0; have f21 := fz BK2 1)
              | (go_at_call 59; refine (impl_puzzleText.calls k z0 A8 c8 ps tx _ (cS (Kd.R_reads' HV.out).2.2) (Kd.R_reads' HV.out).2.1 HT.out).mono ?_; rintro e w10 ⟨rfl, hb⟩; replace BK6 := bS BK6 hb; replace BK2 := bS BK2 hb; replace HB := hS HB hb; replace HV := Aside0.mk (Kd.R_below HV.out hb); replace DD := Aside0.mk (blk_below DD.out hb); clear hb h60 h61 h20 h21 f20 f21; have h60 := cz BK6 0; have h61 := cz BK6 1; have h20 := cz BK2 0; have h21 := cz BK2 1; have f20 := fz BK2 0; have f21 := fz BK2 1))
            have X2 := blk_put (cs := #[.int .i64 0, .slice none 0 0]) (blk_put (cs := #[.int .i64 0, .slice none 0 0]) BK2.out 0 (.int .i64 0) rfl) 1 (.slice none 0 0) rfl
            have XB := below_set (below_set HB.out GE2.out : Below w.heap.size w (w10.setCell ⟨g2, 0, none⟩ (.int .i64 0))) GE2.out (j := 1) (v := .slice none 0 0)
            have XD := (KeepsOthers.setCell _ ⟨g2, 1, none⟩ (.slice none 0 0)).same D _ ((KeepsOthers.setCell _ ⟨g2, 0, none⟩ (.int .i64 0)).same D _ DD.out rfl) rfl
            have hne : g2 ≠ D := by
              rintro rfl
              rw [X2] at XD
              cases XD
            clear h60 h61 h20 h21 f20 f21
            generalize (w10.setCell ⟨g2, 0, none⟩ (.int .i64 0)).setCell ⟨g2, 1, none⟩ (.slice none 0 0) = wf at X2 XB XD ⊢
            refine ⟨by simp, .inl ⟨D, _, rfl, run_takeDeferred XD, ?_⟩⟩
            exact ⟨_, results_ct rfl _ _ g2 53 #[.int .i64 0, .slice none 0 0] (0, 0) _ rfl ((World.putObj_heap_other hne).trans X2) Tryd.underlying53 rfl (by kernel_rfl), ⟨_, rfl, Kd.R_nil _ _ _ _ _, XB.trans (belowK_b (w := w) (Nat.le_refl _) wf D _ _ hwD XD rfl rfl)⟩⟩
  case stop =>
    intro D c pre W _ _ h _
    exact h.elim
theorem impl_ParsePuzzle.nums_len : ∀ (ws : List ByteArray) (zs : List Int), impl_numbersIn.nums 10 ws = some zs → zs.length = ws.length
  | [], zs, h => by cases h; rfl
  | x :: ws, zs, h => by
    unfold impl_numbersIn.nums at h
    cases hx : impl_number.num 10 x with
    | none => rw [hx] at h; cases h
    | some v =>
      rw [hx] at h
      replace h : (impl_numbersIn.nums 10 ws).map (v :: ·) = some zs := h
      cases hw : impl_numbersIn.nums 10 ws with
      | none => rw [hw] at h; cases h
      | some ys =>
        rw [hw] at h
        obtain rfl := Option.some.inj h
        rw [List.length_cons, List.length_cons, impl_ParsePuzzle.nums_len ws ys hw]
set_option maxHeartbeats 4000000 in
theorem impl_ParsePuzzle.calls (k : Nat) (a0 : ByteArray) (r1 : Int) (r2 : List (S89)) (r3 : Bool) (w : World) (h : impl_ParsePuzzle.f k a0 = some (r1, r2, r3)) (hG : GTab 0 w := by first | exact Aside0.out ‹Aside0 (GTab _ _)› | exact GTab.up (Aside0.out ‹Aside0 (GTab _ _)›) (by repeat (first | (with_reducible first | exact Below.refl _ _ | exact Aside0.out ‹Aside0 (Below _ _ _)› | apply below_alloc | apply pw_below_drewN | apply below_drew1 | refine below_set ?_ (Aside0.out (by assumption))) | exact Aside0.out ‹Aside0 (Below _ _ _)›))) :
    Calls Tryd.prog 28 #[.string a0] w fun e w' => ∃ v1_ : Value, e = .returned (.tuple #[.agg #[.int .i64 r1, v1_], .bool r3]) ∧ Kd.R k89 89 w' w.heap.size (fun _ => True) v1_ r2 ∧ Below w.heap.size w w' := by
  unfold impl_ParsePuzzle.f at h
  by_cases hs : a0.size ≤ 1048576
  · rw [if_pos hs] at h
    cases hn : impl_numbersIn.nums 10 (Lib.goFieldsP (strings_IndexRune.sg ⟨#[58, 46, 44]⟩) a0) with
    | none =>
      rw [hn] at h
      obtain ⟨rfl, rfl, rfl⟩ : 0 = r1 ∧ [] = r2 ∧ false = r3 := by
        have e := Option.some.inj h
        exact ⟨congrArg (·.1) e, congrArg (·.2.1) e, congrArg (·.2.2) e⟩
      exact impl_ParsePuzzle.bad a0 hs w hG (by rw [hn]; trivial)
    | some zs =>
      rw [hn] at h
      replace h : impl_ParsePuzzle.fin k a0 zs = some (r1, r2, r3) := h
      unfold impl_ParsePuzzle.fin at h
      by_cases h3 : zs.length % 3 = 1
      · rw [if_pos h3] at h
        have hl := impl_ParsePuzzle.nums_len _ zs hn
        have hw := impl_numbersIn.words_len (strings_IndexRune.sg ⟨#[58, 46, 44]⟩) a0
        exact impl_ParsePuzzle.good k a0 hs zs (zs.length / 3) (by omega) _ rfl w hG hn (by omega) r1 r2 r3 h
      · rw [if_neg h3] at h
        obtain ⟨rfl, rfl, rfl⟩ : 0 = r1 ∧ [] = r2 ∧ false = r3 := by
          have e := Option.some.inj h
          exact ⟨congrArg (·.1) e, congrArg (·.2.1) e, congrArg (·.2.2) e⟩
        exact impl_ParsePuzzle.bad a0 hs w hG (by rw [hn]; exact h3)
  · rw [if_neg hs] at h
    cases h

/-! ### laws_eqClue: function 98 -/
def laws_eqClue.f (a0_0 : Int) (a0_1 : Int) (a0_2 : Int) (a1_0 : Int) (a1_1 : Int) (a1_2 : Int) : Option (Bool) := if a0_0 = a1_0 then (if a0_1 = a1_1 then (if a0_2 = a1_2 then (some true) else (some false)) else (some false)) else (some false)
set_option maxHeartbeats 8000000 in
set_option maxRecDepth 100000 in
theorem laws_eqClue.calls (a0_0 : Int) (a0_1 : Int) (a0_2 : Int) (a1_0 : Int) (a1_1 : Int) (a1_2 : Int) (r : Bool) (w : World) (h : laws_eqClue.f a0_0 a0_1 a0_2 a1_0 a1_1 a1_2 = some r) :
  Calls Tryd.prog 98 #[.agg #[.int .i64 a0_0, .int .i64 a0_1, .int .i64 a0_2], .agg #[.int .i64 a1_0, .int .i64 a1_1, .int .i64 a1_2]] w fun e w' => e = .returned (.bool r) ∧ Below w.heap.size w w' := by
 have hu89 := Tryd.underlying89
 have HB := Aside0.mk (Below.refl w.heap.size w)
 have H : (if a0_0 = a1_0 then (if a0_1 = a1_1 then (if a0_2 = a1_2 then (some true) else (some false)) else (some false)) else (some false)) = some r := h
 clear h
 by_cases c3 : a0_0 = a1_0
 ·rw [if_pos c3] at H
  have c3b0 : (a0_0 == a1_0) = true := beq_iff_eq.mpr c3
  have c3b1 : (a0_0 != a1_0) = false := bne_eq_false_iff_eq.mpr c3
  clear c3
  by_cases c4 : a0_1 = a1_1
  ·rw [if_pos c4] at H
   have c4b0 : (a0_1 == a1_1) = true := beq_iff_eq.mpr c4
   have c4b1 : (a0_1 != a1_1) = false := bne_eq_false_iff_eq.mpr c4
   clear c4
   by_cases c5 : a0_2 = a1_2
   ·rw [if_pos c5] at H
    have c5b0 : (a0_2 == a1_2) = true := beq_iff_eq.mpr c5
    have c5b1 : (a0_2 != a1_2) = false := bne_eq_false_iff_eq.mpr c5
    clear c5
    obtain rfl := Option.some.inj H
    go_enter Tryd.func98, Tryd.ntmps98
    go_wp2_with (first | ((with_reducible refine gate_dst (N := 2) rfl ?_); refine bxE 2 #[.int .i64 a0_0, .int .i64 a0_1, .int .i64 a0_2] 89 rfl ?_; intro gb201 hg w6 hbox hb; have BK201 := Aside0.mk (hbox); have GW201 := gS HB hg; have GE201 := gS HB hg; replace HB := hS HB hb; clear hb hbox hg) | ((with_reducible refine gate_dst (N := 3) rfl ?_); refine bxE 3 #[.int .i64 a1_0, .int .i64 a1_1, .int .i64 a1_2] 89 rfl ?_; intro gb202 hg w7 hbox hb; have BK202 := Aside0.mk (hbox); have GW202 := gS HB hg; have GE202 := gS HB hg; have NB201_202 := nL BK201 hg; have NB202_201 := nG BK201 hg; replace BK201 := bS BK201 hb; replace HB := hS HB hb; clear hb hbox hg; have hnb8 := NB201_202.out; have hnc8 := NB202_201.out; have hcz9_0 := cz BK201 0; have hcz9_1 := cz BK201 1; have hcz9_2 := cz BK201 2; have hfz9_0 := fz BK201 0; have hfz9_1 := fz BK201 1; have hfz9_2 := fz BK201 2; have hcz10_0 := cz BK202 0; have hcz10_1 := cz BK202 1; have hcz10_2 := cz BK202 2; have hfz10_0 := fz BK202 0; have hfz10_1 := fz BK202 1; have hfz10_2 := fz BK202 2))
    go_ret
    exact ⟨by first | rfl | (simp [errW_none, errW_some] <;> rfl) | (simp [*, errW_none, errW_some] <;> rfl), hB⟩
   ·rw [if_neg c5] at H
    have c5b0 : (a0_2 == a1_2) = false := beq_eq_false_iff_ne.mpr c5
    have c5b1 : (a0_2 != a1_2) = true := bne_iff_ne.mpr c5
    obtain rfl := Option.some.inj H
    go_enter Tryd.func98, Tryd.ntmps98
    go_wp2_with (first | ((with_reducible refine gate_dst (N := 2) rfl ?_); refine bxE 2 #[.int .i64 a0_0, .int .i64 a0_1, .int .i64 a0_2] 89 rfl ?_; intro gb201 hg w11 hbox hb; have BK201 := Aside0.mk (hbox); have GW201 := gS HB hg; have GE201 := gS HB hg; replace HB := hS HB hb; clear hb hbox hg) | ((with_reducible refine gate_dst (N := 3) rfl ?_); refine bxE 3 #[.int .i64 a1_0, .int .i64 a1_1, .int .i64 a1_2] 89 rfl ?_; intro gb202 hg w12 hbox hb; have BK202 := Aside0.mk (hbox); have GW202 := gS HB hg; have GE202 := gS HB hg; have NB201_202 := nL BK201 hg; have NB202_201 := nG BK201 hg; replace BK201 := bS BK201 hb; replace HB := hS HB hb; clear hb hbox hg; have hnb13 := NB201_202.out; have hnc13 := NB202_201.out; have hcz14_0 := cz BK201 0; have hcz14_1 := cz BK201 1; have hcz14_2 := cz BK201 2; have hfz14_0 := fz BK201 0; have hfz14_1 := fz BK201 1; have hfz14_2 := fz BK201 2; have hcz15_0 := cz BK202 0; have hcz15_1 := cz BK202 1; have hcz15_2 := cz BK202 2; have hfz15_0 := fz BK202 0; have hfz15_1 := fz BK202 1; have hfz15_2 := fz BK202 2))
    go_ret
    exact ⟨by first | rfl | (simp [errW_none, errW_some] <;> rfl) | (simp [*, errW_none, errW_some] <;> rfl), hB⟩
  ·rw [if_neg c4] at H
   have c4b0 : (a0_1 == a1_1) = false := beq_eq_false_iff_ne.mpr c4
   have c4b1 : (a0_1 != a1_1) = true := bne_iff_ne.mpr c4
   obtain rfl := Option.some.inj H
   go_enter Tryd.func98, Tryd.ntmps98
   go_wp2_with (first | ((with_reducible refine gate_dst (N := 2) rfl ?_); refine bxE 2 #[.int .i64 a0_0, .int .i64 a0_1, .int .i64 a0_2] 89 rfl ?_; intro gb201 hg w16 hbox hb; have BK201 := Aside0.mk (hbox); have GW201 := gS HB hg; have GE201 := gS HB hg; replace HB := hS HB hb; clear hb hbox hg) | ((with_reducible refine gate_dst (N := 3) rfl ?_); refine bxE 3 #[.int .i64 a1_0, .int .i64 a1_1, .int .i64 a1_2] 89 rfl ?_; intro gb202 hg w17 hbox hb; have BK202 := Aside0.mk (hbox); have GW202 := gS HB hg; have GE202 := gS HB hg; have NB201_202 := nL BK201 hg; have NB202_201 := nG BK201 hg; replace BK201 := bS BK201 hb; replace HB := hS HB hb; clear hb hbox hg; have hnb18 := NB201_202.out; have hnc18 := NB202_201.out; have hcz19_0 := cz BK201 0; have hcz19_1 := cz BK201 1; have hcz19_2 := cz BK201 2; have hfz19_0 := fz BK201 0; have hfz19_1 := fz BK201 1; have hfz19_2 := fz BK201 2; have hcz20_0 := cz BK202 0; have hcz20_1 := cz BK202 1; have hcz20_2 := cz BK202 2; have hfz20_0 := fz BK202 0; have hfz20_1 := fz BK202 1; have hfz20_2 := fz BK202 2))
   go_ret
   exact ⟨by first | rfl | (simp [errW_none, errW_some] <;> rfl) | (simp [*, errW_none, errW_some] <;> rfl), hB⟩
 ·rw [if_neg c3] at H
  have c3b0 : (a0_0 == a1_0) = false := beq_eq_false_iff_ne.mpr c3
  have c3b1 : (a0_0 != a1_0) = true := bne_iff_ne.mpr c3
  obtain rfl := Option.some.inj H
  go_enter Tryd.func98, Tryd.ntmps98
  go_wp2_with (first | ((with_reducible refine gate_dst (N := 2) rfl ?_); refine bxE 2 #[.int .i64 a0_0, .int .i64 a0_1, .int .i64 a0_2] 89 rfl ?_; intro gb201 hg w21 hbox hb; have BK201 := Aside0.mk (hbox); have GW201 := gS HB hg; have GE201 := gS HB hg; replace HB := hS HB hb; clear hb hbox hg) | ((with_reducible refine gate_dst (N := 3) rfl ?_); refine bxE 3 #[.int .i64 a1_0, .int .i64 a1_1, .int .i64 a1_2] 89 rfl ?_; intro gb202 hg w22 hbox hb; have BK202 := Aside0.mk (hbox); have GW202 := gS HB hg; have GE202 := gS HB hg; have NB201_202 := nL BK201 hg; have NB202_201 := nG BK201 hg; replace BK201 := bS BK201 hb; replace HB := hS HB hb; clear hb hbox hg; have hnb23 := NB201_202.out; have hnc23 := NB202_201.out; have hcz24_0 := cz BK201 0; have hcz24_1 := cz BK201 1; have hcz24_2 := cz BK201 2; have hfz24_0 := fz BK201 0; have hfz24_1 := fz BK201 1; have hfz24_2 := fz BK201 2; have hcz25_0 := cz BK202 0; have hcz25_1 := cz BK202 1; have hcz25_2 := cz BK202 2; have hfz25_0 := fz BK202 0; have hfz25_1 := fz BK202 1; have hfz25_2 := fz BK202 2))
  go_ret
  exact ⟨by first | rfl | (simp [errW_none, errW_some] <;> rfl) | (simp [*, errW_none, errW_some] <;> rfl), hB⟩

/-! ### laws_eqClueS: function 60 -/
def laws_eqClueS.l0 : Nat → List (S89) → List (S89) → Int → Option (Bool)
 | 0, _, _, _ => none
 | k + 1, x0, x1, x5 => if x5 < (x0.length : Int) then (if 0 ≤ x5 then (if x5 < (x1.length : Int) then ((laws_eqClue.f ((rd_T89 x0 x5).f0) ((rd_T89 x0 x5).f1) ((rd_T89 x0 x5).f2) ((rd_T89 x1 x5).f0) ((rd_T89 x1 x5).f1) ((rd_T89 x1 x5).f2)).bind fun t205 => (if t205 = true then (laws_eqClueS.l0 k x0 x1 (wrap64 (x5 + 1))) else (some false))) else (none)) else (none)) else (some true)
def laws_eqClueS.f (k : Nat) (l0 : List (S89)) (l1 : List (S89)) : Option (Bool) := if (l0.length : Int) = (l1.length : Int) then (laws_eqClueS.l0 k l0 l1 0) else (some false)
theorem laws_eqClueS.mono_l : ∀ k, (∀ y0 y1 y2, LeO (laws_eqClueS.l0 k y0 y1 y2) (laws_eqClueS.l0 (k + 1) y0 y1 y2))
 | 0 => fun _ _ _ r h => by simp [laws_eqClueS.l0] at h
 | k + 1 => by
  have ih0 := laws_eqClueS.mono_l k
  ·intro y0 y1 y2
   unfold laws_eqClueS.l0
   repeat' first
   | (with_reducible exact ih0 _ _ _)
   | (with_reducible exact LeO.refl _)
   | (with_reducible exact LeO.none _)
   | (with_reducible refine LeO.ite ?_ ?_)
   | (with_reducible refine LeO.bind ?_ (fun _ => ?_))
   | exact ih0 _ _ _
   | exact LeO.none _
   | refine LeO.ite ?_ ?_
   | refine LeO.bind ?_ (fun _ => ?_)
theorem laws_eqClueS.mono : ∀ a0 a1 k, LeO (laws_eqClueS.f k a0 a1) (laws_eqClueS.f (k + 1) a0 a1) := by
 intro a0 a1 k
 have ih0 := laws_eqClueS.mono_l k
 unfold laws_eqClueS.f
 repeat' first
   | (with_reducible exact ih0 _ _ _)
   | (with_reducible exact LeO.refl _)
   | (with_reducible exact LeO.none _)
   | (with_reducible refine LeO.ite ?_ ?_)
   | (with_reducible refine LeO.bind ?_ (fun _ => ?_))
   | exact ih0 _ _ _
   | exact LeO.none _
   | refine LeO.ite ?_ ?_
   | refine LeO.bind ?_ (fun _ => ?_)
def laws_eqClueS.T6 : Bool × List (List Nat × List Nat) := (true, [([], []), ([], []), ([0, 1], [0, 1]), ([2], [2]), ([], []), ([], []), ([4, 5], [4, 5]), ([6], [6]), ([3, 7], [3, 7]), ([8], [8])])
def laws_eqClueS.B6 : List Nat := [0, 0, 3, 7, 0, 0, 48, 112, 255, 511]
theorem laws_eqClueS.tab6 : rtab .any (opsOf Tryd.f60 6) = laws_eqClueS.T6 := by kernel_rfl
theorem laws_eqClueS.bits6 : waitsOk laws_eqClueS.T6.2 laws_eqClueS.B6 = true := by kernel_rfl
set_option maxHeartbeats 8000000 in
set_option maxRecDepth 100000 in
theorem laws_eqClueS.calls (k : Nat) (A0 : Option Addr) (c0 : Nat) (l0 : List (S89)) (A1 : Option Addr) (c1 : Nat) (l1 : List (S89)) (r : Bool) (w : World) (hr0 : Kd.C k89 w A0 l0.length l0) (hc0 : l0.length ≤ c0) (hr1 : Kd.C k89 w A1 l1.length l1) (hc1 : l1.length ≤ c1) (h : laws_eqClueS.f k l0 l1 = some r) :
  Calls Tryd.prog 60 #[.slice A0 l0.length c0, .slice A1 l1.length c1] w fun e w' => e = .returned (.bool r) ∧ Below w.heap.size w w' := by
 have hu89 := Tryd.underlying89
 have HR0 := Aside0.mk hr0
 have HC0 := Aside0.mk hc0
 clear hr0 hc0
 have HR1 := Aside0.mk hr1
 have HC1 := Aside0.mk hc1
 clear hr1 hc1
 have HB := Aside0.mk (Below.refl w.heap.size w)
 have H : (if (l0.length : Int) = (l1.length : Int) then (laws_eqClueS.l0 k l0 l1 0) else (some false)) = some r := h
 clear h
 by_cases c3 : (l0.length : Int) = (l1.length : Int)
 ·rw [if_pos c3] at H
  have c3b0 : ((l0.length : Int) == (l1.length : Int)) = true := beq_iff_eq.mpr c3
  have c3b1 : ((l0.length : Int) != (l1.length : Int)) = false := bne_eq_false_iff_eq.mpr c3
  have c3b2 : (l0.length == l1.length) = true := by first | simpa using c3 | (simp at c3 ⊢; omega)
  clear c3
  have H' := Aside0.mk H
  clear H
  go_enter Tryd.func60, Tryd.ntmps60
  go_wp2
  go_loopg [5] k (fun kq v5 w' => ∃ (x5_1 : Int), v5 = .int .i64 x5_1 ∧ Aside0 (laws_eqClueS.l0 kq l0 l1 x5_1 = some r) ∧ Aside0 (kq ≤ k) ∧ Aside0 (Below w.heap.size w w'))
  case atStart => exact ⟨(0), (by first | rfl | (simp; done) | (simp [*]; done)), H', ⟨Nat.le_refl _⟩, ⟨hB⟩⟩
  case round =>
   clear H'
   try clear c1
   try clear p2
   try clear c3
   try clear c3b0
   try clear c3b1
   try clear c3b2
   obtain ⟨x5_1, rfl, HA, HK1, HB⟩ := hrel
   cases gk with
   | zero => exact absurd HA.out (by simp [laws_eqClueS.l0])
   | succ k1 =>
    have H := HA.out
    clear HA
    simp only [laws_eqClueS.l0] at H
    by_cases c4 : x5_1 < (l0.length : Int)
    ·rw [if_pos c4] at H
     have c4b0 : decide (x5_1 < (l0.length : Int)) = true := decide_eq_true c4
     clear c4
     by_cases c5 : 0 ≤ x5_1
     ·rw [if_pos c5] at H
      have c5b0 : decide (0 ≤ x5_1) = true := decide_eq_true c5
      clear c5
      by_cases c6 : x5_1 < (l1.length : Int)
      ·rw [if_pos c6] at H
       have c6b0 : decide (x5_1 < (l1.length : Int)) = true := decide_eq_true c6
       clear c6
       replace H := Option.bind_eq_some_iff.mp H
       obtain ⟨t205, A70, H⟩ := H
       try dsimp only at H
       have A7 := Aside0.mk A70
       clear A70
       by_cases c8 : t205 = true
       ·subst c8
        rw [if_pos rfl] at H
        have H' := Aside0.mk H
        clear H
        try go_wp2
        replace HB := Aside0.mk (below_drew1 HB.out)
        have p203 : 0 ≤ (x5_1 : Int) := of_decide_eq_true (by first | (with_reducible assumption) | assumption)
        have q203 : x5_1 < (l0.length : Int) := of_decide_eq_true (by first | (with_reducible assumption) | assumption)
        obtain ⟨ad203, e203, hx203_0, hx203_1, hx203_2⟩ := at_T89 HR0.out x5_1 p203 q203
        have hw203_2 := hx203_2
        have hw203_1 := hx203_1
        have hw203_0 := hx203_0
        cases e203
        replace hx203_0 := (HB.out.cell (World.block_lt_of_cell? w _ hx203_0)).trans hx203_0
        replace hx203_1 := (HB.out.cell (World.block_lt_of_cell? w _ hx203_1)).trans hx203_1
        replace hx203_2 := (HB.out.cell (World.block_lt_of_cell? w _ hx203_2)).trans hx203_2
        replace p203 := eq_true p203
        replace q203 := eq_true q203
        have p204 : 0 ≤ (x5_1 : Int) := of_decide_eq_true (by first | (with_reducible assumption) | assumption)
        have q204 : x5_1 < (l1.length : Int) := of_decide_eq_true (by first | (with_reducible assumption) | assumption)
        obtain ⟨ad204, e204, hx204_0, hx204_1, hx204_2⟩ := at_T89 HR1.out x5_1 p204 q204
        have hw204_2 := hx204_2
        have hw204_1 := hx204_1
        have hw204_0 := hx204_0
        cases e204
        replace hx204_0 := (HB.out.cell (World.block_lt_of_cell? w _ hx204_0)).trans hx204_0
        replace hx204_1 := (HB.out.cell (World.block_lt_of_cell? w _ hx204_1)).trans hx204_1
        replace hx204_2 := (HB.out.cell (World.block_lt_of_cell? w _ hx204_2)).trans hx204_2
        replace p204 := eq_true p204
        replace q204 := eq_true q204
        refine start_ (n := 10) (S := fun w' => w'.cell? (ad203.add ((x5_1).toNat * 3)) = some (.int .i64 ((rd_T89 l0 x5_1).f0)) ∧ w'.cell? ⟨(ad203.add ((x5_1).toNat * 3)).block, (ad203.add ((x5_1).toNat * 3)).off + 1, none⟩ = some (.int .i64 ((rd_T89 l0 x5_1).f1)) ∧ w'.cell? ⟨(ad203.add ((x5_1).toNat * 3)).block, (ad203.add ((x5_1).toNat * 3)).off + 2, none⟩ = some (.int .i64 ((rd_T89 l0 x5_1).f2)) ∧ w'.cell? (ad204.add ((x5_1).toNat * 3)) = some (.int .i64 ((rd_T89 l1 x5_1).f0)) ∧ w'.cell? ⟨(ad204.add ((x5_1).toNat * 3)).block, (ad204.add ((x5_1).toNat * 3)).off + 1, none⟩ = some (.int .i64 ((rd_T89 l1 x5_1).f1)) ∧ w'.cell? ⟨(ad204.add ((x5_1).toNat * 3)).block, (ad204.add ((x5_1).toNat * 3)).off + 2, none⟩ = some (.int .i64 ((rd_T89 l1 x5_1).f2))) (ds := []) (bz 10 0) (by kernel_rfl) rfl rfl ⟨((HB.out.cell (World.block_lt_of_cell? w _ hw203_0)).trans hw203_0), ((HB.out.cell (World.block_lt_of_cell? w _ hw203_1)).trans hw203_1), ((HB.out.cell (World.block_lt_of_cell? w _ hw203_2)).trans hw203_2), ((HB.out.cell (World.block_lt_of_cell? w _ hw204_0)).trans hw204_0), ((HB.out.cell (World.block_lt_of_cell? w _ hw204_1)).trans hw204_1), ((HB.out.cell (World.block_lt_of_cell? w _ hw204_2)).trans hw204_2)⟩ (fun hHeld => ?_); refine with_tabW laws_eqClueS.tab6 laws_eqClueS.bits6 (fun HT_ HW_ => ?_)
        generalize wr.drew = w9 at HB hx203_0 hx203_1 hx203_2 hx204_0 hx204_1 hx204_2 hHeld ⊢
        refine run_ [(0, 0, 1, some 17), (0, 1, 3, some 18), (0, 2, 7, some 19), (0, 4, 23, some 21), (0, 5, 55, some 22), (0, 6, 119, some 23), (1, 3, 127, some 20), (1, 7, 255, some 24)] ?_
        repeat (first | (apply tag0; refine run_p (v := ?_) (a' := ?_) rfl rfl (any_of HT_.out (by kernel_rfl)) (fun _ _ _ h => h) (by rfl) ?_ ?_ ?_; rotate_left 2; (intro w'; go_simp; with_reducible rfl); (first | (simp only [Act.put, List.setIfInBounds_toArray, List.set_cons_zero, List.set_cons_succ, i64_w, i32_w]; rfl) | rfl)) | (apply tag1; refine run_t (v := ?_) (a' := ?_) rfl rfl (take_ofW HT_.out HW_.out (by kernel_rfl)) (fun _ _ _ h => h) (by rfl) ?_ hHeld ?_ ?_; rotate_left 2; (rintro w' ⟨s0, s1, s2, s3, s4, s5⟩; go_simp; with_reducible rfl); (first | (simp only [Act.put, List.setIfInBounds_toArray, List.set_cons_zero, List.set_cons_succ, i64_w, i32_w]; rfl) | rfl)))
        refine run_nil ?_
        refine one_ (i := 8) (N := some 25) (bz 10 511) rfl rfl (one_of HT_.out (by kernel_rfl)) (by decide) (fun K hK => ?_)
        refine goes_ Tryd.func98 (by kernel_rfl) rfl #[.agg #[.int .i64 ((rd_T89 l0 x5_1).f0), .int .i64 ((rd_T89 l0 x5_1).f1), .int .i64 ((rd_T89 l0 x5_1).f2)], .agg #[.int .i64 ((rd_T89 l1 x5_1).f0), .int .i64 ((rd_T89 l1 x5_1).f1), .int .i64 ((rd_T89 l1 x5_1).f2)]] (by rfl) rfl rfl mapT ?_
        with_reducible refine (laws_eqClue.calls ((rd_T89 l0 x5_1).f0) ((rd_T89 l0 x5_1).f1) ((rd_T89 l0 x5_1).f2) ((rd_T89 l1 x5_1).f0) ((rd_T89 l1 x5_1).f1) ((rd_T89 l1 x5_1).f2) true _ A7.out).mono ?_
        rintro e w10 ⟨rfl, hb⟩
        refine ⟨_, rfl, ?_⟩
        replace HB := hS HB hb
        (try clear hb)
        (try clear hb2)
        (try clear hk)
        (try clear hi)
        refine hK.out _ _ ⟨((HB.out.cell (World.block_lt_of_cell? w _ hw203_0)).trans hw203_0), ((HB.out.cell (World.block_lt_of_cell? w _ hw203_1)).trans hw203_1), ((HB.out.cell (World.block_lt_of_cell? w _ hw203_2)).trans hw203_2), ((HB.out.cell (World.block_lt_of_cell? w _ hw204_0)).trans hw204_0), ((HB.out.cell (World.block_lt_of_cell? w _ hw204_1)).trans hw204_1), ((HB.out.cell (World.block_lt_of_cell? w _ hw204_2)).trans hw204_2)⟩ (fun hHeld => ?_)
        clear hK K
        refine norm_ (a' := ?_) ?_ ?_
        rotate_left
        ·show Act.put _ (some 25) _ = _
         simp only [Act.put, List.setIfInBounds_toArray, List.set_cons_zero, List.set_cons_succ, i64_w, i32_w]
         rfl
        refine run_ [(0, 9, 1023, some 26)] ?_
        repeat ((apply tag0; refine run_p (v := ?_) (a' := ?_) rfl rfl (any_of HT_.out (by kernel_rfl)) (fun _ _ _ h => h) (by rfl) ?_ ?_ ?_; rotate_left 2; (intro w'; go_simp; with_reducible rfl); (first | (simp only [Act.put, List.setIfInBounds_toArray, List.set_cons_zero, List.set_cons_succ, i64_w, i32_w]; rfl) | rfl)))
        refine run_nil ?_
        refine done_ (done_of HT_.out (by kernel_rfl)) ?_
        try go_wp2
        go_roundg k1
        case measure => have := HK1.out; omega
        case rel => exact ⟨(wrap64 (x5_1 + 1)), (by first | rfl | (simp; done) | (simp [*]; done)), H', ⟨by have := HK1.out; omega⟩, ⟨hB⟩⟩
       ·replace c8 := Bool.eq_false_iff.mpr c8
        subst c8
        have H1 : (some false) = some r := by rw [if_neg (show ¬ (false = true) by decide)] at H; exact H
        clear H
        have H := H1
        clear H1
        obtain rfl := Option.some.inj H
        try go_wp2
        replace HB := Aside0.mk (below_drew1 HB.out)
        have p203 : 0 ≤ (x5_1 : Int) := of_decide_eq_true (by first | (with_reducible assumption) | assumption)
        have q203 : x5_1 < (l0.length : Int) := of_decide_eq_true (by first | (with_reducible assumption) | assumption)
        obtain ⟨ad203, e203, hx203_0, hx203_1, hx203_2⟩ := at_T89 HR0.out x5_1 p203 q203
        have hw203_2 := hx203_2
        have hw203_1 := hx203_1
        have hw203_0 := hx203_0
        cases e203
        replace hx203_0 := (HB.out.cell (World.block_lt_of_cell? w _ hx203_0)).trans hx203_0
        replace hx203_1 := (HB.out.cell (World.block_lt_of_cell? w _ hx203_1)).trans hx203_1
        replace hx203_2 := (HB.out.cell (World.block_lt_of_cell? w _ hx203_2)).trans hx203_2
        replace p203 := eq_true p203
        replace q203 := eq_true q203
        have p204 : 0 ≤ (x5_1 : Int) := of_decide_eq_true (by first | (with_reducible assumption) | assumption)
        have q204 : x5_1 < (l1.length : Int) := of_decide_eq_true (by first | (with_reducible assumption) | assumption)
        obtain ⟨ad204, e204, hx204_0, hx204_1, hx204_2⟩ := at_T89 HR1.out x5_1 p204 q204
        have hw204_2 := hx204_2
        have hw204_1 := hx204_1
        have hw204_0 := hx204_0
        cases e204
        replace hx204_0 := (HB.out.cell (World.block_lt_of_cell? w _ hx204_0)).trans hx204_0
        replace hx204_1 := (HB.out.cell (World.block_lt_of_cell? w _ hx204_1)).trans hx204_1
        replace hx204_2 := (HB.out.cell (World.block_lt_of_cell? w _ hx204_2)).trans hx204_2
        replace p204 := eq_true p204
        replace q204 := eq_true q204
        refine start_ (n := 10) (S := fun w' => w'.cell? (ad203.add ((x5_1).toNat * 3)) = some (.int .i64 ((rd_T89 l0 x5_1).f0)) ∧ w'.cell? ⟨(ad203.add ((x5_1).toNat * 3)).block, (ad203.add ((x5_1).toNat * 3)).off + 1, none⟩ = some (.int .i64 ((rd_T89 l0 x5_1).f1)) ∧ w'.cell? ⟨(ad203.add ((x5_1).toNat * 3)).block, (ad203.add ((x5_1).toNat * 3)).off + 2, none⟩ = some (.int .i64 ((rd_T89 l0 x5_1).f2)) ∧ w'.cell? (ad204.add ((x5_1).toNat * 3)) = some (.int .i64 ((rd_T89 l1 x5_1).f0)) ∧ w'.cell? ⟨(ad204.add ((x5_1).toNat * 3)).block, (ad204.add ((x5_1).toNat * 3)).off + 1, none⟩ = some (.int .i64 ((rd_T89 l1 x5_1).f1)) ∧ w'.cell? ⟨(ad204.add ((x5_1).toNat * 3)).block, (ad204.add ((x5_1).toNat * 3)).off + 2, none⟩ = some (.int .i64 ((rd_T89 l1 x5_1).f2))) (ds := []) (bz 10 0) (by kernel_rfl) rfl rfl ⟨((HB.out.cell (World.block_lt_of_cell? w _ hw203_0)).trans hw203_0), ((HB.out.cell (World.block_lt_of_cell? w _ hw203_1)).trans hw203_1), ((HB.out.cell (World.block_lt_of_cell? w _ hw203_2)).trans hw203_2), ((HB.out.cell (World.block_lt_of_cell? w _ hw204_0)).trans hw204_0), ((HB.out.cell (World.block_lt_of_cell? w _ hw204_1)).trans hw204_1), ((HB.out.cell (World.block_lt_of_cell? w _ hw204_2)).trans hw204_2)⟩ (fun hHeld => ?_); refine with_tabW laws_eqClueS.tab6 laws_eqClueS.bits6 (fun HT_ HW_ => ?_)
        generalize wr.drew = w11 at HB hx203_0 hx203_1 hx203_2 hx204_0 hx204_1 hx204_2 hHeld ⊢
        refine run_ [(0, 0, 1, some 17), (0, 1, 3, some 18), (0, 2, 7, some 19), (0, 4, 23, some 21), (0, 5, 55, some 22), (0, 6, 119, some 23), (1, 3, 127, some 20), (1, 7, 255, some 24)] ?_
        repeat (first | (apply tag0; refine run_p (v := ?_) (a' := ?_) rfl rfl (any_of HT_.out (by kernel_rfl)) (fun _ _ _ h => h) (by rfl) ?_ ?_ ?_; rotate_left 2; (intro w'; go_simp; with_reducible rfl); (first | (simp only [Act.put, List.setIfInBounds_toArray, List.set_cons_zero, List.set_cons_succ, i64_w, i32_w]; rfl) | rfl)) | (apply tag1; refine run_t (v := ?_) (a' := ?_) rfl rfl (take_ofW HT_.out HW_.out (by kernel_rfl)) (fun _ _ _ h => h) (by rfl) ?_ hHeld ?_ ?_; rotate_left 2; (rintro w' ⟨s0, s1, s2, s3, s4, s5⟩; go_simp; with_reducible rfl); (first | (simp only [Act.put, List.setIfInBounds_toArray, List.set_cons_zero, List.set_cons_succ, i64_w, i32_w]; rfl) | rfl)))
        refine run_nil ?_
        refine one_ (i := 8) (N := some 25) (bz 10 511) rfl rfl (one_of HT_.out (by kernel_rfl)) (by decide) (fun K hK => ?_)
        refine goes_ Tryd.func98 (by kernel_rfl) rfl #[.agg #[.int .i64 ((rd_T89 l0 x5_1).f0), .int .i64 ((rd_T89 l0 x5_1).f1), .int .i64 ((rd_T89 l0 x5_1).f2)], .agg #[.int .i64 ((rd_T89 l1 x5_1).f0), .int .i64 ((rd_T89 l1 x5_1).f1), .int .i64 ((rd_T89 l1 x5_1).f2)]] (by rfl) rfl rfl mapT ?_
        with_reducible refine (laws_eqClue.calls ((rd_T89 l0 x5_1).f0) ((rd_T89 l0 x5_1).f1) ((rd_T89 l0 x5_1).f2) ((rd_T89 l1 x5_1).f0) ((rd_T89 l1 x5_1).f1) ((rd_T89 l1 x5_1).f2) false _ A7.out).mono ?_
        rintro e w12 ⟨rfl, hb⟩
        refine ⟨_, rfl, ?_⟩
        replace HB := hS HB hb
        (try clear hb)
        (try clear hb2)
        (try clear hk)
        (try clear hi)
        refine hK.out _ _ ⟨((HB.out.cell (World.block_lt_of_cell? w _ hw203_0)).trans hw203_0), ((HB.out.cell (World.block_lt_of_cell? w _ hw203_1)).trans hw203_1), ((HB.out.cell (World.block_lt_of_cell? w _ hw203_2)).trans hw203_2), ((HB.out.cell (World.block_lt_of_cell? w _ hw204_0)).trans hw204_0), ((HB.out.cell (World.block_lt_of_cell? w _ hw204_1)).trans hw204_1), ((HB.out.cell (World.block_lt_of_cell? w _ hw204_2)).trans hw204_2)⟩ (fun hHeld => ?_)
        clear hK K
        refine norm_ (a' := ?_) ?_ ?_
        rotate_left
        ·show Act.put _ (some 25) _ = _
         simp only [Act.put, List.setIfInBounds_toArray, List.set_cons_zero, List.set_cons_succ, i64_w, i32_w]
         rfl
        refine run_ [(0, 9, 1023, some 26)] ?_
        repeat ((apply tag0; refine run_p (v := ?_) (a' := ?_) rfl rfl (any_of HT_.out (by kernel_rfl)) (fun _ _ _ h => h) (by rfl) ?_ ?_ ?_; rotate_left 2; (intro w'; go_simp; with_reducible rfl); (first | (simp only [Act.put, List.setIfInBounds_toArray, List.set_cons_zero, List.set_cons_succ, i64_w, i32_w]; rfl) | rfl)))
        refine run_nil ?_
        refine done_ (done_of HT_.out (by kernel_rfl)) ?_
        try go_wp2
        go_ret
        exact ⟨by first | rfl | (simp [errW_none, errW_some] <;> rfl) | (simp [*, errW_none, errW_some] <;> rfl), hB⟩
      ·rw [if_neg c6] at H
       exact absurd H (by simp)
     ·rw [if_neg c5] at H
      exact absurd H (by simp)
    ·rw [if_neg c4] at H
     have c4b0 : decide (x5_1 < (l0.length : Int)) = false := decide_eq_false c4
     clear c4
     obtain rfl := Option.some.inj H
     go_wp2
     go_ret
     exact ⟨by first | rfl | (simp [errW_none, errW_some] <;> rfl) | (simp [*, errW_none, errW_some] <;> rfl), hB⟩
 ·rw [if_neg c3] at H
  have c3b0 : ((l0.length : Int) == (l1.length : Int)) = false := beq_eq_false_iff_ne.mpr c3
  have c3b1 : ((l0.length : Int) != (l1.length : Int)) = true := bne_iff_ne.mpr c3
  have c3b2 : (l0.length == l1.length) = false := by first | simpa using c3 | (simp at c3 ⊢; omega)
  obtain rfl := Option.some.inj H
  go_enter Tryd.func60, Tryd.ntmps60
  go_wp2
  go_ret
  exact ⟨by first | rfl | (simp [errW_none, errW_some] <;> rfl) | (simp [*, errW_none, errW_some] <;> rfl), hB⟩

/-! ### laws_eqPuzzle: function 29 -/
def laws_eqPuzzle.f (k : Nat) (a0_0 : Int) (l0_1 : List (S89)) (a1_0 : Int) (l1_1 : List (S89)) : Option (Bool) := if a0_0 = a1_0 then ((laws_eqClueS.f k l0_1 l1_1).bind fun t208 => (if t208 = true then (some true) else (some false))) else (some false)
theorem laws_eqPuzzle.mono : ∀ a0 a1 a2 a3 k, LeO (laws_eqPuzzle.f k a0 a1 a2 a3) (laws_eqPuzzle.f (k + 1) a0 a1 a2 a3) := by
 intro a0 a1 a2 a3 k
 unfold laws_eqPuzzle.f
 repeat' first
   | (with_reducible exact laws_eqClueS.mono _ _ _)
   | (with_reducible exact LeO.refl _)
   | (with_reducible exact LeO.none _)
   | (with_reducible refine LeO.ite ?_ ?_)
   | (with_reducible refine LeO.bind ?_ (fun _ => ?_))
   | exact laws_eqClueS.mono _ _ _
   | exact LeO.none _
   | refine LeO.ite ?_ ?_
   | refine LeO.bind ?_ (fun _ => ?_)
set_option maxHeartbeats 8000000 in
set_option maxRecDepth 100000 in
theorem laws_eqPuzzle.calls (k : Nat) (a0_0 : Int) (A0_1 : Option Addr) (c0_1 : Nat) (l0_1 : List (S89)) (a1_0 : Int) (A1_1 : Option Addr) (c1_1 : Nat) (l1_1 : List (S89)) (r : Bool) (w : World) (hr0_1 : Kd.C k89 w A0_1 l0_1.length l0_1) (hc0_1 : l0_1.length ≤ c0_1) (hr1_1 : Kd.C k89 w A1_1 l1_1.length l1_1) (hc1_1 : l1_1.length ≤ c1_1) (h : laws_eqPuzzle.f k a0_0 l0_1 a1_0 l1_1 = some r) :
  Calls Tryd.prog 29 #[.agg #[.int .i64 a0_0, .slice A0_1 l0_1.length c0_1], .agg #[.int .i64 a1_0, .slice A1_1 l1_1.length c1_1]] w fun e w' => e = .returned (.bool r) ∧ Below w.heap.size w w' := by
 have hu53 := Tryd.underlying53
 have HR0_1 := Aside0.mk hr0_1
 have HC0_1 := Aside0.mk hc0_1
 clear hr0_1 hc0_1
 have HR1_1 := Aside0.mk hr1_1
 have HC1_1 := Aside0.mk hc1_1
 clear hr1_1 hc1_1
 have HB := Aside0.mk (Below.refl w.heap.size w)
 have H : (if a0_0 = a1_0 then ((laws_eqClueS.f k l0_1 l1_1).bind fun t208 => (if t208 = true then (some true) else (some false))) else (some false)) = some r := h
 clear h
 by_cases c3 : a0_0 = a1_0
 ·rw [if_pos c3] at H
  have c3b0 : (a0_0 == a1_0) = true := beq_iff_eq.mpr c3
  have c3b1 : (a0_0 != a1_0) = false := bne_eq_false_iff_eq.mpr c3
  clear c3
  replace H := Option.bind_eq_some_iff.mp H
  obtain ⟨t208, A40, H⟩ := H
  try dsimp only at H
  have A4 := Aside0.mk A40
  clear A40
  by_cases c5 : t208 = true
  ·subst c5
   have H1 : (some true) = some r := by rw [if_pos rfl] at H; exact H
   clear H
   have H := H1
   clear H1
   obtain rfl := Option.some.inj H
   go_enter Tryd.func29, Tryd.ntmps29
   go_wp2_with (first | ((with_reducible refine gate_dst (N := 2) rfl ?_); refine bxE 2 #[.int .i64 a0_0, .slice A0_1 l0_1.length c0_1] 53 rfl ?_; intro gb206 hg w6 hbox hb; have BK206 := Aside0.mk (hbox); have GW206 := gS HB hg; have GE206 := gS HB hg; replace HB := hS HB hb; clear hb hbox hg) | ((with_reducible refine gate_dst (N := 3) rfl ?_); refine bxE 3 #[.int .i64 a1_0, .slice A1_1 l1_1.length c1_1] 53 rfl ?_; intro gb207 hg w7 hbox hb; have BK207 := Aside0.mk (hbox); have GW207 := gS HB hg; have GE207 := gS HB hg; have NB206_207 := nL BK206 hg; have NB207_206 := nG BK206 hg; replace BK206 := bS BK206 hb; replace HB := hS HB hb; clear hb hbox hg; have hnb8 := NB206_207.out; have hnc8 := NB207_206.out; have hcz9_0 := cz BK206 0; have hcz9_1 := cz BK206 1; have hfz9_0 := fz BK206 0; have hfz9_1 := fz BK206 1; have hcz10_0 := cz BK207 0; have hcz10_1 := cz BK207 1; have hfz10_0 := fz BK207 0; have hfz10_1 := fz BK207 1) | ((with_reducible refine gate_callee (f := 60) rfl ?_); refine goC (N := some 14) Tryd.func60 #[.slice A0_1 l0_1.length c0_1, .slice A1_1 l1_1.length c1_1] rfl ?_; (with_reducible refine (laws_eqClueS.calls k _ _ l0_1 _ _ l1_1 true _ ?side1 ?side2 ?side3 ?side4 A4.out).mono ?_); (case side1 => exact cS (Kd.C_below HR0_1.out HB.out)); (case side2 => exact HC0_1.out); (case side3 => exact cS (Kd.C_below HR1_1.out HB.out)); (case side4 => exact HC1_1.out); rintro e w11 ⟨rfl, hb⟩; refine ⟨_, rfl, ?_⟩; replace BK206 := bS BK206 hb; replace BK207 := bS BK207 hb; replace HB := hS HB hb; (try clear hb); (try clear hb2); (try clear hk); (try clear hi)))
   go_ret
   exact ⟨by first | rfl | (simp [errW_none, errW_some] <;> rfl) | (simp [*, errW_none, errW_some] <;> rfl), hB⟩
  ·replace c5 := Bool.eq_false_iff.mpr c5
   subst c5
   have H1 : (some false) = some r := by rw [if_neg (show ¬ (false = true) by decide)] at H; exact H
   clear H
   have H := H1
   clear H1
   obtain rfl := Option.some.inj H
   go_enter Tryd.func29, Tryd.ntmps29
   go_wp2_with (first | ((with_reducible refine gate_dst (N := 2) rfl ?_); refine bxE 2 #[.int .i64 a0_0, .slice A0_1 l0_1.length c0_1] 53 rfl ?_; intro gb206 hg w12 hbox hb; have BK206 := Aside0.mk (hbox); have GW206 := gS HB hg; have GE206 := gS HB hg; replace HB := hS HB hb; clear hb hbox hg) | ((with_reducible refine gate_dst (N := 3) rfl ?_); refine bxE 3 #[.int .i64 a1_0, .slice A1_1 l1_1.length c1_1] 53 rfl ?_; intro gb207 hg w13 hbox hb; have BK207 := Aside0.mk (hbox); have GW207 := gS HB hg; have GE207 := gS HB hg; have NB206_207 := nL BK206 hg; have NB207_206 := nG BK206 hg; replace BK206 := bS BK206 hb; replace HB := hS HB hb; clear hb hbox hg; have hnb14 := NB206_207.out; have hnc14 := NB207_206.out; have hcz15_0 := cz BK206 0; have hcz15_1 := cz BK206 1; have hfz15_0 := fz BK206 0; have hfz15_1 := fz BK206 1; have hcz16_0 := cz BK207 0; have hcz16_1 := cz BK207 1; have hfz16_0 := fz BK207 0; have hfz16_1 := fz BK207 1) | ((with_reducible refine gate_callee (f := 60) rfl ?_); refine goC (N := some 14) Tryd.func60 #[.slice A0_1 l0_1.length c0_1, .slice A1_1 l1_1.length c1_1] rfl ?_; (with_reducible refine (laws_eqClueS.calls k _ _ l0_1 _ _ l1_1 false _ ?side1 ?side2 ?side3 ?side4 A4.out).mono ?_); (case side1 => exact cS (Kd.C_below HR0_1.out HB.out)); (case side2 => exact HC0_1.out); (case side3 => exact cS (Kd.C_below HR1_1.out HB.out)); (case side4 => exact HC1_1.out); rintro e w17 ⟨rfl, hb⟩; refine ⟨_, rfl, ?_⟩; replace BK206 := bS BK206 hb; replace BK207 := bS BK207 hb; replace HB := hS HB hb; (try clear hb); (try clear hb2); (try clear hk); (try clear hi)))
   go_ret
   exact ⟨by first | rfl | (simp [errW_none, errW_some] <;> rfl) | (simp [*, errW_none, errW_some] <;> rfl), hB⟩
 ·rw [if_neg c3] at H
  have c3b0 : (a0_0 == a1_0) = false := beq_eq_false_iff_ne.mpr c3
  have c3b1 : (a0_0 != a1_0) = true := bne_iff_ne.mpr c3
  obtain rfl := Option.some.inj H
  go_enter Tryd.func29, Tryd.ntmps29
  go_wp2_with (first | ((with_reducible refine gate_dst (N := 2) rfl ?_); refine bxE 2 #[.int .i64 a0_0, .slice A0_1 l0_1.length c0_1] 53 rfl ?_; intro gb206 hg w18 hbox hb; have BK206 := Aside0.mk (hbox); have GW206 := gS HB hg; have GE206 := gS HB hg; replace HB := hS HB hb; clear hb hbox hg) | ((with_reducible refine gate_dst (N := 3) rfl ?_); refine bxE 3 #[.int .i64 a1_0, .slice A1_1 l1_1.length c1_1] 53 rfl ?_; intro gb207 hg w19 hbox hb; have BK207 := Aside0.mk (hbox); have GW207 := gS HB hg; have GE207 := gS HB hg; have NB206_207 := nL BK206 hg; have NB207_206 := nG BK206 hg; replace BK206 := bS BK206 hb; replace HB := hS HB hb; clear hb hbox hg; have hnb20 := NB206_207.out; have hnc20 := NB207_206.out; have hcz21_0 := cz BK206 0; have hcz21_1 := cz BK206 1; have hfz21_0 := fz BK206 0; have hfz21_1 := fz BK206 1; have hcz22_0 := cz BK207 0; have hcz22_1 := cz BK207 1; have hfz22_0 := fz BK207 0; have hfz22_1 := fz BK207 1))
  go_ret
  exact ⟨by first | rfl | (simp [errW_none, errW_some] <;> rfl) | (simp [*, errW_none, errW_some] <;> rfl), hB⟩

end Go.Proofs.YtfehaoadnbcgoaaDoor.PFnExactParsePuzzle
