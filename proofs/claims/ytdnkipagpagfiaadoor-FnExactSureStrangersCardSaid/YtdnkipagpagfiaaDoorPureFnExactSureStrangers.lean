/- FnExactSureStrangers: whatever the puzzle, the program tells the pairs that are strangers in all solutions as the reference does, leaves the puzzle as it was, and returns memory of its own. Condition: the table of math/bits lies as its initialiser lays it (the card's own). -/
import Derived.Test.YtdnkipagpagfiaaDoorLawFnExactSureStrangers
import Derived.Test.YtdnkipagpagfiaaDoorPBase
import Derived.Test.YtdnkipagpagfiaaDoorPurBSol3
namespace Go.Proofs.YtdnkipagpagfiaaDoor.PSol3
set_option linter.unusedVariables false
set_option linter.unusedSimpArgs false
open Go.RowKit Go.Proofs.YtdnkipagpagfiaaDoor.Base Go.Proofs.YtdnkipagpagfiaaDoor.PSol3 Go.Proofs.YtdnkipagpagfiaaDoorW.PrintWords Go.Proofs.YtdnkipagpagfiaaDoorW.PrintLast Go.Proofs.YtdnkipagpagfiaaDoorW.PrintMore
def sureB (L : List (List S110)) (fr : Bool) (p : Nat × Nat) : Bool := L.all fun l => adj l p.1 p.2 == fr
def sureW (n : Nat) (L : List (List S110)) (fr : Bool) : List S110 := ((prsN n).filter (sureB L fr)).map pI
def sureC (n : Int) (cs : List S30) (fr : Bool) : List S110 × Bool := if goodP n cs = true ∧ (solveL n.toNat cs).length ≠ 0 then (sureW n.toNat (solveL n.toNat cs) fr, true) else ([], false)
theorem sureC_len (n : Int) (cs : List S30) (fr : Bool) : (sureC n cs fr).1.length ≤ 15 := by
  unfold sureC
  by_cases hg : goodP n cs = true ∧ (solveL n.toNat cs).length ≠ 0
  · rw [if_pos hg]
    have h1 : 1 ≤ n ∧ n ≤ 5 := by
      have := hg.1
      unfold goodP guests at this
      simp only [Bool.and_eq_true, decide_eq_true_eq] at this
      omega
    have h2 := (prsN_facts n.toNat (by omega)).1
    have h3 := List.length_filter_le (sureB (solveL n.toNat cs) fr) (prsN n.toNat)
    unfold sureW
    simp only [List.length_map]
    omega
  · rw [if_neg hg]; simp
theorem pzSure_inner (N : Nat) (hn : N ≤ 5) (L : List (List S110)) (hL : L.length ≤ 2000) (hg : ∀ l ∈ L, goodB N l = true) (fr : Bool) (a b : Nat) (ha : a < N) (hb : b < N) (xs : List S110) (hx : xs.length ≤ 2000) (R : List S110)
    (h : Ev (fun k => spec_pzSure.l1 k (N : Int) (L.map (pty N)) fr (if sureB L fr (a, b) = true then xs ++ [pI (a, b)] else xs) (a : Int) ((b + 1 : Nat) : Int)) R) :
    Ev (fun k => spec_pzSure.l2 k (N : Int) (L.map (pty N)) fr xs (a : Int) (b : Int) true (L.map (pty N)) (L.length : Int) 0) R := by
  have hlm : (L.map (pty (N : Int))).length = L.length := List.length_map ..
  have key := up_loop (P := fun i => ∀ fb : Bool, (fb && (L.drop i).all fun l => adj l a b == fr) = sureB L fr (a, b) → Ev (fun k => spec_pzSure.l2 k (N : Int) (L.map (pty N)) fr xs (a : Int) (b : Int) fb (L.map (pty N)) (L.length : Int) (i : Int)) R) (n := L.length) (by
      intro fb hfb
      rw [List.drop_length] at hfb
      simp only [List.all_nil, Bool.and_true] at hfb
      rw [← hfb] at h
      cases fb with
      | true =>
        rw [if_pos rfl] at h
        refine Ev.step (fun k => ?_) h
        rw [spec_pzSure.l2, if_neg (by omega), if_pos rfl, if_pos (by omega), nat_succ b (by omega)]
        rfl
      | false =>
        rw [if_neg (by simp)] at h
        refine Ev.step (fun k => ?_) h
        rw [spec_pzSure.l2, if_neg (by omega), if_neg (by simp), nat_succ b (by omega)]) (by
      intro i hi ih fb hfb
      rw [List.drop_eq_getElem_cons hi, List.all_cons] at hfb
      cases fb with
      | true =>
        rw [Bool.true_and] at hfb
        have hgi := hg _ (List.getElem_mem hi)
        have h66 := goodB_len66 hgi
        have ht := spec_paTable.ok N (by omega) L[i] (by omega) (goodB_pin hgi)
        refine Ev.step (fun k => ?_) (Ev.bind ht (f := fun k t => if 0 ≤ (a : Int) then (if (a : Int) < (t.length : Int) then (if 0 ≤ (b : Int) then (if (b : Int) < ((rd_L5 t (a : Int)).length : Int) then spec_pzSure.l2 k (N : Int) (L.map (pty N)) fr xs (a : Int) (b : Int) (rdOf false (rd_L5 t (a : Int)) (b : Int) == fr) (L.map (pty N)) (L.length : Int) ((i + 1 : Nat) : Int) else none) else none) else none) else none) (Ev.ite_pos (by omega) (Ev.ite_pos (by rw [tabB_length]; omega) (Ev.ite_pos (by omega) ?_))))
        · rw [spec_pzSure.l2, if_pos (by omega), if_pos (by omega), if_pos (by omega), if_pos rfl, rd_pty (N : Int) L i hi, nat_succ i (by omega)]
          rfl
        · rw [rdL_tabB N _ a ha]
          refine Ev.ite_pos (by simp; omega) ?_
          rw [row_get N _ b hb]
          exact ih _ hfb
      | false =>
        refine Ev.step (fun k => ?_) (ih false (by simpa using hfb))
        rw [spec_pzSure.l2, if_pos (by omega), if_pos (by omega), if_pos (by omega), if_neg (by simp), nat_succ i (by omega)]) 0 (Nat.zero_le _) true (by rw [List.drop_zero, Bool.true_and]; rfl)
  exact key
theorem spec_pzSure.ok (N : Nat) (h0 : 1 ≤ N) (hn : N ≤ 5) (L : List (List S110)) (hL : L.length ≤ 2000) (hg : ∀ l ∈ L, goodB N l = true) (fr : Bool) : Ev (fun k => spec_pzSure.f k (N : Int) (L.map (pty N)) fr) (sureW N L fr) := by
  have hlm : (L.map (pty (N : Int))).length = L.length := List.length_map ..
  have hpn : ∀ a, a ≤ N → ((List.range' 0 a).flatMap fun a => (List.range' (a + 1) (N - (a + 1))).map fun b => (a, b)).length ≤ 25 := by
    intro a ha
    obtain rfl | rfl | rfl | rfl | rfl : N = 1 ∨ N = 2 ∨ N = 3 ∨ N = 4 ∨ N = 5 := by omega
    all_goals (obtain rfl | rfl | rfl | rfl | rfl | rfl : a = 0 ∨ a = 1 ∨ a = 2 ∨ a = 3 ∨ a = 4 ∨ a = 5 := by omega) <;> first | decide | omega
  have key := up_loop (P := fun a => Ev (fun k => spec_pzSure.l0 k (N : Int) (L.map (pty N)) fr ((((List.range' 0 a).flatMap fun a => (List.range' (a + 1) (N - (a + 1))).map fun b => (a, b)).filter (sureB L fr)).map pI) (a : Int)) (sureW N L fr)) (n := N) (by
      refine Ev.step (f := fun _ => some (sureW N L fr)) (fun k => ?_) (Ev.now _)
      rw [spec_pzSure.l0, if_neg (by omega)]
      rfl) (by
      intro a ha ih
      have h1 := up_loop (P := fun d => Ev (fun k => spec_pzSure.l1 k (N : Int) (L.map (pty N)) fr (((((List.range' 0 a).flatMap fun a => (List.range' (a + 1) (N - (a + 1))).map fun b => (a, b)) ++ (List.range' (a + 1) d).map fun b => (a, b)).filter (sureB L fr)).map pI) (a : Int) ((a + 1 + d : Nat) : Int)) (sureW N L fr)) (n := N - (a + 1)) (by
          refine Ev.step (fun k => ?_) ih
          rw [spec_pzSure.l1, if_neg (by omega), nat_succ a (by omega)]
          congr 1
          rw [List.range'_concat, List.flatMap_append]
          simp) (by
          intro d hd ih1
          have hx := hpn a (by omega)
          obtain ⟨xs, hxs⟩ : ∃ z, z = (((((List.range' 0 a).flatMap fun a => (List.range' (a + 1) (N - (a + 1))).map fun b => (a, b)) ++ (List.range' (a + 1) d).map fun b => (a, b)).filter (sureB L fr)).map pI) := ⟨_, rfl⟩
          have hxl : xs.length ≤ 2000 := by
            rw [hxs, List.length_map]
            have := List.length_filter_le (sureB L fr) (((List.range' 0 a).flatMap fun a => (List.range' (a + 1) (N - (a + 1))).map fun b => (a, b)) ++ (List.range' (a + 1) d).map fun b => (a, b))
            rw [List.length_append, List.length_map, List.length_range'] at this
            omega
          have h2 := pzSure_inner N hn L hL hg fr a (a + 1 + d) ha (by omega) xs hxl (sureW N L fr) (by
            rw [List.range'_concat, List.map_append, ← List.append_assoc, List.filter_append, List.map_append, ← hxs] at ih1
            simp only [List.map_cons, List.map_nil, Nat.one_mul] at ih1
            by_cases hb : sureB L fr (a, a + 1 + d) = true
            · rw [if_pos hb]
              rw [List.filter_cons, if_pos hb] at ih1
              exact ih1
            · rw [if_neg hb]
              rw [List.filter_cons, if_neg hb, List.filter_nil, List.map_nil, List.append_nil] at ih1
              exact ih1)
          refine Ev.step (fun k => ?_) h2
          rw [spec_pzSure.l1, if_pos (by omega), hlm, hxs]) 0 (Nat.zero_le _)
      refine Ev.step (fun k => ?_) h1
      rw [spec_pzSure.l0, if_pos (by omega), nat_succ a (by omega)]
      simp) 0 (Nat.zero_le _)
  exact key

theorem good_nat {n : Int} {cs : List S30} (hg : goodP n cs = true) : ∃ N : Nat, n = (N : Int) := by
  have h0 : 0 ≤ n := by
    unfold goodP guests at hg
    simp only [Bool.and_eq_true, decide_eq_true_eq] at hg
    omega
  exact Int.eq_ofNat_of_zero_le h0
theorem spec_pzSureOf.ok (n : Int) (cs : List S30) (fr : Bool) : Ev (fun k => spec_pzSureOf.f k n cs fr) (sureC n cs fr) := by
  unfold spec_pzSureOf.f sureC
  refine Ev.bind (ev_of 12 fun k hk => spec_pzGood.ok n cs k hk) ?_
  by_cases hg : goodP n cs = true
  · refine Ev.ite_pos hg ?_
    obtain ⟨N, rfl⟩ := good_nat hg
    obtain ⟨h1, h2, h3⟩ := clue_of hg
    refine Ev.bind (spec_pzAll.ok N h1.1 h1.2 cs (by omega) h3) ?_
    simp only [Int.toNat_natCast, List.length_map]
    have hl : (solveL N cs).length ≤ 1024 := Nat.le_trans (List.length_filter_le _ _) (allP_length N h1.1 h1.2)
    by_cases hs : (solveL N cs).length = 0
    · rw [if_neg (fun h => h.2 hs)]
      exact Ev.ite_pos (by omega) (Ev.now _)
    · rw [if_pos ⟨hg, hs⟩]
      exact Ev.ite_neg (by omega) (Ev.bind (spec_pzSure.ok N h1.1 h1.2 (solveL N cs) (by omega) (fun l hl => allP_good N h1.1 h1.2 l (List.mem_filter.1 hl).1) fr) (Ev.now _))
  · refine Ev.ite_neg hg ?_
    rw [if_neg (fun h => hg h.1)]
    exact Ev.now _

theorem contains_ok (l : List S110) (hl : l.length ≤ 1000) (x y : Int) (k : Nat) (hk : l.length < k) : impl_Pair_124.f k l x y = some (l.any fun q => x == q.f0 && y == q.f1) := by
  have key : ∀ d k (i : Nat), i + d = l.length → d < k → ∃ r : Int, impl_Pair_136.l0 k l (l.length : Int) (i : Int) x y = some r ∧ decide (r ≥ 0) = (l.drop i).any fun q => x == q.f0 && y == q.f1 := by
    intro d
    induction d with
    | zero =>
      intro k i hi hk
      obtain ⟨k, rfl⟩ : ∃ m, k = m + 1 := ⟨k - 1, by omega⟩
      refine ⟨-1, by rw [impl_Pair_136.l0, if_neg (by omega)], ?_⟩
      rw [List.drop_eq_nil_of_le (by omega)]
      simp
    | succ d ih =>
      intro k i hi hk
      obtain ⟨k, rfl⟩ : ∃ m, k = m + 1 := ⟨k - 1, by omega⟩
      have hlt : i < l.length := by omega
      rw [List.drop_eq_getElem_cons hlt, List.any_cons]
      by_cases hc : (x == l[i].f0 && y == l[i].f1) = true
      · refine ⟨(i : Int), ?_, by rw [hc]; simp⟩
        rw [impl_Pair_136.l0, if_pos (by omega), if_pos (by omega), if_pos (by omega), rd_T110_nat l i hlt, if_pos hc]
      · obtain ⟨r, h1, h2⟩ := ih k (i + 1) (by omega) (by omega)
        refine ⟨r, ?_, by rw [h2, show (x == l[i].f0 && y == l[i].f1) = false from by simpa using hc, Bool.false_or]⟩
        rw [impl_Pair_136.l0, if_pos (by omega), if_pos (by omega), if_pos (by omega), rd_T110_nat l i hlt, if_neg hc, nat_succ i (by omega)]
        exact h1
  obtain ⟨r, h1, h2⟩ := key l.length k 0 (by omega) hk
  unfold impl_Pair_124.f impl_Pair_136.f
  rw [show impl_Pair_136.l0 k l (l.length : Int) 0 x y = some r from h1]
  simp only [Option.bind_some]
  rw [h2, List.drop_zero]
theorem goodB_in {n : Nat} {l : List S110} (h : goodB n l = true) (a b : Nat) (hab : a < b) : (l.any fun q => (a : Int) == q.f0 && (b : Int) == q.f1) = adj l a b := by
  unfold adj
  rw [Bool.eq_iff_iff, List.any_eq_true, List.any_eq_true]
  constructor
  · rintro ⟨x, hx, h1⟩
    simp only [Bool.and_eq_true, beq_iff_eq] at h1
    exact ⟨x, hx, decide_eq_true (.inl ⟨by omega, by omega⟩)⟩
  · rintro ⟨x, hx, h1⟩
    obtain ⟨i, hi, rfl⟩ := List.getElem_of_mem hx
    have g := (goodB_step h i hi).1
    refine ⟨l[i], hx, ?_⟩
    simp only [decide_eq_true_eq] at h1
    simp only [Bool.and_eq_true, beq_iff_eq]
    omega

theorem impl_sure.ok (n : Int) (cs : List S30) (fr : Bool) : Ev (fun k => impl_sure.f k n cs fr) (sureC n cs fr) := by
  unfold impl_sure.f sureC
  refine Ev.bind (impl_CountSolutions.ok n cs) ?_
  unfold countSol
  by_cases hg : goodP n cs = true
  · rw [if_pos hg]
    obtain ⟨N, rfl⟩ := good_nat hg
    obtain ⟨h1, h2, h3⟩ := clue_of hg
    simp only [Int.toNat_natCast]
    have hs := impl_solutions.ok N h1.1 h1.2 cs h3
    have hgd : ∀ l ∈ solveL N cs, goodB N l = true := fun l hl => allP_good N h1.1 h1.2 l (List.mem_filter.1 hl).1
    obtain ⟨L, hL⟩ : ∃ L, L = solveL N cs := ⟨_, rfl⟩
    rw [← hL] at hs hgd
    by_cases hl : L.length = 0
    · rw [if_neg (fun h => h.2 (by rw [← hL]; exact hl))]
      exact Ev.ite_pos (by rw [← hL]; omega) (Ev.now _)
    · rw [if_pos ⟨hg, by rw [← hL]; exact hl⟩]
      refine Ev.ite_neg (by rw [← hL]; omega) ?_
      rw [← hL]
      refine (Ev.bind (impl_FullParty.ok N (by omega)) (Ev.bind (Ev.bind hs (Ev.now _)) ?_))
      refine ev_of 100 fun k hk => ?_
      have hc : ∀ l ∈ L, ∀ x y, impl_Pair_124.f k l x y = some (l.any fun q => x == q.f0 && y == q.f1) := fun l hl x y => by
        have := goodB_len66 (hgd l hl)
        exact contains_ok l (by omega) x y k (by omega)
      have hin : ∀ l ∈ L, ∀ x : S110, inB k l x = l.any fun q => x.f0 == q.f0 && x.f1 == q.f1 := fun l hl x => by
        unfold inB
        rw [hc l hl]; rfl
      unfold sureL
      rw [if_pos (by
        unfold okIn
        refine List.all_eq_true.2 fun x hx => List.all_eq_true.2 fun q hq => ?_
        obtain ⟨l, hl, rfl⟩ := List.mem_map.1 hq
        show (impl_Pair_124.f k l x.f0 x.f1).isSome = true
        rw [hc l hl]; rfl)]
      unfold sureW
      simp only
      rw [List.filter_map]
      congr 3
      refine List.filter_congr fun p hp => ?_
      have hlt := ((prsN_facts N (by omega)).2.1 p hp).1
      simp only [Function.comp]
      unfold sureB
      rw [List.any_map, List.all_eq_not_any_not]
      congr 1
      rw [Bool.eq_iff_iff, List.any_eq_true, List.any_eq_true]
      constructor
      · rintro ⟨l, hl, hb⟩
        refine ⟨l, hl, ?_⟩
        simp only [Function.comp] at hb
        rw [show (pty (N : Int) l).f1 = l from rfl, hin l hl] at hb
        have e := goodB_in (hgd l hl) p.1 p.2 hlt
        simp only [pI] at hb
        rw [e] at hb
        cases h5 : adj l p.1 p.2 <;> cases fr <;> simp_all
      · rintro ⟨l, hl, hb⟩
        refine ⟨l, hl, ?_⟩
        simp only [Function.comp]
        rw [show (pty (N : Int) l).f1 = l from rfl, hin l hl]
        have e := goodB_in (hgd l hl) p.1 p.2 hlt
        simp only [pI]
        rw [e]
        cases h5 : adj l p.1 p.2 <;> cases fr <;> simp_all
  · rw [if_neg hg, if_neg (fun h => hg h.1)]
    exact Ev.ite_pos rfl (Ev.now _)

theorem spec_SureStrangers.ok (n : Int) (cs : List S30) : Ev (fun k => spec_SureStrangers.f k n cs) (sureC n cs false) := Ev.bind (spec_pzSureOf.ok n cs false) (Ev.now _)

theorem impl_SureStrangers.ok (n : Int) (cs : List S30) : Ev (fun k => impl_SureStrangers.f k n cs) (sureC n cs false) := Ev.bind (impl_sure.ok n cs false) (Ev.now _)

end Go.Proofs.YtdnkipagpagfiaaDoor.PSol3
namespace Go.Proofs.YtdnkipagpagfiaaDoor
open Go.RowKit Go.Proofs.YtdnkipagpagfiaaDoor.Base Go.Proofs.YtdnkipagpagfiaaDoor.PSol3 Go.Proofs.YtdnkipagpagfiaaDoorW.PrintWords Go.Proofs.YtdnkipagpagfiaaDoorW.PrintLast Go.Proofs.YtdnkipagpagfiaaDoorW.PrintMore
theorem fnExactSureStrangers_pure : fnExactSureStrangers.Pure := by
  intro n l hn hl
  have hm := hl.1
  refine Ev.rounds (g := fun k => laws_FnExactSureStrangers.f k n l) ?_
  unfold laws_FnExactSureStrangers.f
  rw [laws_szPuzzle.ok n l _ (by omega) (by omega) hl.1]
  simp only [Option.bind_some]
  by_cases h0 : (1048576 : Int) - l.length < 0
  · rw [if_pos h0]
    exact Ev.ite_pos (by omega) (Ev.now _)
  · rw [if_neg h0]
    refine Ev.ite_neg (by omega) ?_
    have hlen : l.length ≤ 1048576 := by omega
    have hcl : (cls l).length ≤ 1048576 := by rw [cls_length]; exact hlen
    have ht : Ev (fun k => laws_toPuzzle.f k n l) (n, cls l) := ev_of (l.length + 1) fun k hk => laws_toPuzzle.ok n l hlen k (by omega)
    have hep : Ev (fun k => laws_eqPuzzle.f k n (cls l) n (cls l)) true := ev_of ((cls l).length + 1) fun k hk => laws_eqPuzzle.refl n (cls l) hcl k (by omega)
    have hmp : Ev (fun k => laws_markPuzzle.f k n (cls l) 1) (1 + 3 * ((cls l).length : Int), (List.range (cls l).length).map mkClue) := ev_of ((cls l).length + 1) fun k hk => laws_markPuzzle.ok n (cls l) hcl k (by omega)
    have hs := spec_SureStrangers.ok n (cls l)
    have hi := impl_SureStrangers.ok n (cls l)
    have h9 := sureC_len n (cls l) false
    generalize sureC n (cls l) false = x at hs hi h9
    obtain ⟨r, b⟩ := x
    simp only at h9
    have hei : Ev (fun k => laws_eqPairS.f k r r) true := ev_of (r.length + 1) fun k hk => laws_eqPairS.refl r (by omega) k (by omega)
    have hmi : Ev (fun k => laws_markPairS.f k r 1) (1 + 2 * (r.length : Int), (List.range r.length).map mkPair) := ev_of (r.length + 1) fun k hk => laws_markPairS.ok r (by omega) k (by omega)
    have hhi : Ev (fun k => laws_heldPairS.f k ((List.range r.length).map mkPair) 1) (1 + 2 * (r.length : Int)) := ev_of (r.length + 1) fun k hk => laws_heldPairS.ok r.length (by omega) k (by omega)
    refine Ev.bind ht (Ev.bind hs (Ev.bind ht (Ev.bind hi (Ev.bind hei (Ev.ite_pos rfl (Ev.ite_neg (by simp) (Ev.bind ht (Ev.bind hep (Ev.ite_pos rfl (Ev.bind hmp (Ev.ite_neg ?_ ?_)))))))))))
    · simp only; omega
    refine Ev.bind hei (Ev.ite_pos rfl (Ev.bind hmi (Ev.bind hhi (Ev.ite_neg (by omega) (Ev.ite_pos rfl (Ev.bind ht (Ev.bind hi (Ev.bind hei (Ev.ite_pos rfl (Ev.ite_neg (by simp) (Ev.bind hhi (Ev.ite_neg (by omega) (Ev.ite_pos rfl (Ev.now _))))))))))))))
theorem fnExactSureStrangers_holds : Rows.FnExactSureStrangersCardSaid := fnExactSureStrangers.proved fnExactSureStrangers_pure
end Go.Proofs.YtdnkipagpagfiaaDoor
