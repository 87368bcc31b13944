/- FnExactSolutions: whatever the puzzle, the program tells its solutions as the reference does, leaves the puzzle as it was, and returns memory of its own. Condition: the table of math/bits lies as its initialiser lays it (the card's own). -/
import Derived.Test.YtjpfbkkikcpmhaaDoorLawFnExactSolutions
import Derived.Test.YtjpfbkkikcpmhaaDoorPBase
import Derived.Test.YtjpfbkkikcpmhaaDoorGraph
namespace Go.Proofs.YtjpfbkkikcpmhaaDoor.PFnExactSolutions
set_option linter.unusedVariables false
set_option linter.unusedSimpArgs false
open Go.RowKit Go.Proofs.YtjpfbkkikcpmhaaDoor.Base Go.Proofs.YtjpfbkkikcpmhaaDoor.PFnExactSolutions Go.Proofs.YtjpfbkkikcpmhaaDoorW.PrintWords Go.Proofs.YtjpfbkkikcpmhaaDoorW.PrintLast Go.Proofs.YtjpfbkkikcpmhaaDoorW.PrintMore
theorem laws_eqClueS.refl (l : List S70) (hl : l.length ≤ 1048576) (k : Nat) (hk : l.length < k) : laws_eqClueS.f k l l = some true := by
  unfold laws_eqClueS.f
  rw [if_pos rfl]
  rw [all_loop (fun k i => laws_eqClueS.l0 k l l i) l.length (fun _ => true) (by omega) 0 ?_ ?_ k hk]
  · simp
  · intro k i h _
    simp only [laws_eqClueS.l0, laws_eqClue.f]
    rw [if_pos (by omega), if_pos (by omega), if_pos (by omega)]
    simp
  · intro k
    simp only [laws_eqClueS.l0]
    rw [if_neg (by omega)]

theorem laws_eqPuzzle.refl (n : Int) (l : List S70) (hl : l.length ≤ 1048576) (k : Nat) (hk : l.length < k) : laws_eqPuzzle.f k n l n l = some true := by
  unfold laws_eqPuzzle.f
  rw [if_pos rfl, laws_eqClueS.refl l hl k hk]; rfl

theorem rd_T70_nat (l : List S70) (i : Nat) (h : i < l.length) : rd_T70 l (i : Int) = l[i] := by simp [rd_T70, List.getD, h]
def mkClue (i : Nat) : S70 := ⟨1 + 3 * i, 2 + 3 * i, 3 + 3 * i⟩
theorem laws_markClueS.ok (l : List S70) (hl : l.length ≤ 1048576) (k : Nat) (hk : l.length < k) : laws_markClueS.f k l 1 = some (1 + 3 * (l.length : Int), (List.range l.length).map mkClue) := by
  unfold laws_markClueS.f
  refine mark_loop (fun k acc m i => laws_markClueS.l0 k acc m i) mkClue 3 l.length ?_ ?_ k l rfl hk
  · intro k acc i h ha
    have e1 : wrap64 (1 + ((3 : Nat) : Int) * i + 1) = 2 + 3 * i := by rw [wrap_id (by omega) (by omega)]; omega
    have e2 : wrap64 (2 + 3 * (i : Int) + 1) = 3 + 3 * i := by rw [wrap_id (by omega) (by omega)]; omega
    have e3 : wrap64 (3 + 3 * (i : Int) + 1) = 1 + ((3 : Nat) : Int) * ((i + 1 : Nat) : Int) := by rw [wrap_id (by omega) (by omega)]; omega
    have e4 : wrap64 ((i : Int) + 1) = ((i + 1 : Nat) : Int) := by rw [wrap_id (by omega) (by omega)]; omega
    have hr : ∀ (q : List S70) (x : S70), q.length = l.length → rd_T70 (q.set i x) (i : Int) = x := by
      intro q x hq
      rw [rd_T70_nat _ i (by simp; omega)]; simp
    simp only [laws_markClueS.l0, e1, e2, e3, e4, Int.toNat_natCast, Option.bind_some]
    rw [if_pos (by omega), if_pos (by omega), hr acc _ ha]
    simp only [List.set_set]
    rw [hr acc _ ha]
    simp only [mkClue]
    rfl
  · intro k acc m ha
    simp only [laws_markClueS.l0]
    rw [if_neg (by omega)]

theorem laws_markPuzzle.ok (n : Int) (l : List S70) (hl : l.length ≤ 1048576) (k : Nat) (hk : l.length < k) : laws_markPuzzle.f k n l 1 = some (1 + 3 * (l.length : Int), (List.range l.length).map mkClue) := by
  unfold laws_markPuzzle.f
  rw [laws_markClueS.ok l hl k hk]; rfl

theorem laws_szClueS.ok (l : List S126) (n : Int) (h0 : 0 ≤ n) (h1 : n ≤ 1048576) (hl : l.length ≤ maxLen) : laws_szClueS.f l n = some (if n - l.length < 0 then -1 else n - l.length) := by
  unfold maxLen at hl
  unfold laws_szClueS.f
  rw [wrap_id (by omega) (by omega)]
  split <;> rfl

theorem laws_szPuzzle.ok (p : Int) (l : List S126) (n : Int) (h0 : 0 ≤ n) (h1 : n ≤ 1048576) (hl : l.length ≤ maxLen) : laws_szPuzzle.f p l n = some (if n - l.length < 0 then -1 else n - l.length) := by
  unfold laws_szPuzzle.f
  rw [laws_szClueS.ok l n h0 h1 hl]
  simp only [Option.bind_some]
  by_cases h : n - (l.length : Int) < 0
  · simp [h]
  · simp [h]

theorem spec_l1In.ok (n lo hi : Int) : spec_l1In.f n lo hi = some (decide (lo ≤ n ∧ n ≤ hi)) := by
  unfold spec_l1In.f
  by_cases h : lo ≤ n <;> simp [h]

theorem spec_pzPeople.ok (n : Int) : spec_pzPeople.f n = some (guests n) := by unfold spec_pzPeople.f guests; simp [spec_l1In.ok]

theorem spec_pzClue.ok (k : Nat) (n kd a b : Int) (h1 : 1 ≤ n) (h2 : n ≤ 5) : spec_pzClue.f (k + 1) n kd a b = some (clueI n kd a b) := by
  have e1 : wrap64 (n - 1) = n - 1 := wrap_id (by omega) (by omega)
  have e2 : wrap64 (Int.tdiv (wrap64 (n * (wrap64 (n - 1)))) 2) = n * (n - 1) / 2 := by
    obtain rfl | rfl | rfl | rfl | rfl : n = 1 ∨ n = 2 ∨ n = 3 ∨ n = 4 ∨ n = 5 := by omega
    all_goals (unfold wrap64; decide)
  rw [e1] at e2
  have e3 : 0 ≤ a → a ≤ n - 1 → wrap64 (a + 1) = a + 1 := fun h h' => wrap_id (by omega) (by omega)
  have e4 : n * (n - 1) / 2 ≤ 10 := by
    obtain rfl | rfl | rfl | rfl | rfl : n = 1 ∨ n = 2 ∨ n = 3 ∨ n = 4 ∨ n = 5 := by omega
    all_goals decide
  unfold spec_pzClue.f clueI
  simp only [spec_pzClue.j0, spec_l1In.ok, e1, e2, Option.bind_some]
  generalize n * (n - 1) / 2 = m at *
  clear e1 e2
  have key : ∀ x : Bool, (if x = true then (some (decide (wrap64 (a + 1) ≤ b ∧ b ≤ n - 1)) : Option Bool) else some false) = some (x && decide (wrap64 (a + 1) ≤ b ∧ b ≤ n - 1)) := fun x => by cases x <;> rfl
  by_cases k0 : kd = 0
  · simp only [k0, if_true, beq_self_eq_true, true_or, key]
    rw [Option.some_inj, Bool.eq_iff_iff]
    simp only [Bool.and_eq_true, decide_eq_true_eq]
    by_cases ha : 0 ≤ a ∧ a ≤ n - 1
    · rw [e3 ha.1 ha.2]; omega
    · omega
  · by_cases k1 : kd = 1
    · subst k1
      simp only [show ((1 : Int) = 0) = False from by simp, if_true, if_false, beq_self_eq_true, or_true, key]
      rw [Option.some_inj, Bool.eq_iff_iff]
      simp only [Bool.and_eq_true, decide_eq_true_eq]
      by_cases ha : 0 ≤ a ∧ a ≤ n - 1
      · rw [e3 ha.1 ha.2]; omega
      · omega
    · simp only [k0, k1, if_false, or_self, beq_iff_eq]
      repeat' split
      all_goals (rw [Option.some_inj, Bool.eq_iff_iff]; first | done | (simp_all; done) | (simp_all; omega))

theorem spec_pzGood.ok (n : Int) (l : List S70) (k : Nat) (hk : 12 ≤ k) : spec_pzGood.f k n l = some (guests n && decide (l.length ≤ 8) && l.all (puzzleC n)) := by
  obtain ⟨k, rfl⟩ : ∃ m, k = m + 1 := ⟨k - 1, by omega⟩
  unfold spec_pzGood.f
  rw [spec_pzPeople.ok]
  simp only [Option.bind_some]
  by_cases hn : guests n = true
  · have hg : 1 ≤ n ∧ n ≤ 5 := by simpa [guests] using hn
    rw [if_pos hn, hn]
    simp only [spec_pzGood.j0]
    by_cases h8 : l.length ≤ 8
    · rw [if_neg (by simp; omega), decide_eq_true h8]
      simp only [Bool.true_and]
      rw [all_loop (fun k i => spec_pzGood.l0 k l (l.length : Int) i n l) l.length (fun i => puzzleC n (l.getD i z70)) (by omega) 1 ?_ ?_ k (by omega), range_all]
      · intro k i h hk1
        obtain ⟨k, rfl⟩ : ∃ m, k = m + 1 := ⟨k - 1, by omega⟩
        simp only [spec_pzGood.l0]
        rw [if_pos (by omega), if_pos (by omega), if_pos (by omega), rd_T70_nat l i h, spec_pzClue.ok _ _ _ _ _ hg.1 hg.2]
        simp only [Option.bind_some, puzzleC, hn, Bool.true_and, List.getD, List.getElem?_eq_getElem h, Option.getD_some]
      · intro k
        simp only [spec_pzGood.l0]
        rw [if_neg (by omega)]
    · rw [if_pos (by simp; omega), decide_eq_false h8]; simp
  · have hn : guests n = false := by simpa using hn
    rw [hn, if_neg (by simp)]; simp [spec_pzGood.j0]
def goodP (n : Int) (L : List S70) : Bool := guests n && decide (L.length ≤ 8) && L.all (puzzleC n)

def lessB (x y : S105) : Bool := decide (x.f0 < y.f0 ∨ x.f0 = y.f0 ∧ x.f1 < y.f1)
theorem spec_paLess.ok (a b c d : Int) : spec_paLess.f a b c d = some (lessB ⟨a, b⟩ ⟨c, d⟩) := by
  unfold spec_paLess.f lessB
  by_cases h : a < c
  · simp [h]
  · by_cases h2 : a = c
    · subst h2; simp
    · simp [h, h2]

theorem rd_T105_nat (l : List S105) (i : Nat) (h : i < l.length) : rd_T105 l (i : Int) = l[i] := by simp [rd_T105, List.getD, h]
-- pairnat
/-- A party's pairs come before another's. -/
def befB : List S105 → List S105 → Bool
  | [], q => decide (0 < q.length)
  | _ :: _, [] => false
  | x :: p, y :: q => if x.f0 = y.f0 ∧ x.f1 = y.f1 then befB p q else lessB x y
theorem spec_paBefore.ok (n m : Int) (p q : List S105) (hp : p.length ≤ 1000) (hq : q.length ≤ 1000) : Ev (fun k => spec_paBefore.f k n p m q) (befB p q) := by
  unfold spec_paBefore.f
  have h := up_loop (P := fun i => befB (p.drop i) (q.drop i) = befB p q → Ev (fun k => spec_paBefore.l0 k p (p.length : Int) (i : Int) n p m q) (befB p q)) (n := p.length) (by
      intro h
      rw [List.drop_length] at h
      refine Ev.step (f := fun _ => some (decide ((p.length : Int) < (q.length : Int)))) (fun k => ?_) ?_
      · rw [spec_paBefore.l0, if_neg (by omega)]
      · have e : decide ((p.length : Int) < (q.length : Int)) = befB p q := by
          rw [← h]
          simp only [befB, List.length_drop]
          rw [decide_eq_decide]
          omega
        rw [e]
        exact Ev.now _) (by
      intro i hi ih h
      by_cases hj : i < q.length
      · rw [List.drop_eq_getElem_cons hi, List.drop_eq_getElem_cons hj] at h
        simp only [befB] at h
        by_cases he : p[i].f0 = q[i].f0 ∧ p[i].f1 = q[i].f1
        · rw [if_pos he] at h
          refine Ev.step (fun k => ?_) (ih h)
          rw [spec_paBefore.l0, if_pos (by omega), if_pos (by omega), if_pos (by omega), if_neg (by omega), if_pos (by omega), rd_T105_nat p i hi, rd_T105_nat q i hj, he.1, he.2, if_neg (by simp), nat_succ i (by omega)]
        · rw [if_neg he] at h
          refine Ev.step (f := fun _ => some (lessB p[i] q[i])) (fun k => ?_) (by rw [h]; exact Ev.now _)
          have hne : (!(p[i].f0 == q[i].f0) || (!(p[i].f1 == q[i].f1))) = true := by
            simp only [Bool.or_eq_true, Bool.not_eq_true', beq_eq_false_iff_ne]
            by_cases h0 : p[i].f0 = q[i].f0
            · exact .inr (fun h1 => he ⟨h0, h1⟩)
            · exact .inl h0
          rw [spec_paBefore.l0, if_pos (by omega), if_pos (by omega), if_pos (by omega), if_neg (by omega), if_pos (by omega), rd_T105_nat p i hi, rd_T105_nat q i hj, if_pos hne, spec_paLess.ok]
          rfl
      · rw [List.drop_eq_getElem_cons hi, List.drop_eq_nil_of_le (show q.length ≤ i by omega)] at h
        simp only [befB] at h
        rw [← h]
        refine Ev.step (f := fun _ => some false) (fun k => ?_) (Ev.now _)
        rw [spec_paBefore.l0, if_pos (by omega), if_pos (by omega), if_pos (by omega), if_pos (by omega)]) 0 (Nat.zero_le _) rfl
  exact h

/-- All pairs of n people, in order. -/
def prsN (n : Nat) : List (Nat × Nat) := (List.range' 0 n).flatMap fun a => (List.range' (a + 1) (n - (a + 1))).map fun b => (a, b)
theorem prsN_facts (n : Nat) (h : n ≤ 6) : (prsN n).length ≤ 15 ∧ (∀ p ∈ prsN n, p.1 < p.2 ∧ p.2 < n) ∧ (prsN n).Pairwise (fun p q => p.1 < q.1 ∨ p.1 = q.1 ∧ p.2 < q.2) := by
  obtain rfl | rfl | rfl | rfl | rfl | rfl | rfl : n = 0 ∨ n = 1 ∨ n = 2 ∨ n = 3 ∨ n = 4 ∨ n = 5 ∨ n = 6 := by omega
  all_goals decide
def pI (p : Nat × Nat) : S105 := ⟨(p.1 : Int), (p.2 : Int)⟩
theorem rd_pI (ps : List (Nat × Nat)) (i : Nat) (h : i < ps.length) : rd_T105 (ps.map pI) (i : Int) = pI ps[i] := by simp [rd_T105, List.getD, h]
theorem shl64 (b : Nat) (h : b ≤ 15) : shl .i64 1 (b : Int) = ((2 ^ b : Nat) : Int) := by
  obtain rfl | rfl | rfl | rfl | rfl | rfl | rfl | rfl | rfl | rfl | rfl | rfl | rfl | rfl | rfl | rfl : b = 0 ∨ b = 1 ∨ b = 2 ∨ b = 3 ∨ b = 4 ∨ b = 5 ∨ b = 6 ∨ b = 7 ∨ b = 8 ∨ b = 9 ∨ b = 10 ∨ b = 11 ∨ b = 12 ∨ b = 13 ∨ b = 14 ∨ b = 15 := by omega
  all_goals decide
/-- Two lists merged. -/
def mrg : Nat → List (List S105) → List (List S105) → List (List S105)
  | 0, _, _ => []
  | _ + 1, A, [] => A
  | _ + 1, [], B => B
  | f + 1, a :: A, b :: B => if befB a b = true then a :: mrg f A (b :: B) else b :: mrg f (a :: A) B
theorem mrg_nil (f : Nat) (A : List (List S105)) (h : A.length = f) : mrg f A [] = A := by
  cases f with
  | zero => rw [List.length_eq_zero_iff.1 h]; rfl
  | succ f => simp [mrg]
theorem mrg_nil' (f : Nat) (B : List (List S105)) (h : B.length = f) : mrg f [] B = B := by
  cases f with
  | zero => rw [List.length_eq_zero_iff.1 h]; rfl
  | succ f =>
    cases B with
    | nil => simp [mrg]
    | cons b B => simp [mrg]
theorem mrg_length : ∀ (f : Nat) (A B : List (List S105)), A.length + B.length = f → (mrg f A B).length = f
  | 0, _, _, _ => rfl
  | f + 1, A, [], h => by simpa [mrg] using h
  | f + 1, [], b :: B, h => by simpa [mrg] using h
  | f + 1, a :: A, b :: B, h => by
    simp only [mrg]
    simp only [List.length_cons] at h
    split
    · rw [List.length_cons, mrg_length f A (b :: B) (by simp only [List.length_cons]; omega)]
    · rw [List.length_cons, mrg_length f (a :: A) B (by simp only [List.length_cons]; omega)]
/-- One round of the sorting: neighbours of a width are merged. -/
def pass : Nat → Nat → List (List S105) → List (List S105)
  | 0, _, _ => []
  | _ + 1, _, [] => []
  | f + 1, w, x :: L => mrg (((x :: L).take w).length + (((x :: L).drop w).take w).length) ((x :: L).take w) (((x :: L).drop w).take w) ++ pass f w ((x :: L).drop (2 * w))
theorem pass_length (w : Nat) (hw : 0 < w) : ∀ (f : Nat) (L : List (List S105)), L.length ≤ f → (pass f w L).length = L.length
  | 0, L, h => by simp only [pass]; simp only [List.length_nil]; omega
  | f + 1, [], _ => rfl
  | f + 1, x :: L, h => by
    simp only [pass, List.length_append]
    simp only [List.length_cons] at h
    rw [mrg_length _ _ _ rfl, pass_length w hw f _ (by simp only [List.length_drop, List.length_cons]; omega)]
    simp only [List.length_take, List.length_drop, List.length_cons]
    omega
def sortF : Nat → Nat → List (List S105) → List (List S105)
  | 0, _, L => L
  | f + 1, w, L => if w < L.length then sortF f (2 * w) (pass L.length w L) else L
/-- The pairs whose bits are set. -/
def pick (ps : List S105) (m : Nat) : List S105 :=
  match ps with
  | [] => []
  | p :: ps => if m % 2 = 1 then p :: pick ps (m / 2) else pick ps (m / 2)
def sets (ps : List S105) : List (List S105) := (List.range (2 ^ ps.length)).map (pick ps)
/-- All parties of n people, in order: those that go on with a pair after it. -/
def dfs : List S105 → List S105 → List (List S105)
  | _, [] => []
  | l, x :: r => (l ++ [x]) :: dfs (l ++ [x]) r ++ dfs l r
def allP (n : Nat) : List (List S105) := [] :: dfs [] ((prsN n).map pI)
def eqP : List S105 → List S105 → Bool
  | [], [] => true
  | x :: a, y :: b => decide (x.f0 = y.f0 ∧ x.f1 = y.f1) && eqP a b
  | _, _ => false
theorem eqP_eq : ∀ a b : List S105, eqP a b = true → a = b
  | [], [], _ => rfl
  | ⟨x0, x1⟩ :: a, ⟨y0, y1⟩ :: b, h => by
    simp only [eqP, Bool.and_eq_true, decide_eq_true_eq] at h
    rw [h.1.1, h.1.2, eqP_eq a b h.2]
  | [], _ :: _, h => by simp [eqP] at h
  | _ :: _, [], h => by simp [eqP] at h
def eqPP : List (List S105) → List (List S105) → Bool
  | [], [] => true
  | x :: a, y :: b => eqP x y && eqPP a b
  | _, _ => false
theorem eqPP_eq : ∀ a b : List (List S105), eqPP a b = true → a = b
  | [], [], _ => rfl
  | x :: a, y :: b, h => by
    simp only [eqPP, Bool.and_eq_true] at h
    rw [eqP_eq x y h.1, eqPP_eq a b h.2]
  | [], _ :: _, h => by simp [eqPP] at h
  | _ :: _, [], h => by simp [eqPP] at h
theorem sort1 : eqPP (sortF 12 1 (sets ((prsN 1).map pI))) (allP 1) = true := by decide +kernel
theorem sort2 : eqPP (sortF 12 1 (sets ((prsN 2).map pI))) (allP 2) = true := by decide +kernel
theorem sort3 : eqPP (sortF 12 1 (sets ((prsN 3).map pI))) (allP 3) = true := by decide +kernel
theorem sort4 : eqPP (sortF 12 1 (sets ((prsN 4).map pI))) (allP 4) = true := by decide +kernel
theorem big_sort5 : eqPP (sortF 12 1 (sets ((prsN 5).map pI))) (allP 5) = true := by decide +kernel
theorem sort_all (n : Nat) (h0 : 1 ≤ n) (h : n ≤ 5) : sortF 12 1 (sets ((prsN n).map pI)) = allP n := by
  obtain rfl | rfl | rfl | rfl | rfl : n = 1 ∨ n = 2 ∨ n = 3 ∨ n = 4 ∨ n = 5 := by omega
  · exact eqPP_eq _ _ sort1
  · exact eqPP_eq _ _ sort2
  · exact eqPP_eq _ _ sort3
  · exact eqPP_eq _ _ sort4
  · exact eqPP_eq _ _ big_sort5
def pty (n : Int) (l : List S105) : S33 := ⟨n, l⟩
theorem rd_pty (n : Int) (L : List (List S105)) (i : Nat) (h : i < L.length) : rd_T33 (L.map (pty n)) (i : Int) = pty n L[i] := by simp [rd_T33, List.getD, h]
theorem take_step {α : Type} (L : List α) (i m : Nat) (hi : i < m) (hm : m ≤ L.length) : (L.drop i).take (m - i) = L[i] :: (L.drop (i + 1)).take (m - (i + 1)) := by
  rw [List.drop_eq_getElem_cons (by omega), show m - i = (m - (i + 1)) + 1 from by omega, List.take_succ_cons]
theorem take_none {α : Type} (L : List α) (i m : Nat) (hi : m ≤ i) : (L.drop i).take (m - i) = [] := by
  rw [show m - i = 0 from by omega, List.take_zero]
theorem mrg_loop (n : Int) (L : List (List S105)) (hL : L.length ≤ 2000) (hLp : ∀ l ∈ L, l.length ≤ 1000) (w fr mid e : Nat) (hw : w ≤ 5000) (hm : mid ≤ L.length) (he : e ≤ L.length) (hfr : fr ≤ 2000) (r : List S33) :
    ∀ f i j acc, (mid - i) + (e - j) = f → i ≤ mid → j ≤ e → acc.length + f ≤ 4000 → Ev (fun k => spec_pzParties.l5 k (L.map (pty n)) (w : Int) ((acc ++ mrg f ((L.drop i).take (mid - i)) ((L.drop j).take (e - j))).map (pty n)) ((fr + 2 * w : Nat) : Int)) r →
    Ev (fun k => spec_pzParties.l6 k (L.map (pty n)) (w : Int) (acc.map (pty n)) (fr : Int) (mid : Int) (e : Int) (i : Int) (j : Int)) r := by
  intro f
  induction f with
  | zero =>
    intro i j acc hf hi hj hb h
    obtain rfl : i = mid := by omega
    obtain rfl : j = e := by omega
    simp only [mrg, List.append_nil] at h
    refine Ev.step (fun k => by rw [spec_pzParties.l6, if_neg (by omega)]) (Ev.step (fun k => ?_) h)
    rw [spec_pzParties.j7, if_neg (by simp), wrap_id (x := 2 * (w : Int)) (by omega) (by omega), wrap_id (by omega) (by omega)]
    congr 1
  | succ f ih =>
    intro i j acc hf hi hj hb h
    have hlen : (L.map (pty n)).length = L.length := List.length_map ..
    have hacc : (acc.map (pty n)).length < 4398046511104 := by rw [List.length_map]; omega
    have hstep : ∀ (x : List S105), acc.map (pty n) ++ [(⟨(pty n x).f0, (pty n x).f1⟩ : S33)] = (acc ++ [x]).map (pty n) := fun x => by simp [pty]
    have h6 : ∀ k, spec_pzParties.l6 (k + 1) (L.map (pty n)) (w : Int) (acc.map (pty n)) (fr : Int) (mid : Int) (e : Int) (i : Int) (j : Int) = spec_pzParties.j7 k (L.map (pty n)) (w : Int) (acc.map (pty n)) (fr : Int) (mid : Int) (e : Int) (i : Int) (j : Int) true := by
      intro k
      rw [spec_pzParties.l6]
      by_cases h1 : i < mid
      · rw [if_pos (by omega)]
      · rw [if_neg (by omega), decide_eq_true (show (j : Int) < (e : Int) by omega)]
    refine Ev.step h6 ?_
    by_cases hje : j = e
    · subst hje
      have hi1 : i < mid := by omega
      rw [take_none L j j (Nat.le_refl _), take_step L i mid hi1 hm, mrg] at h
      have h2 := ih (i + 1) j (acc ++ [L[i]]) (by omega) (by omega) (by omega) (by rw [List.length_append]; simp only [List.length_singleton]; omega) (by
        rw [take_none L j j (Nat.le_refl _), mrg_nil f _ (by simp only [List.length_take, List.length_drop]; omega), List.append_assoc]
        exact h)
      refine Ev.step (fun k => ?_) h2
      rw [spec_pzParties.j7, if_pos rfl, if_pos rfl, if_pos (by omega), if_pos (by omega), if_pos hacc, rd_pty n L i (by omega), hstep, nat_succ i (by omega)]
    · by_cases hi1 : i < mid
      · have hp := hLp L[i] (List.getElem_mem (by omega))
        have hq := hLp L[j] (List.getElem_mem (by omega))
        rw [take_step L i mid hi1 hm, take_step L j e (by omega) he] at h
        simp only [mrg] at h
        have hbf := spec_paBefore.ok n n L[i] L[j] hp hq
        by_cases hb2 : befB L[i] L[j] = true
        · rw [if_pos hb2] at h
          have h2 := ih (i + 1) j (acc ++ [L[i]]) (by omega) (by omega) (by omega) (by rw [List.length_append]; simp only [List.length_singleton]; omega) (by
            rw [take_step L j e (by omega) he, List.append_assoc]
            exact h)
          refine Ev.step (f := fun k => (spec_paBefore.f k n L[i] n L[j]).bind fun t => if t = true then spec_pzParties.l6 k (L.map (pty n)) (w : Int) ((acc ++ [L[i]]).map (pty n)) (fr : Int) (mid : Int) (e : Int) ((i + 1 : Nat) : Int) (j : Int) else spec_pzParties.l6 k (L.map (pty n)) (w : Int) ((acc ++ [L[j]]).map (pty n)) (fr : Int) (mid : Int) (e : Int) (i : Int) ((j + 1 : Nat) : Int)) (fun k => ?_) (Ev.bind hbf (by rw [hb2]; exact Ev.ite_pos rfl h2))
          rw [spec_pzParties.j7, if_pos rfl, if_neg (by omega), if_pos (by omega), if_pos (by omega), if_pos (by omega), if_pos (by omega), if_pos (by omega), if_pos hacc, if_pos hacc, rd_pty n L i (by omega), rd_pty n L j (by omega), hstep, hstep, nat_succ i (by omega), nat_succ j (by omega)]
          rfl
        · rw [if_neg hb2] at h
          have h2 := ih i (j + 1) (acc ++ [L[j]]) (by omega) (by omega) (by omega) (by rw [List.length_append]; simp only [List.length_singleton]; omega) (by
            rw [take_step L i mid hi1 hm, List.append_assoc]
            exact h)
          refine Ev.step (f := fun k => (spec_paBefore.f k n L[i] n L[j]).bind fun t => if t = true then spec_pzParties.l6 k (L.map (pty n)) (w : Int) ((acc ++ [L[i]]).map (pty n)) (fr : Int) (mid : Int) (e : Int) ((i + 1 : Nat) : Int) (j : Int) else spec_pzParties.l6 k (L.map (pty n)) (w : Int) ((acc ++ [L[j]]).map (pty n)) (fr : Int) (mid : Int) (e : Int) (i : Int) ((j + 1 : Nat) : Int)) (fun k => ?_) (Ev.bind hbf (Ev.ite_neg hb2 h2))
          rw [spec_pzParties.j7, if_pos rfl, if_neg (by omega), if_pos (by omega), if_pos (by omega), if_pos (by omega), if_pos (by omega), if_pos (by omega), if_pos hacc, if_pos hacc, rd_pty n L i (by omega), rd_pty n L j (by omega), hstep, hstep, nat_succ i (by omega), nat_succ j (by omega)]
          rfl
      · obtain rfl : i = mid := by omega
        rw [take_none L i i (Nat.le_refl _), take_step L j e (by omega) he] at h
        simp only [mrg] at h
        have h2 := ih i (j + 1) (acc ++ [L[j]]) (by omega) (by omega) (by omega) (by rw [List.length_append]; simp only [List.length_singleton]; omega) (by
          rw [take_none L i i (Nat.le_refl _), mrg_nil' f _ (by simp only [List.length_take, List.length_drop]; omega), List.append_assoc]
          exact h)
        refine Ev.step (fun k => ?_) h2
        rw [spec_pzParties.j7, if_pos rfl, if_neg (by omega), if_neg (by omega), if_pos (by omega), if_pos (by omega), if_pos hacc, rd_pty n L j (by omega), hstep, nat_succ j (by omega)]
theorem pass_loop (n : Int) (L : List (List S105)) (hL : L.length ≤ 2000) (hLp : ∀ l ∈ L, l.length ≤ 1000) (w : Nat) (hw0 : 0 < w) (hw : w ≤ 5000) (r : List S33) :
    ∀ f fr acc, L.length - fr ≤ f → acc.length + (L.length - fr) ≤ 4000 → Ev (fun k => spec_pzParties.l4 k ((acc ++ pass f w (L.drop fr)).map (pty n)) ((2 * w : Nat) : Int)) r → fr ≤ 12000 →
    Ev (fun k => spec_pzParties.l5 k (L.map (pty n)) (w : Int) (acc.map (pty n)) (fr : Int)) r := by
  have hend : ∀ fr : Nat, ∀ acc : List (List S105), L.length ≤ fr → Ev (fun k => spec_pzParties.l4 k (acc.map (pty n)) ((2 * w : Nat) : Int)) r → Ev (fun k => spec_pzParties.l5 k (L.map (pty n)) (w : Int) (acc.map (pty n)) (fr : Int)) r := by
    intro fr acc hfr h
    refine Ev.step (fun k => ?_) h
    rw [spec_pzParties.l5, if_neg (by rw [List.length_map]; omega), wrap_id (by omega) (by omega)]
    congr 1
    omega
  intro f
  induction f with
  | zero =>
    intro fr acc hf hb h hfr
    refine hend fr acc (by omega) ?_
    simpa [pass] using h
  | succ f ih =>
    intro fr acc hf hb h hfr
    by_cases hlt : fr < L.length
    · have hd : L.drop fr = L[fr] :: L.drop (fr + 1) := List.drop_eq_getElem_cons hlt
      have hps : pass (f + 1) w (L.drop fr) = mrg (((L.drop fr).take w).length + (((L.drop fr).drop w).take w).length) ((L.drop fr).take w) (((L.drop fr).drop w).take w) ++ pass f w ((L.drop fr).drop (2 * w)) := by rw [hd]; rfl
      rw [hps] at h
      obtain ⟨mid, hmid⟩ : ∃ mid, mid = min (fr + w) L.length := ⟨_, rfl⟩
      obtain ⟨e, he⟩ : ∃ e, e = min (fr + 2 * w) L.length := ⟨_, rfl⟩
      have hA : (L.drop fr).take (mid - fr) = (L.drop fr).take w := by
        by_cases hc : fr + w ≤ L.length
        · rw [show mid - fr = w from by omega]
        · rw [List.take_of_length_le (i := w) (by rw [List.length_drop]; omega), List.take_of_length_le (by rw [List.length_drop]; omega)]
      have hB : (L.drop mid).take (e - mid) = ((L.drop fr).drop w).take w := by
        rw [List.drop_drop]
        by_cases hc : fr + w ≤ L.length
        · rw [show mid = fr + w from by omega]
          by_cases hc2 : fr + 2 * w ≤ L.length
          · rw [show e - (fr + w) = w from by omega]
          · rw [List.take_of_length_le (i := w) (by rw [List.length_drop]; omega), List.take_of_length_le (by rw [List.length_drop]; omega)]
        · rw [List.drop_eq_nil_of_le (i := mid) (by omega), List.drop_eq_nil_of_le (i := fr + w) (by omega)]
          simp
      have hlen1 : ((L.drop fr).take w).length + (((L.drop fr).drop w).take w).length = (mid - fr) + (e - mid) := by
        simp only [List.length_take, List.length_drop]
        omega
      rw [hlen1, ← hA, ← hB, List.drop_drop, ← List.append_assoc] at h
      have hml := mrg_length ((mid - fr) + (e - mid)) ((L.drop fr).take (mid - fr)) ((L.drop mid).take (e - mid)) (by simp only [List.length_take, List.length_drop]; omega)
      have h1 := ih (fr + 2 * w) (acc ++ mrg ((mid - fr) + (e - mid)) ((L.drop fr).take (mid - fr)) ((L.drop mid).take (e - mid))) (by omega) (by rw [List.length_append, hml]; omega) h (by omega)
      have h2 := mrg_loop n L hL hLp w fr mid e hw (by omega) (by omega) (by omega) r _ fr mid acc rfl (by omega) (by omega) (by omega) h1
      refine Ev.step (fun k => ?_) h2
      have ll : ∀ a b : Int, spec_l1Least.f a b = some (if a < b then a else b) := fun a b => by unfold spec_l1Least.f; split <;> rfl
      rw [spec_pzParties.l5, if_pos (by rw [List.length_map]; omega), ll, ll, wrap_id (x := 2 * (w : Int)) (by omega) (by omega), wrap_id (x := (fr : Int) + w) (by omega) (by omega), wrap_id (by omega) (by omega), List.length_map]
      simp only [Option.bind_some]
      rw [show (if (fr : Int) + (w : Int) < (L.length : Int) then (fr : Int) + (w : Int) else (L.length : Int)) = (mid : Int) from by split <;> omega, show (if (fr : Int) + 2 * (w : Int) < (L.length : Int) then (fr : Int) + 2 * (w : Int) else (L.length : Int)) = (e : Int) from by split <;> omega]
    · refine hend fr acc (by omega) ?_
      rw [List.drop_eq_nil_of_le (by omega), show pass (f + 1) w ([] : List (List S105)) = [] from rfl, List.append_nil] at h
      exact h
theorem pass_mem (w : Nat) : True := trivial
theorem mrg_mem : ∀ (f : Nat) (A B : List (List S105)) (x : List S105), x ∈ mrg f A B → x ∈ A ∨ x ∈ B
  | 0, _, _, x, h => by simp [mrg] at h
  | f + 1, A, [], x, h => by simp [mrg] at h; exact .inl h
  | f + 1, [], b :: B, x, h => by simp only [mrg] at h; exact .inr h
  | f + 1, a :: A, b :: B, x, h => by
    simp only [mrg] at h
    split at h
    · rcases List.mem_cons.1 h with rfl | h
      · exact .inl (by simp)
      · rcases mrg_mem f A (b :: B) x h with h | h
        · exact .inl (by simp [h])
        · exact .inr h
    · rcases List.mem_cons.1 h with rfl | h
      · exact .inr (by simp)
      · rcases mrg_mem f (a :: A) B x h with h | h
        · exact .inl h
        · exact .inr (by simp [h])
theorem passes_mem (w : Nat) : ∀ (f : Nat) (L : List (List S105)) (x : List S105), x ∈ pass f w L → x ∈ L
  | 0, _, x, h => by simp [pass] at h
  | f + 1, [], x, h => by simp [pass] at h
  | f + 1, y :: L, x, h => by
    simp only [pass, List.mem_append] at h
    rcases h with h | h
    · rcases mrg_mem _ _ _ x h with h | h
      · exact List.mem_of_mem_take h
      · exact List.mem_of_mem_drop (List.mem_of_mem_take h)
    · exact List.mem_of_mem_drop (passes_mem w f _ x h)
theorem sort_loop (n : Int) : ∀ (f w : Nat) (L : List (List S105)), L.length ≤ 2000 → (∀ l ∈ L, l.length ≤ 1000) → 0 < w → 2000 < w * 2 ^ f → w ≤ 5000 → Ev (fun k => spec_pzParties.l4 k (L.map (pty n)) (w : Int)) ((sortF f w L).map (pty n)) := by
  intro f
  induction f with
  | zero =>
    intro w L hL hLp hw0 hw hw2
    refine Ev.step (f := fun _ => some (L.map (pty n))) (fun k => ?_) (Ev.now _)
    rw [spec_pzParties.l4, if_neg (by rw [List.length_map]; omega)]
  | succ f ih =>
    intro w L hL hLp hw0 hw hw2
    simp only [sortF]
    by_cases hlt : w < L.length
    · rw [if_pos hlt]
      have hpl := pass_length w hw0 L.length L (Nat.le_refl _)
      have h1 := ih (2 * w) (pass L.length w L) (by omega) (fun l hl => hLp l (passes_mem w _ _ l hl)) (by omega) (by rw [Nat.pow_succ] at hw; rw [show 2 * w * 2 ^ f = w * (2 ^ f * 2) from by rw [Nat.mul_comm (2 ^ f) 2, ← Nat.mul_assoc, Nat.mul_comm w 2]]; exact hw) (by omega)
      have h2 := pass_loop n L hL hLp w hw0 hw2 _ L.length 0 [] (by omega) (by simp only [List.length_nil]; omega) (by rw [List.drop_zero, List.nil_append]; exact h1) (by omega)
      refine Ev.step (fun k => ?_) h2
      rw [spec_pzParties.l4, if_pos (by rw [List.length_map]; omega)]
      rfl
    · rw [if_neg hlt]
      refine Ev.step (f := fun _ => some (L.map (pty n))) (fun k => ?_) (Ev.now _)
      rw [spec_pzParties.l4, if_neg (by rw [List.length_map]; omega)]
theorem i64_odd (m i : Nat) (h : i ≤ 64) : (Int.tmod (shr .i64 (m : Int) (i : Int)) 2 = 1) ↔ (m / 2 ^ i) % 2 = 1 := by
  unfold shr
  rw [Int.toNat_natCast, Nat.min_eq_left (by simpa [IntKind.bits] using h)]
  have : ((m : Int) / 2 ^ i) = ((m / 2 ^ i : Nat) : Int) := by simp
  rw [this]
  generalize m / 2 ^ i = q
  rw [Int.tmod_eq_emod_of_nonneg (Int.natCast_nonneg _)]
  omega
theorem pick_step (ps : List S105) (i : Nat) (hi : i < ps.length) (m : Nat) : pick (ps.drop i) (m / 2 ^ i) = if m / 2 ^ i % 2 = 1 then ps[i] :: pick (ps.drop (i + 1)) (m / 2 ^ (i + 1)) else pick (ps.drop (i + 1)) (m / 2 ^ (i + 1)) := by
  rw [List.drop_eq_getElem_cons hi]
  simp only [pick]
  rw [Nat.div_div_eq_div_mul, ← Nat.pow_succ]
theorem pick_length : ∀ (ps : List S105) (m : Nat), (pick ps m).length ≤ ps.length
  | [], m => by simp [pick]
  | p :: ps, m => by
    have := pick_length ps (m / 2)
    simp only [pick]
    split
    · simp only [List.length_cons]; omega
    · simp only [List.length_cons]; omega
theorem spec_pzParties.ok (N : Nat) (h0 : 1 ≤ N) (h : N ≤ 5) : Ev (fun k => spec_pzParties.f k (N : Int)) ((allP N).map (pty N)) := by
  have f1 : ((prsN N).map pI).length ≤ 10 := by
    obtain rfl | rfl | rfl | rfl | rfl : N = 1 ∨ N = 2 ∨ N = 3 ∨ N = 4 ∨ N = 5 := by omega
    all_goals decide
  rw [← sort_all N h0 h]
  generalize hps : (prsN N).map pI = ps at f1
  have hpw : 2 ^ ps.length ≤ 2 ^ 10 := Nat.pow_le_pow_right (by omega) f1
  have hset : (sets ps).length = 2 ^ ps.length := by simp [sets]
  have hsort := sort_loop N 12 1 (sets ps) (by rw [hset]; omega) (fun l hl => by
    obtain ⟨m, _, rfl⟩ := List.mem_map.1 hl
    have := pick_length ps m
    omega) (by omega) (by omega) (by omega)
  have htake : ∀ j, ((List.range j).map (pick ps)).map (pty N) ++ [pty N (pick ps j)] = ((List.range (j + 1)).map (pick ps)).map (pty N) := fun j => by rw [List.range_succ, List.map_append, List.map_append]; rfl
  have h2 := up_loop (P := fun j => Ev (fun k => spec_pzParties.l2 k (N : Int) (((List.range j).map (pick ps)).map (pty N)) ps (j : Int)) ((sortF 12 1 (sets ps)).map (pty N))) (n := 2 ^ ps.length) (by
      refine Ev.step (fun k => ?_) hsort
      rw [spec_pzParties.l2, shl64 _ (by omega), if_neg (by omega)]
      rfl) (by
      intro j hj ih
      have h3 := up_loop (P := fun i => ∀ acc, acc ++ pick (ps.drop i) (j / 2 ^ i) = pick ps j → Ev (fun k => spec_pzParties.l3 k (N : Int) (((List.range j).map (pick ps)).map (pty N)) ps (j : Int) ps (ps.length : Int) (i : Int) (N : Int) acc) ((sortF 12 1 (sets ps)).map (pty N))) (n := ps.length) (by
          intro acc hacc
          rw [List.drop_length] at hacc
          simp only [pick, List.append_nil] at hacc
          subst hacc
          refine Ev.step (fun k => ?_) ih
          have e : (((List.range j).map (pick ps)).map (pty (N : Int))).length < 4398046511104 := by simp only [List.length_map, List.length_range]; omega
          rw [spec_pzParties.l3, if_neg (by omega), if_pos e, nat_succ j (by omega), ← htake]
          rfl) (by
          intro i hi ih2 acc hacc
          rw [pick_step ps i hi] at hacc
          by_cases hb : j / 2 ^ i % 2 = 1
          · rw [if_pos hb] at hacc
            have hl : acc.length < 8796093022208 := by
              have h1 := congrArg List.length hacc
              have h2 := pick_length ps j
              rw [List.length_append] at h1
              omega
            refine Ev.step (fun k => ?_) (ih2 (acc ++ [ps[i]]) (by rw [List.append_assoc]; exact hacc))
            rw [spec_pzParties.l3, if_pos (by omega), if_pos (by omega), if_pos (by omega), if_pos ((i64_odd j i (by omega)).2 hb), if_pos hl, rd_T105_nat ps i hi, nat_succ i (by omega)]
          · rw [if_neg hb] at hacc
            refine Ev.step (fun k => ?_) (ih2 acc hacc)
            rw [spec_pzParties.l3, if_pos (by omega), if_pos (by omega), if_pos (by omega), if_neg (fun h => hb ((i64_odd j i (by omega)).1 h)), nat_succ i (by omega)]) 0 (Nat.zero_le _) [] (by simp)
      refine Ev.step (fun k => ?_) h3
      rw [spec_pzParties.l2, shl64 _ (by omega), if_pos (by omega)]
      rfl) 0 (Nat.zero_le _)
  have h0_ := up_loop (P := fun a => Ev (fun k => spec_pzParties.l0 k (N : Int) (((List.range' 0 a).flatMap fun a => (List.range' (a + 1) (N - (a + 1))).map fun b => (a, b)).map pI) (a : Int)) ((sortF 12 1 (sets ps)).map (pty N))) (n := N) (by
      refine Ev.step (fun k => ?_) h2
      rw [spec_pzParties.l0, if_neg (by omega)]
      subst hps
      rfl) (by
      intro a ha ih
      have h1 := up_loop (P := fun d => Ev (fun k => spec_pzParties.l1 k (N : Int) ((((List.range' 0 a).flatMap fun a => (List.range' (a + 1) (N - (a + 1))).map fun b => (a, b)).map pI) ++ ((List.range' (a + 1) d).map fun b => pI (a, b))) (a : Int) ((a + 1 + d : Nat) : Int)) ((sortF 12 1 (sets ps)).map (pty N))) (n := N - (a + 1)) (by
          refine Ev.step (fun k => ?_) ih
          rw [spec_pzParties.l1, if_neg (by omega), nat_succ a (by omega)]
          congr 1
          rw [List.range'_concat, List.flatMap_append, List.map_append]
          simp [List.map_map, Function.comp_def]) (by
          intro d hd ih1
          refine Ev.step (fun k => ?_) ih1
          have hlen : ((((List.range' 0 a).flatMap fun a => (List.range' (a + 1) (N - (a + 1))).map fun b => (a, b)).map pI) ++ ((List.range' (a + 1) d).map fun b => pI (a, b))).length < 8796093022208 := by
            simp only [List.length_append, List.length_map, List.length_range']
            have : ((List.range' 0 a).flatMap fun a => (List.range' (a + 1) (N - (a + 1))).map fun b => (a, b)).length ≤ 25 := by
              have hN : N ≤ 5 := h
              obtain rfl | rfl | rfl | rfl | rfl : a = 0 ∨ a = 1 ∨ a = 2 ∨ a = 3 ∨ a = 4 := by omega
              all_goals (obtain rfl | rfl | rfl | rfl | rfl : N = 1 ∨ N = 2 ∨ N = 3 ∨ N = 4 ∨ N = 5 := by omega) <;> decide
            omega
          rw [spec_pzParties.l1, if_pos (by omega), if_pos hlen, nat_succ (a + 1 + d) (by omega), List.range'_concat, List.map_append, ← List.append_assoc]
          simp only [List.map_cons, List.map_nil, Nat.one_mul]
          rfl) 0 (Nat.zero_le _)
      refine Ev.step (fun k => ?_) h1
      rw [spec_pzParties.l0, if_pos (by omega), nat_succ a (by omega)]
      simp) 0 (Nat.zero_le _)
  exact h0_

theorem rdL_tabB (n : Nat) (F : Nat → Nat → Bool) (a : Nat) (h : a < n) : rd_L7 (tabB n F) (a : Int) = (List.range n).map (F a) := by
  simp only [rd_L7, Int.toNat_natCast]
  exact tabB_getD n F a h
/-- Two people are friends. -/
def adj (l : List S105) (a b : Nat) : Bool := l.any fun x => decide (x.f0.toNat = a ∧ x.f1.toNat = b ∨ x.f1.toNat = a ∧ x.f0.toNat = b)
theorem adj_symm (l : List S105) (a b : Nat) : adj l a b = adj l b a := by
  unfold adj
  congr 1
  funext x
  rw [decide_eq_decide]
  constructor <;> intro h <;> omega
/-- All pairs are of people below n. -/
def pin (n : Nat) (l : List S105) : Prop := ∀ x ∈ l, 0 ≤ x.f0 ∧ x.f0 < n ∧ 0 ≤ x.f1 ∧ x.f1 < n
-- pairnat
theorem adj_take (l : List S105) (i : Nat) (hi : i < l.length) : adj (l.take (i + 1)) = upd (upd (adj (l.take i)) l[i].f0.toNat l[i].f1.toNat true) l[i].f1.toNat l[i].f0.toNat true := by
  funext x y
  unfold adj upd
  rw [List.take_succ_eq_append_getElem hi, List.any_append]
  simp only [List.any_cons, List.any_nil, Bool.or_false]
  by_cases h1 : x = l[i].f1.toNat ∧ y = l[i].f0.toNat
  · rw [if_pos h1, decide_eq_true (by omega), Bool.or_true]
  · by_cases h2 : x = l[i].f0.toNat ∧ y = l[i].f1.toNat
    · rw [if_neg h1, if_pos h2, decide_eq_true (by omega), Bool.or_true]
    · rw [if_neg h1, if_neg h2, decide_eq_false (by omega), Bool.or_false]
theorem tabB_none (n : Nat) : List.replicate n (List.replicate n false) = tabB n (adj []) := by
  apply List.ext_getElem (by simp [tabB])
  intro i h1 h2
  simp only [List.getElem_replicate, tabB, List.getElem_map]
  apply List.ext_getElem (by simp)
  intro j g1 g2
  simp [adj]
theorem spec_paTable.ok (n : Nat) (hn : n ≤ 12) (l : List S105) (hl : l.length ≤ 1048576) (hp : pin n l) : Ev (fun k => spec_paTable.f k (n : Int) l) (tabB n (adj l)) := by
  have h1 : Ev (fun k => spec_paTable.l1 k (tabB n (adj (l.take 0))) l (l.length : Int) ((0 : Nat) : Int)) (tabB n (adj l)) := by
    refine up_loop (P := fun i => Ev (fun k => spec_paTable.l1 k (tabB n (adj (l.take i))) l (l.length : Int) (i : Int)) (tabB n (adj l))) (n := l.length) ?_ ?_ 0 (Nat.zero_le _)
    · refine Ev.step (f := fun _ => some (tabB n (adj l))) (fun k => ?_) (Ev.now _)
      simp only [spec_paTable.l1]
      rw [if_neg (by omega), List.take_length]
    · intro i hi h
      refine Ev.step (fun k => ?_) h
      obtain ⟨q0, q1, q2, q3⟩ := hp l[i] (List.getElem_mem hi)
      obtain ⟨a, ea⟩ := Int.eq_ofNat_of_zero_le q0
      obtain ⟨b, eb⟩ := Int.eq_ofNat_of_zero_le q2
      have ha : a < n := by omega
      have hb : b < n := by omega
      simp only [spec_paTable.l1, Option.bind_some]
      rw [if_pos (by omega), if_pos (by omega), if_pos (by omega), rd_T105_nat l i hi, ea, eb, rdL_tabB n _ a ha, if_pos (by omega), if_pos (by rw [tabB_length]; omega), if_pos (by omega), if_pos (by simp; omega), if_pos (by rw [tabB_length]; omega)]
      simp only [Int.toNat_natCast]
      rw [tabB_set n _ a b true ha, rdL_tabB n _ b hb, if_pos (by simp; omega), tabB_set n _ b a true hb, nat_succ i (by omega), adj_take l i hi, ea, eb]
      simp only [Int.toNat_natCast]
  unfold spec_paTable.f
  have h0 := up_loop (P := fun i => Ev (fun k => spec_paTable.l0 k (List.replicate i (List.replicate n false)) (i : Int) (n : Int) l) (tabB n (adj l))) (n := n) (by
      refine Ev.step (fun k => ?_) h1
      simp only [spec_paTable.l0]
      rw [if_neg (by omega), tabB_none]
      rfl) (by
      intro i hi h
      refine Ev.step (fun k => ?_) h
      simp only [spec_paTable.l0]
      rw [if_pos (by omega), if_pos (by omega), if_pos (by omega), if_pos (by simp; omega), nat_succ i (by omega), List.replicate_succ']
      rfl) 0 (Nat.zero_le _)
  exact h0

theorem spec_l1Own.ok (l : List Int) (h : l.length < 17592186044416) : spec_l1Own.f l = some l := by
  unfold spec_l1Own.f
  simp only [Option.bind_some, List.nil_append]
  rw [if_pos (by simpa using h)]

def ints (bs : List Nat) : List Int := bs.map fun (b : Nat) => (b : Int)
theorem ints_length (bs : List Nat) : (ints bs).length = bs.length := by simp [ints]
theorem rd_ints (bs : List Nat) (i : Nat) (h : i < bs.length) : rd (ints bs) (i : Int) = ((bs[i] : Nat) : Int) := by simp [rd, ints, List.getD, h]
/-- x is a friend of all of some people. -/
def know (F : Nat → Nat → Bool) (bs : List Nat) (x : Nat) : Bool := bs.all (F x)
theorem spec_grJoins.ok (n : Nat) (_hn : n ≤ 12) (F : Nat → Nat → Bool) (bs : List Nat) (a : Nat) (ha : a < n) (hb : ∀ b ∈ bs, b < n) (hl : bs.length ≤ 1048576) : Ev (fun k => spec_grJoins.f k (tabB n F) (ints bs) (a : Int)) (know F bs a) := by
  unfold spec_grJoins.f know
  rw [ints_length]
  refine up_loop (P := fun i => Ev (fun k => spec_grJoins.l0 k (tabB n F) (a : Int) (ints bs) (bs.length : Int) (i : Int)) ((bs.drop i).all (F a))) (n := bs.length) ?_ ?_ 0 (Nat.zero_le _)
  · refine Ev.step (f := fun _ => some true) (fun k => ?_) (by rw [List.drop_length]; exact Ev.now _)
    simp only [spec_grJoins.l0]
    rw [if_neg (by omega)]
  · intro i hi h
    have e : (bs.drop i).all (F a) = (F a bs[i] && (bs.drop (i + 1)).all (F a)) := by rw [List.drop_eq_getElem_cons hi]; rfl
    have hbi := hb bs[i] (List.getElem_mem hi)
    rw [e]
    cases hF : F a bs[i] with
    | false =>
      rw [Bool.false_and]
      refine Ev.step (f := fun _ => some false) (fun k => ?_) (Ev.now _)
      simp only [spec_grJoins.l0]
      rw [if_pos (by omega), if_pos (by omega), if_pos (by rw [ints_length]; omega), if_pos (by omega), if_pos (by rw [tabB_length]; omega), rd_ints bs i hi, if_pos (by omega), rdL_tabB n F a ha, if_pos (by simp; omega), row_get n _ _ hbi, hF, if_neg (by simp)]
    | true =>
      rw [Bool.true_and]
      refine Ev.step (fun k => ?_) h
      simp only [spec_grJoins.l0]
      rw [if_pos (by omega), if_pos (by omega), if_pos (by rw [ints_length]; omega), if_pos (by omega), if_pos (by rw [tabB_length]; omega), rd_ints bs i hi, if_pos (by omega), rdL_tabB n F a ha, if_pos (by simp; omega), row_get n _ _ hbi, hF, if_pos rfl, nat_succ i (by omega)]

theorem two_pow_step (n i : Nat) (h : i < n) : 2 ^ (n - i) = 2 * 2 ^ (n - (i + 1)) := by
  rw [show n - i = (n - (i + 1)) + 1 from by omega, Nat.pow_succ, Nat.mul_comm]
theorem spec_grLook.ok (n : Nat) (hn : n ≤ 12) (F : Nat → Nat → Bool) (hF : ∀ a b, F a b = F b a) : ∀ (m : Nat) (bs : List Nat) (fr : Nat) (xs : List (List Int)), n - fr = m → fr ≤ n → bs.length ≤ fr → (∀ b ∈ bs, b < n) → xs.length + 2 ^ (n - fr) ≤ 4096 →
    ∃ out, Ev (fun k => spec_grLook.f k (tabB n F) (ints bs) (fr : Int) xs) (xs ++ out) ∧ out.length ≤ 2 ^ (n - fr) ∧ (∀ p ∈ out, bs.length ≤ p.length) ∧ ∀ d, (∃ p ∈ out, p.length = bs.length + d) ↔ cl F d ((List.range' fr (n - fr)).filter (know F bs)) = true := by
  intro m
  induction m using Nat.strongRecOn with
  | ind m ih =>
    intro bs fr xs hm hfn hbl hb hx
    have loop := up_loop (P := fun i => fr ≤ i → ∀ acc : List (List Int), acc.length + 2 ^ (n - i) ≤ 4097 → ∃ out, Ev (fun k => spec_grLook.l0 k (tabB n F) (ints bs) (i : Int) acc) (acc ++ out) ∧ out.length + 1 ≤ 2 ^ (n - i) ∧ (∀ p ∈ out, bs.length + 1 ≤ p.length) ∧ ∀ d, (∃ p ∈ out, p.length = bs.length + (d + 1)) ↔ clGo F (cl F d) ((List.range' i (n - i)).filter (know F bs)) = true) (n := n) (by
        intro _ acc _
        refine ⟨[], ?_, by simp, by simp, by simp [clGo]⟩
        rw [List.append_nil]
        refine Ev.step (f := fun _ => some acc) (fun k => ?_) (Ev.now _)
        rw [spec_grLook.l0, if_neg (by rw [tabB_length]; omega)]) (by
        intro i hi h hfi acc hacc
        have hk := spec_grJoins.ok n hn F bs i hi hb (by omega)
        have h2 := two_pow_step n i hi
        have hpos := Nat.two_pow_pos (n - (i + 1))
        rw [range'_cons i n hi]
        have hl0 : ∀ k, spec_grLook.l0 (k + 1) (tabB n F) (ints bs) (i : Int) acc = (spec_grJoins.f k (tabB n F) (ints bs) (i : Int)).bind fun j => if j = true then ((spec_l1Own.f (ints bs)).bind fun q => if q.length < 17592186044416 then ((spec_grLook.f k (tabB n F) (q ++ [(i : Int)]) (wrap64 ((i : Int) + 1)) acc).bind fun ys => spec_grLook.l0 k (tabB n F) (ints bs) (wrap64 ((i : Int) + 1)) ys) else none) else spec_grLook.l0 k (tabB n F) (ints bs) (wrap64 ((i : Int) + 1)) acc := by
          intro k
          rw [spec_grLook.l0, if_pos (by rw [tabB_length]; omega)]
        cases hki : know F bs i with
        | false =>
          obtain ⟨out, o1, o2, o3, o4⟩ := h (by omega) acc (by omega)
          refine ⟨out, ?_, by omega, o3, ?_⟩
          · refine Ev.step hl0 (Ev.bind hk ?_)
            rw [hki]
            refine Ev.ite_neg (by simp) ?_
            rw [nat_succ i (by omega)]
            exact o1
          · rw [List.filter_cons_of_neg (by simp [hki])]
            exact o4
        | true =>
          obtain ⟨oa, a1, a2, a4, a3⟩ := ih (n - (i + 1)) (by omega) (bs ++ [i]) (i + 1) acc rfl (by omega) (by simp; omega) (by
            intro b hbm
            rcases List.mem_append.1 hbm with h | h
            · exact hb b h
            · obtain rfl := List.mem_singleton.1 h
              exact hi) (by omega)
          obtain ⟨out, o1, o2, o3, o4⟩ := h (by omega) (acc ++ oa) (by rw [List.length_append]; omega)
          have hlen : (bs ++ [i]).length = bs.length + 1 := by simp
          have e : (List.range' (i + 1) (n - (i + 1))).filter (know F (bs ++ [i])) = ((List.range' (i + 1) (n - (i + 1))).filter (know F bs)).filter (F i) := by
            rw [List.filter_filter]
            apply List.filter_congr
            intro x _
            simp only [know, List.all_append, List.all_cons, List.all_nil, Bool.and_true]
            rw [hF x i, Bool.and_comm]
          rw [hlen] at a4
          rw [hlen, e] at a3
          refine ⟨oa ++ out, ?_, by rw [List.length_append]; omega, ?_, ?_⟩
          · refine Ev.step hl0 (Ev.bind hk ?_)
            rw [hki, spec_l1Own.ok _ (by rw [ints_length]; omega)]
            refine Ev.ite_pos rfl ?_
            simp only [Option.bind_some]
            refine Ev.ite_pos (by rw [ints_length]; omega) ?_
            have e : ints bs ++ [(i : Int)] = ints (bs ++ [i]) := by simp [ints]
            rw [e, nat_succ i (by omega)]
            refine Ev.bind a1 ?_
            rw [← List.append_assoc]
            exact o1
          · intro p hp
            rcases List.mem_append.1 hp with hp | hp
            · exact a4 p hp
            · exact o3 p hp
          · intro d
            rw [List.filter_cons_of_pos hki]
            simp only [clGo, Bool.or_eq_true]
            rw [← o4 d, ← a3 d]
            constructor
            · rintro ⟨p, hp, hl⟩
              rcases List.mem_append.1 hp with hp | hp
              · exact .inl ⟨p, hp, by omega⟩
              · exact .inr ⟨p, hp, hl⟩
            · rintro (⟨p, hp, hl⟩ | ⟨p, hp, hl⟩)
              · exact ⟨p, List.mem_append_left _ hp, by omega⟩
              · exact ⟨p, List.mem_append_right _ hp, hl⟩)
    obtain ⟨out, o1, o2, o3, o4⟩ := loop fr hfn (Nat.le_refl _) (xs ++ [ints bs]) (by rw [List.length_append, List.length_singleton]; omega)
    refine ⟨[ints bs] ++ out, ?_, by rw [List.length_append, List.length_singleton]; omega, ?_, ?_⟩
    · rw [← List.append_assoc]
      refine Ev.step (fun k => ?_) o1
      rw [spec_grLook.f, spec_l1Own.ok _ (by rw [ints_length]; omega), Option.bind_some, if_pos (by omega)]
    · intro p hp
      rcases List.mem_append.1 hp with hp | hp
      · rw [List.mem_singleton.1 hp, ints_length]; omega
      · have := o3 p hp
        omega
    · intro d
      cases d with
      | zero =>
        refine ⟨fun _ => rfl, fun _ => ⟨ints bs, by simp, by rw [ints_length]; rfl⟩⟩
      | succ d =>
        rw [show cl F (d + 1) ((List.range' fr (n - fr)).filter (know F bs)) = clGo F (cl F d) ((List.range' fr (n - fr)).filter (know F bs)) from rfl, ← o4 d]
        constructor
        · rintro ⟨p, hp, hl⟩
          rcases List.mem_append.1 hp with hp | hp
          · rw [List.mem_singleton.1 hp, ints_length] at hl; omega
          · exact ⟨p, hp, hl⟩
        · rintro ⟨p, hp, hl⟩
          exact ⟨p, List.mem_append_right _ hp, hl⟩
theorem spec_grGroups.ok (n : Nat) (hn : n ≤ 12) (F : Nat → Nat → Bool) (hF : ∀ a b, F a b = F b a) : ∃ out, Ev (fun k => spec_grGroups.f k (tabB n F)) out ∧ out.length ≤ 4096 ∧ ∀ d, (∃ p ∈ out, p.length = d) ↔ cl F d (List.range n) = true := by
  have hp : 2 ^ (n - 0) ≤ 2 ^ 12 := Nat.pow_le_pow_right (by omega) (by omega)
  obtain ⟨out, h1, h2, _, h3⟩ := spec_grLook.ok n hn F hF (n - 0) [] 0 [] rfl (by omega) (by simp) (by simp) (by simpa using hp)
  refine ⟨out, ?_, Nat.le_trans h2 hp, fun d => ?_⟩
  · rw [List.nil_append] at h1
    exact h1
  · have := h3 d
    have e : (List.range' 0 (n - 0)).filter (know F []) = List.range n := by
      rw [Nat.sub_zero, List.range_eq_range', List.filter_eq_self]
      intro a _; rfl
    rw [e] at this
    simpa using this

-- pairnat
/-- What is asked of pair number i of a party of n people. -/
def stepB (n : Int) (l : List S105) (i : Nat) : Bool := decide (0 ≤ (l.getD i z105).f0 ∧ (l.getD i z105).f0 < (l.getD i z105).f1 ∧ (l.getD i z105).f1 < n) && (i == 0 || lessB (l.getD (i - 1) z105) (l.getD i z105))
/-- n and l are a party. -/
def goodB (n : Int) (l : List S105) : Bool := crowd n && (List.range l.length).all (stepB n l)
theorem goodB_people {n : Int} {l : List S105} (h : goodB n l = true) : 0 ≤ n ∧ n ≤ 12 := by
  unfold goodB crowd at h
  simp only [Bool.and_eq_true, decide_eq_true_eq] at h
  exact h.1
theorem goodB_step {n : Int} {l : List S105} (h : goodB n l = true) (i : Nat) (hi : i < l.length) : (0 ≤ l[i].f0 ∧ l[i].f0 < l[i].f1 ∧ l[i].f1 < n) ∧ (∀ h0 : 0 < i, l[i - 1].f0 < l[i].f0 ∨ l[i - 1].f0 = l[i].f0 ∧ l[i - 1].f1 < l[i].f1) := by
  unfold goodB at h
  simp only [Bool.and_eq_true, List.all_eq_true] at h
  have := h.2 i (List.mem_range.2 hi)
  unfold stepB lessB at this
  simp only [List.getD, List.getElem?_eq_getElem hi, List.getElem?_eq_getElem (show i - 1 < l.length by omega), Option.getD_some, Bool.and_eq_true, Bool.or_eq_true, decide_eq_true_eq, beq_iff_eq] at this
  refine ⟨this.1, fun h0 => ?_⟩
  rcases this.2 with h | h
  · omega
  · exact h
theorem goodB_len {n : Int} {l : List S105} (h : goodB n l = true) : 2 * (l.length : Int) ≤ n * (n - 1) := by
  refine pairs_bound n l.length (fun i => (l.getD i z105).f0) (fun i => (l.getD i z105).f1) ?_ ?_ (goodB_people h).1
  · intro i hi
    simp only [List.getD, List.getElem?_eq_getElem hi, Option.getD_some]
    exact (goodB_step h i hi).1
  · intro i hi
    simp only [List.getD, List.getElem?_eq_getElem hi, List.getElem?_eq_getElem (show i < l.length by omega), Option.getD_some]
    exact (goodB_step h (i + 1) hi).2 (by omega)
theorem goodB_len66 {n : Int} {l : List S105} (h : goodB n l = true) : l.length ≤ 66 := by
  have h1 := goodB_len h
  have h2 := goodB_people h
  obtain ⟨m, rfl⟩ := Int.eq_ofNat_of_zero_le h2.1
  obtain rfl | rfl | rfl | rfl | rfl | rfl | rfl | rfl | rfl | rfl | rfl | rfl | rfl : m = 0 ∨ m = 1 ∨ m = 2 ∨ m = 3 ∨ m = 4 ∨ m = 5 ∨ m = 6 ∨ m = 7 ∨ m = 8 ∨ m = 9 ∨ m = 10 ∨ m = 11 ∨ m = 12 := by omega
  all_goals omega
/-- All lists that are left of a list. -/
def subs {α : Type} : List α → List (List α)
  | [] => [[]]
  | x :: t => (subs t).map (x :: ·) ++ subs t
theorem nil_subs {α : Type} : ∀ l : List α, [] ∈ subs l
  | [] => by simp [subs]
  | x :: t => by simp [subs, nil_subs t]
theorem sorted_subs {α : Type} (R : α → α → Prop) (ha : ∀ x y, R x y → ¬ R y x) : ∀ P L : List α, P.Pairwise R → L.Pairwise R → (∀ x ∈ L, x ∈ P) → L ∈ subs P := by
  intro P
  induction P with
  | nil =>
    intro L _ _ h
    cases L with
    | nil => simp [subs]
    | cons x L => exact absurd (h x (by simp)) (by simp)
  | cons p P ih =>
    intro L hP hL h
    obtain ⟨hp, hP2⟩ := List.pairwise_cons.1 hP
    cases L with
    | nil => exact nil_subs _
    | cons x L =>
      obtain ⟨hx, hL'⟩ := List.pairwise_cons.1 hL
      simp only [subs, List.mem_append, List.mem_map]
      rcases List.mem_cons.1 (h x (by simp)) with rfl | hxP
      · refine .inl ⟨L, ih L hP2 hL' (fun y hy => ?_), rfl⟩
        rcases List.mem_cons.1 (h y (by simp [hy])) with rfl | hy'
        · exact absurd (hx y hy) (fun g => ha _ _ g g)
        · exact hy'
      · refine .inr (ih (x :: L) hP2 hL (fun y hy => ?_))
        rcases List.mem_cons.1 (h y hy) with rfl | hy'
        · rcases List.mem_cons.1 hy with rfl | hy
          · exact absurd (hp y hxP) (fun g => ha _ _ g g)
          · exact absurd (hx y hy) (ha _ _ (hp x hxP))
        · exact hy'
theorem pw_steps {α : Type} (R : α → α → Prop) (tr : ∀ x y z, R x y → R y z → R x z) (l : List α) (h : ∀ i (hi : i + 1 < l.length), R (l[i]'(by omega)) l[i + 1]) : l.Pairwise R := by
  rw [List.pairwise_iff_getElem]
  intro i j hi hj hij
  obtain ⟨d, rfl⟩ : ∃ d, j = i + 1 + d := ⟨j - (i + 1), by omega⟩
  clear hij
  induction d with
  | zero => exact h i hj
  | succ d ih => exact tr _ _ _ (ih (by omega)) (h (i + 1 + d) hj)
theorem mem_prsN (n a b : Nat) : (a, b) ∈ prsN n ↔ a < b ∧ b < n := by
  unfold prsN
  simp only [List.mem_flatMap, List.mem_map, List.mem_range'_1, Prod.mk.injEq]
  constructor
  · rintro ⟨x, hx, y, hy, rfl, rfl⟩; omega
  · rintro ⟨h1, h2⟩; exact ⟨a, by omega, b, by omega, rfl, rfl⟩
def lexS (p q : S105) : Prop := p.f0 < q.f0 ∨ p.f0 = q.f0 ∧ p.f1 < q.f1
theorem goodB_sorted {n : Int} {l : List S105} (h : goodB n l = true) : l.Pairwise lexS :=
  pw_steps lexS (fun x y z h1 h2 => by unfold lexS at *; omega) l (fun i hi => (goodB_step h (i + 1) hi).2 (by omega))
theorem goodB_subs {n : Nat} (hn : n ≤ 6) {l : List S105} (h : goodB n l = true) : l ∈ subs ((prsN n).map pI) := by
  refine sorted_subs lexS (fun x y h1 => by unfold lexS at *; omega) _ l ?_ (goodB_sorted h) (fun x hx => ?_)
  · rw [List.pairwise_map]
    refine (prsN_facts n hn).2.2.imp (fun {a b} hab => ?_)
    unfold lexS pI
    simp only
    omega
  · obtain ⟨i, hi, rfl⟩ := List.getElem_of_mem hx
    have g := (goodB_step h i hi).1
    refine List.mem_map.2 ⟨(l[i].f0.toNat, l[i].f1.toNat), (mem_prsN n _ _).2 ⟨by omega, by omega⟩, ?_⟩
    obtain ⟨x, hx⟩ : ∃ x, x = l[i] := ⟨_, rfl⟩
    rw [← hx] at g ⊢
    obtain ⟨u, v⟩ := x
    simp only at g
    have e1 := Int.toNat_of_nonneg g.1
    have e2 := Int.toNat_of_nonneg (show 0 ≤ v by omega)
    simp only [pI, e1, e2]
def sides (r s : Int) : Bool := decide (1 ≤ r ∧ r ≤ 4) && decide (1 ≤ s ∧ s ≤ 4)
/-- What is told of a party by clues of the kinds 2 to 5, on both sides. -/
def chk (n : Nat) (l : List S105) : Bool :=
  let T := tabI n (adj l)
  (match spec_paNumbers.f 100 n l with
    | some ms => ms.length == n && (List.range n).all fun (a : Nat) => impl_toldOf.f 100 2 (a : Int) T == some (rd ms a)
    | none => false) &&
  (impl_toldOf.f 100 3 0 T == some (l.length : Int)) &&
  (match spec_pzThrees.f 100 n l with
    | some m => impl_toldOf.f 100 4 0 T == some m
    | none => false) &&
  (match spec_paParts.f 100 n l with
    | some m => impl_toldOf.f 100 5 0 T == some (m.length : Int)
    | none => false)
theorem chk0 : ((subs ((prsN 0).map pI)).all (chk 0)) = true := by decide +kernel
theorem chk1 : ((subs ((prsN 1).map pI)).all (chk 1)) = true := by decide +kernel
theorem chk2 : ((subs ((prsN 2).map pI)).all (chk 2)) = true := by decide +kernel
theorem chk3 : ((subs ((prsN 3).map pI)).all (chk 3)) = true := by decide +kernel
theorem chk4 : ((subs ((prsN 4).map pI)).all (chk 4)) = true := by decide +kernel
theorem chk5_0 : ((((subs ((prsN 5).map pI)).drop 0).take 128).all (chk 5)) = true := by decide +kernel
theorem chk5_1 : ((((subs ((prsN 5).map pI)).drop 128).take 128).all (chk 5)) = true := by decide +kernel
theorem chk5_2 : ((((subs ((prsN 5).map pI)).drop 256).take 128).all (chk 5)) = true := by decide +kernel
theorem chk5_3 : ((((subs ((prsN 5).map pI)).drop 384).take 128).all (chk 5)) = true := by decide +kernel
theorem chk5_4 : ((((subs ((prsN 5).map pI)).drop 512).take 128).all (chk 5)) = true := by decide +kernel
theorem chk5_5 : ((((subs ((prsN 5).map pI)).drop 640).take 128).all (chk 5)) = true := by decide +kernel
theorem chk5_6 : ((((subs ((prsN 5).map pI)).drop 768).take 128).all (chk 5)) = true := by decide +kernel
theorem chk5_7 : ((((subs ((prsN 5).map pI)).drop 896).take 128).all (chk 5)) = true := by decide +kernel
theorem subs_length {α : Type} : ∀ l : List α, (subs l).length = 2 ^ l.length
  | [] => rfl
  | x :: t => by
    have := subs_length t
    simp only [subs, List.length_append, List.length_map, List.length_cons, this, Nat.pow_succ]
    omega
theorem all_chunks {α : Type} (p : α → Bool) (L : List α) (hL : L.length ≤ 1024) (h : ∀ i, i < 8 → ((L.drop (128 * i)).take 128).all p = true) : ∀ l ∈ L, p l = true := by
  intro l hl
  obtain ⟨j, hj, rfl⟩ := List.getElem_of_mem hl
  refine List.all_eq_true.1 (h (j / 128) (by omega)) _ (List.mem_of_getElem? (i := j % 128) ?_)
  rw [List.getElem?_take_of_lt (Nat.mod_lt _ (by omega)), List.getElem?_drop, Nat.div_add_mod, List.getElem?_eq_getElem hj]
theorem chk_good {n : Nat} (hn : n ≤ 5) {l : List S105} (h : goodB n l = true) : chk n l = true := by
  have hm := goodB_subs (show n ≤ 6 by omega) h
  obtain rfl | rfl | rfl | rfl | rfl | rfl : n = 0 ∨ n = 1 ∨ n = 2 ∨ n = 3 ∨ n = 4 ∨ n = 5 := by omega
  · exact List.all_eq_true.1 chk0 l hm
  · exact List.all_eq_true.1 chk1 l hm
  · exact List.all_eq_true.1 chk2 l hm
  · exact List.all_eq_true.1 chk3 l hm
  · exact List.all_eq_true.1 chk4 l hm
  · refine all_chunks (chk 5) _ (by rw [subs_length, List.length_map]; decide) (fun i hi => ?_) l hm
    obtain rfl | rfl | rfl | rfl | rfl | rfl | rfl | rfl : i = 0 ∨ i = 1 ∨ i = 2 ∨ i = 3 ∨ i = 4 ∨ i = 5 ∨ i = 6 ∨ i = 7 := by omega
    · exact chk5_0
    · exact chk5_1
    · exact chk5_2
    · exact chk5_3
    · exact chk5_4
    · exact chk5_5
    · exact chk5_6
    · exact chk5_7
/-- What is told of a party. -/
def told (n : Nat) (l : List S105) (kd a : Int) : Int := (impl_toldOf.f 100 kd a (tabI n (adj l))).getD 0
/-- The party fits the clue. -/
def fitB (n : Nat) (l : List S105) (kd a b : Int) : Bool :=
  if kd = 0 then adj l a.toNat b.toNat else if kd = 1 then !adj l a.toNat b.toNat else if kd = 2 then told n l 2 a == b else told n l kd 0 == a
theorem chk_facts {n : Nat} (hn : n ≤ 5) {l : List S105} (h : goodB n l = true) :
    (∃ ms, spec_paNumbers.f 100 n l = some ms ∧ ms.length = n ∧ ∀ a : Nat, a < n → impl_toldOf.f 100 2 a (tabI n (adj l)) = some (rd ms a)) ∧ impl_toldOf.f 100 3 0 (tabI n (adj l)) = some (l.length : Int) ∧
    (∃ m, spec_pzThrees.f 100 n l = some m ∧ impl_toldOf.f 100 4 0 (tabI n (adj l)) = some m) ∧ (∃ m, spec_paParts.f 100 n l = some m ∧ impl_toldOf.f 100 5 0 (tabI n (adj l)) = some (m.length : Int)) := by
  have hc := chk_good hn h
  unfold chk at hc
  simp only [Bool.and_eq_true, beq_iff_eq] at hc
  obtain ⟨⟨⟨h1, h2⟩, h3⟩, h4⟩ := hc
  refine ⟨?_, h2, ?_, ?_⟩
  · cases e : spec_paNumbers.f 100 n l with
    | none => rw [e] at h1; cases h1
    | some ms =>
      rw [e] at h1
      simp only [Bool.and_eq_true, beq_iff_eq, List.all_eq_true] at h1
      exact ⟨ms, rfl, h1.1, fun a ha => h1.2 a (List.mem_range.2 ha)⟩
  · cases e : spec_pzThrees.f 100 n l with
    | none => rw [e] at h3; cases h3
    | some m => rw [e] at h3; exact ⟨m, rfl, by simpa using h3⟩
  · cases e : spec_paParts.f 100 n l with
    | none => rw [e] at h4; cases h4
    | some m => rw [e] at h4; exact ⟨m, rfl, by simpa using h4⟩
theorem toldOf_ok {n : Nat} (hn : n ≤ 5) {l : List S105} (h : goodB n l = true) (kd a : Int) (hk : kd = 2 ∧ 0 ≤ a ∧ a < n ∨ (kd = 3 ∨ kd = 4 ∨ kd = 5) ∧ a = 0) : Ev (fun k => impl_toldOf.f k kd a (tabI n (adj l))) (told n l kd a) := by
  have : ∃ r, impl_toldOf.f 100 kd a (tabI n (adj l)) = some r := by
    obtain ⟨⟨ms, _, _, h2⟩, h3, ⟨m, _, h4⟩, ⟨q, _, h5⟩⟩ := chk_facts hn h
    rcases hk with ⟨rfl, ha, hb⟩ | ⟨rfl | rfl | rfl, rfl⟩
    · obtain ⟨x, rfl⟩ := Int.eq_ofNat_of_zero_le ha
      exact ⟨_, h2 x (by omega)⟩
    · exact ⟨_, h3⟩
    · exact ⟨_, h4⟩
    · exact ⟨_, h5⟩
  obtain ⟨r, hr⟩ := this
  unfold told
  rw [hr]
  exact Ev.of (fun k => impl_toldOf.mono _ _ _ k) hr
theorem goodB_pin {n : Int} {l : List S105} (h : goodB n l = true) : pin n.toNat l := by
  intro x hx
  obtain ⟨i, hi, rfl⟩ := List.getElem_of_mem hx
  have := (goodB_step h i hi).1
  have := goodB_people h
  omega
theorem spec_pzFits.ok (n : Nat) (hn : n ≤ 5) (l : List S105) (h : goodB n l = true) (kd a b : Int) (hc : clueI n kd a b = true) : Ev (fun k => spec_pzFits.f k kd a b n l) (fitB n l kd a b) := by
  have h66 := goodB_len66 h
  have ht := spec_paTable.ok n (by omega) l (by omega) (goodB_pin h)
  obtain ⟨⟨ms, e2, hml, h2⟩, h3, ⟨m, e4, h4⟩, ⟨q, e5, h5⟩⟩ := chk_facts hn h
  unfold spec_pzFits.f fitB
  unfold clueI at hc
  by_cases k0 : kd = 0
  · subst k0
    simp only [true_or, if_true, decide_eq_true_eq] at hc
    obtain ⟨x, rfl⟩ := Int.eq_ofNat_of_zero_le hc.1
    obtain ⟨y, rfl⟩ := Int.eq_ofNat_of_zero_le (show 0 ≤ b by omega)
    rw [if_pos rfl]
    refine Ev.ite_pos rfl (Ev.bind ht (Ev.ite_pos (by omega) (Ev.ite_pos (by rw [tabB_length]; omega) (Ev.ite_pos (by omega) ?_))))
    rw [rdL_tabB n _ x (by omega)]
    refine Ev.ite_pos (by simp; omega) ?_
    rw [row_get n _ y (by omega)]
    exact Ev.now _
  · refine Ev.ite_neg k0 ?_
    rw [if_neg k0]
    by_cases k1 : kd = 1
    · subst k1
      simp only [or_true, if_true, decide_eq_true_eq] at hc
      obtain ⟨x, rfl⟩ := Int.eq_ofNat_of_zero_le hc.1
      obtain ⟨y, rfl⟩ := Int.eq_ofNat_of_zero_le (show 0 ≤ b by omega)
      rw [if_pos rfl]
      refine Ev.ite_pos rfl (Ev.bind ht (Ev.ite_pos (by omega) (Ev.ite_pos (by rw [tabB_length]; omega) (Ev.ite_pos (by omega) ?_))))
      rw [rdL_tabB n _ x (by omega)]
      refine Ev.ite_pos (by simp; omega) ?_
      rw [row_get n _ y (by omega)]
      exact Ev.now _
    · refine Ev.ite_neg k1 ?_
      rw [if_neg k1]
      rw [if_neg (by omega)] at hc
      by_cases k2 : kd = 2
      · subst k2
        simp only [if_true, decide_eq_true_eq] at hc
        obtain ⟨x, rfl⟩ := Int.eq_ofNat_of_zero_le hc.1
        rw [if_pos rfl]
        have e := h2 x (by omega)
        refine Ev.ite_pos rfl (Ev.bind (Ev.of (fun k => spec_paNumbers.mono _ _ k) e2) (Ev.ite_pos (by omega) (Ev.ite_pos (by omega) ?_)))
        unfold told
        rw [e]
        exact Ev.now _
      · refine Ev.ite_neg k2 ?_
        rw [if_neg k2] at hc ⊢
        by_cases k3 : kd = 3
        · subst k3
          refine Ev.ite_pos rfl ?_
          unfold told
          rw [h3]
          exact Ev.now _
        · refine Ev.ite_neg k3 ?_
          rw [if_neg k3] at hc
          by_cases k4 : kd = 4
          · subst k4
            refine Ev.ite_pos rfl ?_
            unfold told
            rw [h4]
            exact Ev.bind (Ev.of (fun k => spec_pzThrees.mono _ _ k) e4) (Ev.now _)
          · refine Ev.ite_neg k4 ?_
            rw [if_neg k4] at hc
            by_cases k5 : kd = 5
            · subst k5
              unfold told
              rw [h5]
              exact Ev.bind (Ev.of (fun k => spec_paParts.mono _ _ k) e5) (Ev.now _)
            · rw [if_neg k5] at hc; cases hc

def fitsB (n : Nat) (cs : List S70) (l : List S105) : Bool := cs.all fun c => fitB n l c.f0 c.f1 c.f2
/-- All parties that fit some clues, in order. -/
def solveL (n : Nat) (cs : List S70) : List (List S105) := (allP n).filter (fitsB n cs)
theorem good1 : (allP 1).all (goodB 1) = true := by decide +kernel
theorem good2 : (allP 2).all (goodB 2) = true := by decide +kernel
theorem good3 : (allP 3).all (goodB 3) = true := by decide +kernel
theorem good4 : (allP 4).all (goodB 4) = true := by decide +kernel
theorem big_good5 : (allP 5).all (goodB 5) = true := by decide +kernel
theorem allP_good (n : Nat) (h0 : 1 ≤ n) (h : n ≤ 5) : ∀ l ∈ allP n, goodB n l = true := by
  obtain rfl | rfl | rfl | rfl | rfl : n = 1 ∨ n = 2 ∨ n = 3 ∨ n = 4 ∨ n = 5 := by omega
  · exact List.all_eq_true.1 good1
  · exact List.all_eq_true.1 good2
  · exact List.all_eq_true.1 good3
  · exact List.all_eq_true.1 good4
  · exact List.all_eq_true.1 big_good5
theorem dfs_length : ∀ (r l : List S105), (dfs l r).length + 1 = 2 ^ r.length
  | [], l => rfl
  | x :: r, l => by
    have h1 := dfs_length r (l ++ [x])
    have h2 := dfs_length r l
    simp only [dfs, List.length_append, List.length_cons, Nat.pow_succ]
    omega
theorem allP_length (n : Nat) (h0 : 1 ≤ n) (h : n ≤ 5) : (allP n).length ≤ 1024 := by
  have h1 := dfs_length ((prsN n).map pI) []
  have h2 : ((prsN n).map pI).length ≤ 10 := by
    obtain rfl | rfl | rfl | rfl | rfl : n = 1 ∨ n = 2 ∨ n = 3 ∨ n = 4 ∨ n = 5 := by omega
    all_goals decide
  have h3 : 2 ^ ((prsN n).map pI).length ≤ 2 ^ 10 := Nat.pow_le_pow_right (by omega) h2
  simp only [allP, List.length_cons]
  omega
theorem clue_of {n : Nat} {cs : List S70} (h : goodP n cs = true) : (1 ≤ n ∧ n ≤ 5) ∧ cs.length ≤ 8 ∧ ∀ c ∈ cs, clueI n c.f0 c.f1 c.f2 = true := by
  unfold goodP guests at h
  simp only [Bool.and_eq_true, decide_eq_true_eq, List.all_eq_true] at h
  refine ⟨by omega, h.1.2, fun c hc => ?_⟩
  have := h.2 c hc
  unfold puzzleC at this
  simp only [Bool.and_eq_true] at this
  exact this.2
theorem pzAll_inner (n : Nat) (hn : n ≤ 5) (cs : List S70) (hcl : cs.length ≤ 100) (hcs : ∀ c ∈ cs, clueI n c.f0 c.f1 c.f2 = true) (L : List (List S105)) (i : Nat) (hi : i < L.length) (hg : goodB n L[i] = true) (hL : L.length ≤ 2000) (xs : List (List S105)) (hx : xs.length ≤ 2000) (R : List S33)
    (h : Ev (fun k => spec_pzAll.l0 k cs (L.map (pty n)) ((if fitsB n cs L[i] = true then xs ++ [L[i]] else xs).map (pty n)) ((i + 1 : Nat) : Int)) R) :
    Ev (fun k => spec_pzAll.l1 k cs (L.map (pty n)) (xs.map (pty n)) (i : Int) true 0) R := by
  have key := up_loop (P := fun j => ∀ fb : Bool, (fb && (cs.drop j).all fun c => fitB n L[i] c.f0 c.f1 c.f2) = fitsB n cs L[i] → Ev (fun k => spec_pzAll.l1 k cs (L.map (pty n)) (xs.map (pty n)) (i : Int) fb (j : Int)) R) (n := cs.length) (by
      intro fb hfb
      rw [List.drop_length] at hfb
      simp only [List.all_nil, Bool.and_true] at hfb
      rw [← hfb] at h
      cases fb with
      | true =>
        rw [if_pos rfl] at h
        refine Ev.step (fun k => ?_) h
        rw [spec_pzAll.l1, if_neg (by omega), if_pos rfl, if_pos (by rw [List.length_map]; omega), rd_pty n L i hi, nat_succ i (by omega), List.map_append]
        rfl
      | false =>
        rw [if_neg (by simp)] at h
        refine Ev.step (fun k => ?_) h
        rw [spec_pzAll.l1, if_neg (by omega), if_neg (by simp), nat_succ i (by omega)]) (by
      intro j hj ih fb hfb
      rw [List.drop_eq_getElem_cons hj, List.all_cons] at hfb
      cases fb with
      | true =>
        rw [Bool.true_and] at hfb
        have hf := spec_pzFits.ok n hn L[i] hg cs[j].f0 cs[j].f1 cs[j].f2 (hcs _ (List.getElem_mem hj))
        refine Ev.step (fun k => ?_) (Ev.bind hf (f := fun k b => spec_pzAll.l1 k cs (L.map (pty n)) (xs.map (pty n)) (i : Int) b ((j + 1 : Nat) : Int)) (ih _ hfb))
        rw [spec_pzAll.l1, if_pos (by omega), if_pos (by omega), if_pos rfl, rd_pty n L i hi, rd_T70_nat cs j hj, nat_succ j (by omega)]
        rfl
      | false =>
        refine Ev.step (fun k => ?_) (ih false (by simpa using hfb))
        rw [spec_pzAll.l1, if_pos (by omega), if_pos (by omega), if_neg (by simp), nat_succ j (by omega)]) 0 (Nat.zero_le _) true (by rw [List.drop_zero, Bool.true_and]; rfl)
  exact key
theorem spec_pzAll.ok (n : Nat) (h0 : 1 ≤ n) (hn : n ≤ 5) (cs : List S70) (hcl : cs.length ≤ 100) (hcs : ∀ c ∈ cs, clueI n c.f0 c.f1 c.f2 = true) : Ev (fun k => spec_pzAll.f k (n : Int) cs) ((solveL n cs).map (pty n)) := by
  have hgood := allP_good n h0 hn
  have hlen := allP_length n h0 hn
  have hP := spec_pzParties.ok n h0 hn
  unfold solveL
  generalize hLP : allP n = LP at hgood hlen hP
  refine Ev.bind hP ?_
  have key := up_loop (P := fun i => ∀ xs : List (List S105), xs.length ≤ i → Ev (fun k => spec_pzAll.l0 k cs (LP.map (pty n)) (xs.map (pty n)) (i : Int)) ((xs ++ (LP.drop i).filter (fitsB n cs)).map (pty n))) (n := LP.length) (by
      intro xs hx
      rw [List.drop_length, List.filter_nil, List.append_nil]
      refine Ev.step (f := fun _ => some (xs.map (pty n))) (fun k => ?_) (Ev.now _)
      rw [spec_pzAll.l0, if_neg (by rw [List.length_map]; omega)]) (by
      intro i hi ih xs hx
      rw [List.drop_eq_getElem_cons hi, List.filter_cons]
      have h1 := pzAll_inner n hn cs hcl hcs LP i hi (hgood _ (List.getElem_mem hi)) (by omega) xs (by omega) ((xs ++ if fitsB n cs LP[i] = true then LP[i] :: (LP.drop (i + 1)).filter (fitsB n cs) else (LP.drop (i + 1)).filter (fitsB n cs)).map (pty n)) (by
        by_cases hb : fitsB n cs LP[i] = true
        · rw [if_pos hb, if_pos hb]
          have := ih (xs ++ [LP[i]]) (by rw [List.length_append]; simp only [List.length_singleton]; omega)
          rw [List.append_assoc] at this
          exact this
        · rw [if_neg hb, if_neg hb]
          exact ih xs (by omega))
      refine Ev.step (fun k => ?_) h1
      rw [spec_pzAll.l0, if_pos (by rw [List.length_map]; omega), if_pos (by omega)]) 0 (Nat.zero_le _) [] (Nat.zero_le _)
  rw [List.drop_zero, List.nil_append] at key
  exact key

theorem good_nat {n : Int} {cs : List S70} (hg : goodP n cs = true) : ∃ N : Nat, n = (N : Int) := by
  have h0 : 0 ≤ n := by
    unfold goodP guests at hg
    simp only [Bool.and_eq_true, decide_eq_true_eq] at hg
    omega
  exact Int.eq_ofNat_of_zero_le h0
def solC (n : Int) (cs : List S70) : List (List S105) × Bool := if goodP n cs = true then (if ((solveL n.toNat cs).length : Int) > 200 then ([], false) else (solveL n.toNat cs, true)) else ([], false)
theorem solC_facts (n : Int) (cs : List S70) : (solC n cs).1.length ≤ 200 ∧ ∀ l ∈ (solC n cs).1, l.length ≤ 66 := by
  unfold solC
  by_cases hg : goodP n cs = true
  · rw [if_pos hg]
    by_cases h : ((solveL n.toNat cs).length : Int) > 200
    · rw [if_pos h]; simp
    · rw [if_neg h]
      obtain ⟨N, rfl⟩ := good_nat hg
      obtain ⟨h1, _, _⟩ := clue_of hg
      refine ⟨by simp only; omega, fun l hl => ?_⟩
      simp only [Int.toNat_natCast] at hl
      exact goodB_len66 (allP_good N h1.1 h1.2 l (List.mem_filter.1 hl).1)
  · rw [if_neg hg]; simp
theorem spec_Solutions.ok (n : Int) (cs : List S70) : Ev (fun k => spec_Solutions.f k n cs) ((solC n cs).1.map (pty n), (solC n cs).2) := by
  unfold spec_Solutions.f solC
  refine Ev.bind (ev_of 12 fun k hk => spec_pzGood.ok n cs k hk) ?_
  by_cases hg : goodP n cs = true
  · refine Ev.ite_pos hg ?_
    rw [if_pos hg]
    obtain ⟨N, rfl⟩ := good_nat hg
    obtain ⟨h1, h2, h3⟩ := clue_of hg
    refine Ev.bind (spec_pzAll.ok N h1.1 h1.2 cs (by omega) h3) ?_
    simp only [Int.toNat_natCast, List.length_map]
    by_cases h : ((solveL N cs).length : Int) > 200
    · simp only [if_pos h]
      exact Ev.now _
    · simp only [if_neg h]
      exact Ev.now _
  · refine Ev.ite_neg hg ?_
    rw [if_neg hg]
    exact Ev.now _

theorem rd_T126_nat (l : List S126) (i : Nat) (h : i < l.length) : rd_T126 l (i : Int) = l[i] := by simp [rd_T126, List.getD, h]
theorem laws_toClueS.ok (l : List S126) (hl : l.length ≤ 1048576) (k : Nat) (hk : l.length < k) : laws_toClueS.f k l = some (l.map fun x => ⟨x.f0, x.f1, x.f2⟩) := by
  unfold laws_toClueS.f
  rw [if_pos (by omega), if_pos (by omega)]
  refine fill_loop (fun k acc i => laws_toClueS.l0 k l acc i) _ l _ (by omega) 0 ?_ ?_ k hk
  · intro k acc i h _ ha
    simp only [laws_toClueS.l0, laws_toClue.f, Option.bind_some]
    rw [if_pos (by omega), if_pos (by omega), if_pos (by omega), rd_T126_nat l i h]
    rfl
  · intro k acc ha
    simp only [laws_toClueS.l0]
    rw [if_neg (by omega)]

def cls (l : List S126) : List S70 := l.map fun x => ⟨x.f0, x.f1, x.f2⟩
theorem cls_length (l : List S126) : (cls l).length = l.length := by simp [cls]
theorem laws_toPuzzle.ok (n : Int) (l : List S126) (hl : l.length ≤ 1048576) (k : Nat) (hk : l.length < k) : laws_toPuzzle.f k n l = some (n, cls l) := by
  unfold laws_toPuzzle.f
  rw [laws_toClueS.ok l hl k hk]; rfl

theorem impl_table_others.ok (n : Nat) (hn : n ≤ 12) (F : Nat → Nat → Bool) : Ev (fun k => impl_table_others.f k (tabI n F)) (tabI n (oth F)) := by
  have key := up_loop (P := fun i => Ev (fun k => impl_table_others.l0 k (tabI n F) ((List.range n).map fun a => if a < i then ((msk (oth F a) n : Nat) : Int) else 0) (n : Int) (i : Int)) (tabI n (oth F))) (n := n) (by
      refine Ev.step (f := fun _ => some (tabI n (oth F))) (fun k => ?_) (Ev.now _)
      simp only [impl_table_others.l0]
      rw [if_neg (by omega)]
      congr 1
      unfold tabI
      apply List.map_congr_left
      intro a ha
      rw [if_pos (List.mem_range.1 ha)]) (by
      intro i hi h
      refine Ev.step (fun k => ?_) h
      simp only [impl_table_others.l0, tabI_length]
      rw [if_pos (by omega), if_pos (by omega), if_pos (by omega), if_pos (by simp; omega), tabI_rd n F i hi, other_bits (F i) n i hn hi, nat_succ i (by omega), Int.toNat_natCast]
      congr 1
      apply List.ext_getElem (by simp)
      intro j g1 g2
      have hj : j < n := by simpa using g2
      by_cases e : i = j
      · subst e
        simp only [List.getElem_set_self, List.getElem_map, List.getElem_range]
        rw [if_pos (by omega)]
        rfl
      · rw [List.getElem_set_ne e]
        simp only [List.getElem_map, List.getElem_range]
        by_cases h2 : j < i
        · rw [if_pos h2, if_pos (by omega)]
        · rw [if_neg h2, if_neg (by omega)]) 0 (Nat.zero_le _)
  unfold impl_table_others.f
  refine Ev.congr (fun k => ?_) key
  rw [tabI_length, if_pos (by omega), if_pos (by omega)]
  congr 1
  apply List.ext_getElem (by simp)
  intro i h1 h2
  simp

theorem impl_areCrowd.ok (n : Int) : impl_areCrowd.f n = some (crowd n) := by unfold impl_areCrowd.f crowd; simp [impl_within.ok]

theorem u16_bit (m i : Nat) (hm : m < 65536) (h : i ≤ 16) : (Go.bits .and .u16 (shr .u16 (m : Int) (i : Int)) 1 == 1) = m.testBit i := by
  unfold shr
  rw [Int.toNat_natCast, Nat.min_eq_left (by simpa [IntKind.bits] using h)]
  have e : ((m : Int) / 2 ^ i) = ((m / 2 ^ i : Nat) : Int) := by simp
  have hl : m / 2 ^ i < 65536 := Nat.lt_of_le_of_lt (Nat.div_le_self _ _) hm
  rw [e, show (1 : Int) = ((1 : Nat) : Int) from rfl, u16_and_nat _ _ hl (by omega), Nat.testBit_eq_decide_div_mod_eq, Nat.and_one_is_mod]
  rw [Bool.eq_iff_iff, beq_iff_eq, decide_eq_true_eq]
  omega
theorem impl_table_has.ok (n : Nat) (hn : n ≤ 12) (F : Nat → Nat → Bool) (a b : Nat) (ha : a < n) (hb : b < n) : impl_table_has.f (tabI n F) (a : Int) (b : Int) = some (F a b) := by
  unfold impl_table_has.f
  rw [if_pos (by omega), if_pos (by rw [tabI_length]; omega), if_pos (by omega), tabI_rd n F a ha, u16_bit _ _ (msk_lt16 _ _ (by omega)) (by omega), msk_testBit, decide_eq_true hb]
  rfl

/-- The pairs of person a with those from i on. -/
def inn (n : Nat) (F : Nat → Nat → Bool) (a i : Nat) : List S105 := ((List.range' i (n - i)).filter (F a)).map fun (b : Nat) => ⟨(a : Int), (b : Int)⟩
def outr (n : Nat) (F : Nat → Nat → Bool) (a : Nat) : List S105 := (List.range' a (n - a)).flatMap fun x => inn n F x (x + 1)
theorem impl_table_party.ok (n : Nat) (hn : n ≤ 12) (F : Nat → Nat → Bool) : Ev (fun k => impl_table_party.f k (tabI n F)) ((n : Int), outr n F 0) := by
  have key := up_loop (P := fun a => ∀ acc : List S105, acc.length ≤ 12 * a → Ev (fun k => impl_table_party.l0 k (tabI n F) (n : Int) (a : Int) (n : Int) acc) ((n : Int), acc ++ outr n F a)) (n := n) (by
      intro acc _
      refine Ev.step (f := fun _ => some ((n : Int), acc)) (fun k => ?_) (by simpa [outr] using Ev.now ((n : Int), acc))
      simp only [impl_table_party.l0]
      rw [if_neg (by omega)]) (by
      intro a ha h acc hacc
      have inner := up_loop (P := fun i => a < i → ∀ acc : List S105, acc.length ≤ 12 * a + i → Ev (fun k => impl_table_party.l1 k (tabI n F) (a : Int) (i : Int) (n : Int) (a : Int) (n : Int) acc) ((n : Int), acc ++ (inn n F a i ++ outr n F (a + 1)))) (n := n) (by
          intro _ acc hacc
          have h9 := h acc (by omega)
          have e9 : inn n F a n = [] := by simp [inn]
          rw [e9, List.nil_append]
          refine Ev.step (fun k => ?_) h9
          simp only [impl_table_party.l1]
          rw [if_neg (by rw [tabI_length]; omega), nat_succ a (by omega)]) (by
          intro i hi h hai acc hacc
          have e0 : inn n F a i = (if F a i = true then [(⟨(a : Int), (i : Int)⟩ : S105)] else []) ++ inn n F a (i + 1) := by
            unfold inn
            rw [range'_cons i n hi]
            cases hF : F a i with
            | true => rw [List.filter_cons_of_pos hF]; simp
            | false => rw [List.filter_cons_of_neg (by simp [hF])]; simp
          rw [e0]
          have hh := impl_table_has.ok n hn F a i ha hi
          cases hF : F a i with
          | true =>
            have h2 := h (by omega) (acc ++ [(⟨(a : Int), (i : Int)⟩ : S105)]) (by simp; omega)
            rw [hF] at hh
            refine Ev.step (fun k => ?_) (by simpa using h2)
            simp only [impl_table_party.l1]
            rw [if_pos (by rw [tabI_length]; omega), hh, Option.bind_some, if_pos rfl, if_pos (by omega), nat_succ i (by omega)]
            rfl
          | false =>
            have h2 := h (by omega) acc (by omega)
            rw [hF] at hh
            refine Ev.step (fun k => ?_) (by simpa using h2)
            simp only [impl_table_party.l1]
            rw [if_pos (by rw [tabI_length]; omega), hh, Option.bind_some, if_neg (by simp), nat_succ i (by omega)]
            rfl)
      have h3 := inner (a + 1) (by omega) (by omega) acc (by omega)
      have e1 : outr n F a = inn n F a (a + 1) ++ outr n F (a + 1) := by
        unfold outr
        rw [range'_cons a n ha, List.flatMap_cons]
      rw [e1]
      refine Ev.step (fun k => ?_) h3
      simp only [impl_table_party.l0]
      rw [if_pos (by omega), nat_succ a (by omega)])
  have h0 := key 0 (Nat.zero_le _) [] (by simp)
  rw [List.nil_append] at h0
  unfold impl_table_party.f
  rw [tabI_length]
  exact h0

theorem tabI_none (n : Nat) : List.replicate n (0 : Int) = tabI n (adj []) := by
  apply List.ext_getElem (by simp [tabI])
  intro i h1 h2
  have : msk (adj [] i) n = 0 := by
    apply Nat.eq_of_testBit_eq
    intro j
    rw [msk_testBit]
    simp [adj]
  simp [tabI, this]
theorem adj_none (a b : Nat) : adj ([] : List S105) a b = false := rfl
theorem outr_full (n : Nat) (F : Nat → Nat → Bool) (hF : ∀ a b, a < b → b < n → F a b = true) : outr n F 0 = (prsN n).map pI := by
  unfold outr prsN inn
  rw [List.map_flatMap, Nat.sub_zero, List.flatMap_def, List.flatMap_def]
  congr 1
  apply List.map_congr_left
  intro a _
  rw [List.map_map]
  have : (List.range' (a + 1) (n - (a + 1))).filter (F a) = List.range' (a + 1) (n - (a + 1)) := by
    rw [List.filter_eq_self]
    intro b hb
    rw [List.mem_range'_1] at hb
    exact hF a b (by omega) (by omega)
  rw [this]
  rfl
theorem impl_FullParty.ok (n : Nat) (hn : n ≤ 12) : Ev (fun k => impl_FullParty.f k (n : Int)) ((n : Int), (prsN n).map pI, true) := by
  unfold impl_FullParty.f
  rw [impl_areCrowd.ok]
  simp only [Option.bind_some, Int.toNat_natCast]
  refine Ev.ite_pos (by unfold crowd; simp; omega) (Ev.ite_pos (by omega) (Ev.ite_pos (by omega) ?_))
  have h1 := impl_table_others.ok n hn (adj [])
  rw [← tabI_none] at h1
  have h2 := impl_table_party.ok n hn (oth (adj []))
  rw [outr_full n (oth (adj [])) (fun a b h _ => by
    have h5 : (b != a) = true := by simp; omega
    simp [oth, adj_none, h5])] at h2
  exact Ev.bind h1 (Ev.bind h2 (Ev.now _))

-- pairnat
theorem impl_Party_table.ok (n : Nat) (hn : n ≤ 12) (l : List S105) (hl : l.length ≤ 1048576) (hp : pin n l) : Ev (fun k => impl_Party_table.f k (n : Int) l) (tabI n (adj l)) := by
  have h1 : Ev (fun k => impl_Party_table.l0 k (tabI n (adj (l.take 0))) l (l.length : Int) ((0 : Nat) : Int)) (tabI n (adj l)) := by
    refine up_loop (P := fun i => Ev (fun k => impl_Party_table.l0 k (tabI n (adj (l.take i))) l (l.length : Int) (i : Int)) (tabI n (adj l))) (n := l.length) ?_ ?_ 0 (Nat.zero_le _)
    · refine Ev.step (f := fun _ => some (tabI n (adj l))) (fun k => ?_) (Ev.now _)
      simp only [impl_Party_table.l0]
      rw [if_neg (by omega), List.take_length]
    · intro i hi h
      refine Ev.step (fun k => ?_) h
      obtain ⟨q0, q1, q2, q3⟩ := hp l[i] (List.getElem_mem hi)
      obtain ⟨a, ea⟩ := Int.eq_ofNat_of_zero_le q0
      obtain ⟨b, eb⟩ := Int.eq_ofNat_of_zero_le q2
      have ha : a < n := by omega
      have hb : b < n := by omega
      simp only [impl_Party_table.l0, Option.bind_some]
      rw [if_pos (by omega), if_pos (by omega), if_pos (by omega), rd_T105_nat l i hi, ea, eb, tabI_rd n _ a ha, if_pos (by omega), if_pos (by rw [tabI_length]; omega), if_pos (by omega), if_pos (by rw [tabI_length]; omega)]
      simp only [Int.toNat_natCast]
      rw [tabI_set n _ a b (by omega) ha hb, tabI_rd n _ b hb, tabI_set n _ b a (by omega) hb ha, nat_succ i (by omega), adj_take l i hi, ea, eb]
      simp only [Int.toNat_natCast]
  unfold impl_Party_table.f
  refine Ev.congr (fun k => ?_) h1
  rw [if_pos (by omega), if_pos (by omega)]
  simp only [Int.toNat_natCast, tabI_none, List.take_zero]
  rfl

-- ints
theorem impl_listed.go : ∀ (m s : Nat) (acc : List Int), (bof s).length = m → s < 65536 → acc.length + m ≤ 1000 → Ev (fun k => impl_listed.l0 k (s : Int) acc) (acc ++ ints (bof s)) := by
  intro m
  induction m with
  | zero =>
    intro s acc hm hs _
    have e := bof_nil s hs (List.length_eq_zero_iff.1 hm)
    rw [List.length_eq_zero_iff.1 hm]
    subst e
    refine Ev.step (f := fun _ => some acc) (fun k => ?_) (by rw [show acc ++ ints [] = acc from by simp [ints]]; exact Ev.now _)
    rw [impl_listed.l0, if_neg (by simp)]
  | succ m ih =>
    intro s acc hm hs ha
    have h0 : s ≠ 0 := by rintro rfl; rw [bof_zero] at hm; simp at hm
    have es := bof_step s h0 hs
    rw [es] at hm ⊢
    have h1 := ih (s &&& (s - 1)) (acc ++ [((Go.Lib.ctz 16 s : Nat) : Int)]) (by simpa using hm) (Nat.lt_of_le_of_lt Nat.and_le_left hs) (by simp; omega)
    have ec : ctz16 (s : Int) = ((Go.Lib.ctz 16 s : Nat) : Int) := by simp [ctz16]
    refine Ev.step (fun k => ?_) (by rw [show acc ++ ints (Go.Lib.ctz 16 s :: bof (s &&& (s - 1))) = (acc ++ [((Go.Lib.ctz 16 s : Nat) : Int)]) ++ ints (bof (s &&& (s - 1))) from by simp [ints]]; exact h1)
    rw [impl_listed.l0, if_pos (by omega), bits_TrailingZeros16.f, if_pos (by omega), Option.bind_some, if_pos (by omega), low_bits s hs h0, ec]
theorem impl_listed.ok (s : Nat) (hs : s < 65536) : Ev (fun k => impl_listed.f k (s : Int)) (ints (bof s)) := by
  have h := impl_listed.go _ s [] rfl hs (by
    have : (bof s).length ≤ 16 := by unfold bof; exact Nat.le_trans (List.length_filter_le _ _) (by simp)
    simp; omega)
  rw [List.nil_append] at h
  exact h
theorem impl_listed.msk (p : Nat → Bool) (n : Nat) (h : n ≤ 16) : Ev (fun k => impl_listed.f k ((msk p n : Nat) : Int)) (ints ((List.range n).filter p)) := by
  have := impl_listed.ok (Base.msk p n) (msk_lt16 p n h)
  rwa [bof_msk p n h] at this

theorem impl_fits.ok (n : Nat) (hn : n ≤ 5) (l : List S105) (h : goodB n l = true) (kd a b : Int) (hc : clueI n kd a b = true) : Ev (fun k => impl_Clue_fits.f k kd a b (tabI n (adj l))) (fitB n l kd a b) := by
  unfold impl_Clue_fits.f fitB
  unfold clueI at hc
  by_cases k0 : kd = 0
  · subst k0
    simp only [true_or, if_true, decide_eq_true_eq] at hc
    obtain ⟨x, rfl⟩ := Int.eq_ofNat_of_zero_le hc.1
    obtain ⟨y, rfl⟩ := Int.eq_ofNat_of_zero_le (show 0 ≤ b by omega)
    rw [if_pos rfl]
    refine Ev.ite_pos rfl (Ev.step (f := fun _ => some (adj l x y)) (fun k => ?_) (Ev.now _))
    simp only [impl_Clue_fits.j0]
    rw [if_pos (by decide), impl_table_has.ok n (by omega) _ x y (by omega) (by omega)]
    simp
  · by_cases k1 : kd = 1
    · subst k1
      simp only [or_true, if_true, decide_eq_true_eq] at hc
      obtain ⟨x, rfl⟩ := Int.eq_ofNat_of_zero_le hc.1
      obtain ⟨y, rfl⟩ := Int.eq_ofNat_of_zero_le (show 0 ≤ b by omega)
      rw [if_neg (by omega), if_pos rfl]
      refine Ev.ite_neg (by omega) (Ev.step (f := fun _ => some (!adj l x y)) (fun k => ?_) (Ev.now _))
      simp only [impl_Clue_fits.j0]
      rw [if_pos (by decide), impl_table_has.ok n (by omega) _ x y (by omega) (by omega)]
      simp
    · rw [if_neg k0, if_neg k1]
      refine Ev.ite_neg k0 ?_
      rw [if_neg (by omega)] at hc
      by_cases k2 : kd = 2
      · subst k2
        simp only [if_true, decide_eq_true_eq] at hc
        rw [if_pos rfl]
        refine Ev.step (f := fun k => (impl_toldOf.f k 2 a (tabI n (adj l))).bind fun t => some (t == b)) (fun k => ?_) (Ev.bind (toldOf_ok hn h 2 a (.inl ⟨rfl, hc.1, by omega⟩)) (Ev.now _))
        simp only [impl_Clue_fits.j0]
        rw [if_neg (by decide), if_pos trivial]
      · have k3 : kd = 3 ∨ kd = 4 ∨ kd = 5 := by
          rw [if_neg k2] at hc
          by_cases k3 : kd = 3
          · exact .inl k3
          · rw [if_neg k3] at hc
            by_cases k4 : kd = 4
            · exact .inr (.inl k4)
            · rw [if_neg k4] at hc
              by_cases k5 : kd = 5
              · exact .inr (.inr k5)
              · rw [if_neg k5] at hc; cases hc
        rw [if_neg k2]
        refine Ev.step (f := fun k => (impl_toldOf.f k kd 0 (tabI n (adj l))).bind fun t => some (t == a)) (fun k => ?_) (Ev.bind (toldOf_ok hn h kd 0 (.inr ⟨k3, rfl⟩)) (Ev.now _))
        simp only [impl_Clue_fits.j0]
        rw [if_neg (by simp; omega), if_neg k2]

theorem fitsAll_ok (n : Nat) (hn : n ≤ 5) (l : List S105) (h : goodB n l = true) : ∀ cs : List S70, (∀ c ∈ cs, clueI n c.f0 c.f1 c.f2 = true) → Ev (fun k => fitsAll k (tabI n (adj l)) cs) (fitsB n cs l)
  | [], _ => Ev.now _
  | c :: cs, hc => Ev.bind (impl_fits.ok n hn l h c.f0 c.f1 c.f2 (hc c (by simp))) (Ev.bind (fitsAll_ok n hn l h cs (fun d hd => hc d (by simp [hd]))) (Ev.now _))
theorem sol_f (n : Nat) (hn : n ≤ 5) (cs : List S70) (hcs : ∀ c ∈ cs, clueI n c.f0 c.f1 c.f2 = true) (F l : List S105) (hg : goodB n l = true) (i : Int) (xs : List (List S105)) (hx : xs.length ≤ 5000) (R : List S33)
    (h : Ev (fun k => impl_solutions_1.l0 k (n : Int) cs F l i ((if fitsB n cs l = true then xs ++ [l] else xs).map (pty n))) R) :
    Ev (fun k => impl_solutions_1.f k (n : Int) cs F l i (xs.map (pty n))) R := by
  have h66 := goodB_len66 hg
  have ht := impl_Party_table.ok n (by omega) l (by omega) (goodB_pin hg)
  have hf := fitsAll_ok n hn l hg cs hcs
  refine Ev.step (fun k => by rw [impl_solutions_1.f]) (Ev.bind ht (Ev.bind hf ?_))
  cases hb : fitsB n cs l with
  | true =>
    rw [hb, if_pos rfl, List.map_append] at h
    exact Ev.ite_pos rfl (Ev.ite_pos (by rw [List.length_map]; omega) h)
  | false =>
    rw [hb, if_neg (by simp)] at h
    exact Ev.ite_neg (by simp) h
theorem sol_l0 (n : Nat) (hn : n ≤ 5) (cs : List S70) (hcs : ∀ c ∈ cs, clueI n c.f0 c.f1 c.f2 = true) (F : List S105) (hF : F.length ≤ 100) :
    ∀ d i l xs, i + d = F.length → l.length ≤ 1000 → (∀ x ∈ dfs l (F.drop i), goodB n x = true) → xs.length + (dfs l (F.drop i)).length ≤ 4000 →
    Ev (fun k => impl_solutions_1.l0 k (n : Int) cs F l (i : Int) (xs.map (pty n))) ((xs ++ (dfs l (F.drop i)).filter (fitsB n cs)).map (pty n)) := by
  intro d
  induction d with
  | zero =>
    intro i l xs hi hl hg hb
    rw [List.drop_eq_nil_of_le (by omega)]
    simp only [dfs, List.filter_nil, List.append_nil]
    refine Ev.step (f := fun _ => some (xs.map (pty n))) (fun k => ?_) (Ev.now _)
    rw [impl_solutions_1.l0, if_neg (by omega)]
  | succ d ih =>
    intro i l xs hi hl hg hb
    have hlt : i < F.length := by omega
    rw [List.drop_eq_getElem_cons hlt] at hg hb ⊢
    simp only [dfs, List.cons_append, List.length_cons, List.length_append] at hg hb ⊢
    have hg0 := hg (l ++ [F[i]]) (by simp)
    have h66 := goodB_len66 hg0
    rw [List.length_append, List.length_singleton] at h66
    obtain ⟨xs1, hxs1⟩ : ∃ z, z = if fitsB n cs (l ++ [F[i]]) = true then xs ++ [l ++ [F[i]]] else xs := ⟨_, rfl⟩
    have hx1 : xs1.length ≤ xs.length + 1 := by
      rw [hxs1]
      split
      · rw [List.length_append]; simp
      · omega
    have h1 := ih (i + 1) (l ++ [F[i]]) xs1 (by omega) (by rw [List.length_append]; simp only [List.length_singleton]; omega) (fun x hx => hg x (by simp [hx])) (by omega)
    have hfl : ((dfs (l ++ [F[i]]) (F.drop (i + 1))).filter (fitsB n cs)).length ≤ (dfs (l ++ [F[i]]) (F.drop (i + 1))).length := List.length_filter_le _ _
    have h2 := ih (i + 1) l (xs1 ++ (dfs (l ++ [F[i]]) (F.drop (i + 1))).filter (fitsB n cs)) (by omega) hl (fun x hx => hg x (by simp [hx])) (by rw [List.length_append]; omega)
    have hf := sol_f n hn cs hcs F (l ++ [F[i]]) hg0 ((i + 1 : Nat) : Int) xs (by omega) _ (by rw [← hxs1]; exact h1)
    have he : xs ++ ((l ++ [F[i]]) :: (dfs (l ++ [F[i]]) (F.drop (i + 1)) ++ dfs l (F.drop (i + 1)))).filter (fitsB n cs) = xs1 ++ (dfs (l ++ [F[i]]) (F.drop (i + 1))).filter (fitsB n cs) ++ (dfs l (F.drop (i + 1))).filter (fitsB n cs) := by
      rw [hxs1, List.filter_cons, List.filter_append]
      split
      · simp only [List.append_assoc, List.cons_append, List.nil_append]
      · simp only [List.append_assoc]
    rw [he]
    refine Ev.step (fun k => ?_) (Ev.bind hf (f := fun k ys => impl_solutions_1.l0 k (n : Int) cs F l ((i + 1 : Nat) : Int) ys) h2)
    rw [impl_solutions_1.l0, if_pos (by omega), if_pos (by omega)]
    simp only [impl_Pair.f]
    rw [if_pos (by omega), Option.bind_some, if_pos (by omega), rd_T105_nat F i hlt, nat_succ i (by omega)]

theorem impl_solutions.ok (n : Nat) (h0 : 1 ≤ n) (hn : n ≤ 5) (cs : List S70) (hcs : ∀ c ∈ cs, clueI n c.f0 c.f1 c.f2 = true) : Ev (fun k => impl_solutions.f k (n : Int) cs) ((solveL n cs).map (pty n)) := by
  have hgood := allP_good n h0 hn
  have hlen := allP_length n h0 hn
  have hfull := impl_FullParty.ok n (by omega)
  have f1 : ((prsN n).map pI).length ≤ 10 := by
    obtain rfl | rfl | rfl | rfl | rfl : n = 1 ∨ n = 2 ∨ n = 3 ∨ n = 4 ∨ n = 5 := by omega
    all_goals decide
  unfold solveL
  unfold allP at hgood hlen ⊢
  generalize (prsN n).map pI = F at *
  refine Ev.bind hfull ?_
  have h1 := sol_l0 n hn cs hcs F (by omega) F.length 0 [] (if fitsB n cs [] = true then [[]] else []) (by omega) (by simp) (fun x hx => hgood x (by rw [List.drop_zero] at hx; simp [hx])) (by
    rw [List.drop_zero]
    simp only [List.length_cons] at hlen
    split
    · simp only [List.length_singleton]; omega
    · simp only [List.length_nil]; omega)
  rw [List.drop_zero] at h1
  have h2 := sol_f n hn cs hcs F [] (hgood [] (by simp)) 0 [] (by simp) _ (by rw [List.nil_append]; exact h1)
  have he : ([] :: dfs [] F).filter (fitsB n cs) = (if fitsB n cs [] = true then [[]] else []) ++ (dfs [] F).filter (fitsB n cs) := by
    rw [List.filter_cons]
    split <;> rfl
  rw [he]
  exact h2

theorem impl_Solutions.ok (n : Int) (cs : List S70) : Ev (fun k => impl_Solutions.f k n cs) ((solC n cs).1.map (pty n), (solC n cs).2) := by
  unfold impl_Solutions.f solC
  rw [show impl_IsPuzzle.f n cs = some (goodP n cs) from rfl]
  simp only [Option.bind_some]
  by_cases hg : goodP n cs = true
  · refine Ev.ite_pos hg ?_
    rw [if_pos hg]
    obtain ⟨N, rfl⟩ := good_nat hg
    obtain ⟨h1, h2, h3⟩ := clue_of hg
    have hs := impl_solutions.ok N h1.1 h1.2 cs h3
    refine Ev.bind (Ev.bind hs (Ev.now _)) ?_
    simp only [Int.toNat_natCast, List.length_map]
    by_cases h : ((solveL N cs).length : Int) > 200
    · simp only [if_pos h]
      exact Ev.now _
    · simp only [if_neg h]
      exact Ev.now _
  · refine Ev.ite_neg hg ?_
    rw [if_neg hg]
    exact Ev.now _

theorem laws_eqPairS.refl (l : List S105) (hl : l.length ≤ 1048576) (k : Nat) (hk : l.length < k) : laws_eqPairS.f k l l = some true := by
  unfold laws_eqPairS.f
  rw [if_pos rfl]
  rw [all_loop (fun k i => laws_eqPairS.l0 k l l i) l.length (fun _ => true) (by omega) 0 ?_ ?_ k hk]
  · simp
  · intro k i h _
    simp only [laws_eqPairS.l0, laws_eqPair.f]
    rw [if_pos (by omega), if_pos (by omega), if_pos (by omega)]
    simp
  · intro k
    simp only [laws_eqPairS.l0]
    rw [if_neg (by omega)]

theorem laws_eqParty.refl (n : Int) (l : List S105) (hl : l.length ≤ 1048576) (k : Nat) (hk : l.length < k) : laws_eqParty.f k n l n l = some true := by
  unfold laws_eqParty.f
  rw [if_pos rfl, laws_eqPairS.refl l hl k hk]; rfl

theorem laws_eqPartyS.refl (L : List S33) (hL : L.length ≤ 1048576) (h : ∀ p ∈ L, p.f1.length ≤ 66) (k : Nat) (hk : L.length + 70 < k) : laws_eqPartyS.f k L L = some true := by
  unfold laws_eqPartyS.f
  rw [if_pos rfl]
  rw [all_loop_fin (fun k i => laws_eqPartyS.l0 k L L i) L.length (fun _ => true) true (by omega) 68 ?_ ?_ k (by omega)]
  · simp
  · intro k i hi hk
    have hp := h L[i] (List.getElem_mem hi)
    have er : rd_T33 L (i : Int) = L[i] := by simp [rd_T33, List.getD, hi]
    simp only [laws_eqPartyS.l0]
    rw [if_pos (by omega), if_pos (by omega), if_pos (by omega), er, laws_eqParty.refl _ _ (by omega) _ (by omega)]
    rfl
  · intro k _
    simp only [laws_eqPartyS.l0]
    rw [if_neg (by omega)]

/-- Pairs marked from a number on. -/
def mkp : Nat → Nat → List S105
  | _, 0 => []
  | m, n + 1 => ⟨(m : Int), ((m + 1 : Nat) : Int)⟩ :: mkp (m + 2) n
theorem set_mid {α : Type} (pre : List α) (x y : α) (post : List α) : (pre ++ x :: post).set pre.length y = pre ++ y :: post := by
  rw [List.set_append_right _ _ (Nat.le_refl _), Nat.sub_self, List.set_cons_zero]
theorem getD_mid {α : Type} (pre : List α) (x z : α) (post : List α) : (pre ++ x :: post).getD pre.length z = x := by
  rw [List.getD_eq_getElem?_getD, List.getElem?_append_right (Nat.le_refl _), Nat.sub_self]
  rfl
theorem snoc_mid {α : Type} (pre : List α) (x : α) (post : List α) : pre ++ x :: post = (pre ++ [x]) ++ post := by simp
-- mkp
theorem laws_markPairS.go : ∀ (l pre : List S105) (m : Nat), m + 2 * l.length ≤ 1000000000 → pre.length + l.length ≤ 1000000000 → Ev (fun k => laws_markPairS.l0 k (pre ++ l) (m : Int) (pre.length : Int)) (((m + 2 * l.length : Nat) : Int), pre ++ mkp m l.length)
  | [], pre, m, hm, hp => by
    refine Ev.step (f := fun _ => some (((m + 2 * ([] : List S105).length : Nat) : Int), pre ++ mkp m ([] : List S105).length)) (fun k => ?_) (Ev.now _)
    rw [laws_markPairS.l0, if_neg (by simp)]
    simp [mkp]
  | x :: l, pre, m, hm, hp => by
    simp only [List.length_cons] at hm hp
    have h := laws_markPairS.go l (pre ++ [⟨(m : Int), ((m + 1 : Nat) : Int)⟩]) (m + 2) (by omega) (by simp; omega)
    rw [List.length_append, List.length_singleton] at h
    refine Ev.step (fun k => ?_) (by
      rw [show (pre ++ [(⟨(m : Int), ((m + 1 : Nat) : Int)⟩ : S105)]) ++ mkp (m + 2) l.length = pre ++ mkp m (x :: l).length from by rw [List.length_cons, mkp]; simp, show m + 2 + 2 * l.length = m + 2 * (x :: l).length from by rw [List.length_cons]; omega] at h
      exact h)
    have e2 : wrap64 ((wrap64 ((m : Int) + 1)) + 1) = ((m + 2 : Nat) : Int) := by rw [wrap_id (x := (m : Int) + 1) (by omega) (by omega), wrap_id (by omega) (by omega)]; omega
    have e1 : wrap64 ((m : Int) + 1) = ((m + 1 : Nat) : Int) := by rw [wrap_id (by omega) (by omega)]; omega
    rw [laws_markPairS.l0, if_pos (by simp; omega), if_pos (by omega), Int.toNat_natCast, set_mid, Option.bind_some, set_mid, e2, e1, nat_succ pre.length (by omega), ← snoc_mid]
    rw [show rd_T105 (pre ++ (⟨(m : Int), (rd_T105 (pre ++ x :: l) (pre.length : Int)).f1⟩ : S105) :: l) (pre.length : Int) = ⟨(m : Int), (rd_T105 (pre ++ x :: l) (pre.length : Int)).f1⟩ from getD_mid _ _ _ _]
theorem laws_markPairS.any (l : List S105) (m : Nat) (hm : m + 2 * l.length ≤ 1000000000) : Ev (fun k => laws_markPairS.f k l (m : Int)) (((m + 2 * l.length : Nat) : Int), mkp m l.length) := laws_markPairS.go l [] m hm (by simp; omega)
-- pairnat
def mkPair (i : Nat) : S105 := ⟨1 + 2 * i, 2 + 2 * i⟩
theorem laws_markPairS.ok (l : List S105) (hl : l.length ≤ 1048576) (k : Nat) (hk : l.length < k) : laws_markPairS.f k l 1 = some (1 + 2 * (l.length : Int), (List.range l.length).map mkPair) := by
  unfold laws_markPairS.f
  refine mark_loop (fun k acc m i => laws_markPairS.l0 k acc m i) mkPair 2 l.length ?_ ?_ k l rfl hk
  · intro k acc i h ha
    have e1 : wrap64 (1 + ((2 : Nat) : Int) * i + 1) = 2 + 2 * i := by rw [wrap_id (by omega) (by omega)]; omega
    have e3 : wrap64 (2 + 2 * (i : Int) + 1) = 1 + ((2 : Nat) : Int) * ((i + 1 : Nat) : Int) := by rw [wrap_id (by omega) (by omega)]; omega
    have e4 : wrap64 ((i : Int) + 1) = ((i + 1 : Nat) : Int) := by rw [wrap_id (by omega) (by omega)]; omega
    have hr : ∀ (q : List S105) (x : S105), q.length = l.length → rd_T105 (q.set i x) (i : Int) = x := by
      intro q x hq
      rw [rd_T105_nat _ i (by simp; omega)]; simp
    simp only [laws_markPairS.l0, e1, e3, e4, Int.toNat_natCast, Option.bind_some]
    rw [if_pos (by omega), if_pos (by omega), hr acc _ ha]
    simp only [List.set_set]
    simp only [mkPair]
    rfl
  · intro k acc m ha
    simp only [laws_markPairS.l0]
    rw [if_neg (by omega)]

/-- Parties marked from a number on, and the number behind. -/
def mkS : Nat → List (List S105) → List S33
  | _, [] => []
  | m, l :: L => ⟨(m : Int), mkp (m + 1) l.length⟩ :: mkS (m + 1 + 2 * l.length) L
def nxS : Nat → List (List S105) → Nat
  | m, [] => m
  | m, l :: L => nxS (m + 1 + 2 * l.length) L
-- mkS
theorem laws_markPartyS.go (N : Int) : ∀ (L : List (List S105)) (pre : List S33) (m : Nat), (∀ l ∈ L, l.length ≤ 66) → m + 200 * L.length ≤ 1000000 → pre.length + L.length ≤ 1000000 → Ev (fun k => laws_markPartyS.l0 k (pre ++ L.map (pty N)) (m : Int) (pre.length : Int)) (((nxS m L : Nat) : Int), pre ++ mkS m L)
  | [], pre, m, _, hm, hp => by
    refine Ev.step (f := fun _ => some (((nxS m [] : Nat) : Int), pre ++ mkS m [])) (fun k => ?_) (Ev.now _)
    rw [laws_markPartyS.l0, if_neg (by simp)]
    simp [mkS, nxS]
  | l :: L, pre, m, h66, hm, hp => by
    simp only [List.length_cons] at hm hp
    have hl := h66 l List.mem_cons_self
    have h := laws_markPartyS.go N L (pre ++ [⟨(m : Int), mkp (m + 1) l.length⟩]) (m + 1 + 2 * l.length) (fun x hx => h66 x (List.mem_cons_of_mem _ hx)) (by omega) (by simp; omega)
    rw [List.length_append, List.length_singleton, ← snoc_mid, ← snoc_mid] at h
    have e1 : wrap64 ((m : Int) + 1) = ((m + 1 : Nat) : Int) := by rw [wrap_id (by omega) (by omega)]; omega
    have h1 := laws_markPairS.any l (m + 1) (by omega)
    have er : (rd_T33 (pre ++ pty N l :: L.map (pty N)) (pre.length : Int)).f1 = l := by rw [show rd_T33 (pre ++ pty N l :: L.map (pty N)) (pre.length : Int) = pty N l from getD_mid _ _ _ _]; rfl
    refine Ev.step (fun k => ?_) (Ev.bind h1 (f := fun k q => laws_markPartyS.l0 k ((pre ++ pty N l :: L.map (pty N)).set pre.length ⟨(m : Int), q.2⟩) q.1 ((pre.length + 1 : Nat) : Int)) ?_)
    · rw [List.map_cons, laws_markPartyS.l0, if_pos (by simp; omega), if_pos (by omega), er, e1, Int.toNat_natCast, nat_succ pre.length (by omega)]
    · simp only [set_mid]
      exact h

-- mkp
theorem laws_heldPairS.go : ∀ (n : Nat) (pre : List S105) (m : Nat), m + 2 * n ≤ 1000000000 → pre.length + n ≤ 1000000000 → Ev (fun k => laws_heldPairS.l0 k (pre ++ mkp m n) (m : Int) (pre.length : Int)) ((m + 2 * n : Nat) : Int)
  | 0, pre, m, hm, hp => by
    refine Ev.step (f := fun _ => some ((m + 2 * 0 : Nat) : Int)) (fun k => ?_) (Ev.now _)
    rw [laws_heldPairS.l0, if_neg (by simp [mkp])]
    simp
  | n + 1, pre, m, hm, hp => by
    have h := laws_heldPairS.go n (pre ++ [⟨(m : Int), ((m + 1 : Nat) : Int)⟩]) (m + 2) (by omega) (by simp; omega)
    rw [List.length_append, List.length_singleton, ← snoc_mid] at h
    refine Ev.step (fun k => ?_) (by
      rw [show m + 2 + 2 * n = m + 2 * (n + 1) from by omega] at h
      exact h)
    have e2 : wrap64 ((wrap64 ((m : Int) + 1)) + 1) = ((m + 2 : Nat) : Int) := by rw [wrap_id (x := (m : Int) + 1) (by omega) (by omega), wrap_id (by omega) (by omega)]; omega
    have e1 : wrap64 ((m : Int) + 1) = ((m + 1 : Nat) : Int) := by rw [wrap_id (by omega) (by omega)]; omega
    have er : rd_T105 (pre ++ (⟨(m : Int), ((m + 1 : Nat) : Int)⟩ : S105) :: mkp (m + 2) n) (pre.length : Int) = ⟨(m : Int), ((m + 1 : Nat) : Int)⟩ := getD_mid _ _ _ _
    rw [mkp, laws_heldPairS.l0, if_pos (by simp; omega), if_pos (by omega), er, if_pos rfl, e1, if_pos rfl, ← e1, e2, nat_succ pre.length (by omega), e1]
theorem laws_heldPairS.any (n m : Nat) (hm : m + 2 * n ≤ 1000000000) : Ev (fun k => laws_heldPairS.f k (mkp m n) (m : Int)) ((m + 2 * n : Nat) : Int) := laws_heldPairS.go n [] m hm (by simp; omega)
theorem laws_heldPairS.ok (n : Nat) (hl : n ≤ 1048576) (k : Nat) (hk : n < k) : laws_heldPairS.f k ((List.range n).map mkPair) 1 = some (1 + 2 * (n : Int)) := by
  unfold laws_heldPairS.f
  refine held_loop (fun k m i => laws_heldPairS.l0 k ((List.range n).map mkPair) m i) 2 n ?_ ?_ k hk
  · intro k i h
    have e1 : wrap64 (1 + ((2 : Nat) : Int) * i + 1) = 2 + 2 * i := by rw [wrap_id (by omega) (by omega)]; omega
    have e3 : wrap64 (2 + 2 * (i : Int) + 1) = 1 + ((2 : Nat) : Int) * ((i + 1 : Nat) : Int) := by rw [wrap_id (by omega) (by omega)]; omega
    have e4 : wrap64 ((i : Int) + 1) = ((i + 1 : Nat) : Int) := by rw [wrap_id (by omega) (by omega)]; omega
    simp only [laws_heldPairS.l0, e1, e3, e4]
    rw [if_pos (by simp; omega), if_pos (by omega), rd_T105_nat _ i (by simp; omega)]
    simp [mkPair]
  · intro k m
    simp only [laws_heldPairS.l0]
    rw [if_neg (by simp)]

-- mkS
theorem laws_heldPartyS.go : ∀ (L : List (List S105)) (pre : List S33) (m : Nat), (∀ l ∈ L, l.length ≤ 66) → m + 200 * L.length ≤ 1000000 → pre.length + L.length ≤ 1000000 → Ev (fun k => laws_heldPartyS.l0 k (pre ++ mkS m L) (m : Int) (pre.length : Int)) ((nxS m L : Nat) : Int)
  | [], pre, m, _, hm, hp => by
    refine Ev.step (f := fun _ => some ((nxS m [] : Nat) : Int)) (fun k => ?_) (Ev.now _)
    rw [laws_heldPartyS.l0, if_neg (by simp [mkS])]
    rfl
  | l :: L, pre, m, h66, hm, hp => by
    simp only [List.length_cons] at hm hp
    have hl := h66 l List.mem_cons_self
    have h := laws_heldPartyS.go L (pre ++ [⟨(m : Int), mkp (m + 1) l.length⟩]) (m + 1 + 2 * l.length) (fun x hx => h66 x (List.mem_cons_of_mem _ hx)) (by omega) (by simp; omega)
    rw [List.length_append, List.length_singleton, ← snoc_mid] at h
    have e1 : wrap64 ((m : Int) + 1) = ((m + 1 : Nat) : Int) := by rw [wrap_id (by omega) (by omega)]; omega
    have h1 := laws_heldPairS.any l.length (m + 1) (by omega)
    have er : rd_T33 (pre ++ (⟨(m : Int), mkp (m + 1) l.length⟩ : S33) :: mkS (m + 1 + 2 * l.length) L) (pre.length : Int) = ⟨(m : Int), mkp (m + 1) l.length⟩ := getD_mid _ _ _ _
    refine Ev.step (fun k => ?_) (Ev.bind h1 (f := fun k t => if t < 0 then some (-1) else laws_heldPartyS.l0 k (pre ++ (⟨(m : Int), mkp (m + 1) l.length⟩ : S33) :: mkS (m + 1 + 2 * l.length) L) t ((pre.length + 1 : Nat) : Int)) ?_)
    · rw [mkS, laws_heldPartyS.l0, if_pos (by simp; omega), if_pos (by omega), er, if_pos rfl, e1, nat_succ pre.length (by omega)]
    · exact Ev.ite_neg (by omega) h

end Go.Proofs.YtjpfbkkikcpmhaaDoor.PFnExactSolutions
namespace Go.Proofs.YtjpfbkkikcpmhaaDoor
open Go.RowKit Go.Proofs.YtjpfbkkikcpmhaaDoor.Base Go.Proofs.YtjpfbkkikcpmhaaDoor.PFnExactSolutions Go.Proofs.YtjpfbkkikcpmhaaDoorW.PrintWords Go.Proofs.YtjpfbkkikcpmhaaDoorW.PrintLast Go.Proofs.YtjpfbkkikcpmhaaDoorW.PrintMore
theorem fnExactSolutions_pure : fnExactSolutions.Pure := by
  intro n l hn hl
  have hm := hl.1
  refine Ev.rounds (g := fun k => laws_FnExactSolutions.f k n l) ?_
  unfold laws_FnExactSolutions.f
  rw [laws_szPuzzle.ok n l _ (by omega) (by omega) hl.1]
  simp only [Option.bind_some]
  by_cases h0 : (1048576 : Int) - l.length < 0
  · rw [if_pos h0]
    exact Ev.ite_pos (by omega) (Ev.now _)
  · rw [if_neg h0]
    refine Ev.ite_neg (by omega) ?_
    have hlen : l.length ≤ 1048576 := by omega
    have hcl : (cls l).length ≤ 1048576 := by rw [cls_length]; exact hlen
    have ht : Ev (fun k => laws_toPuzzle.f k n l) (n, cls l) := ev_of (l.length + 1) fun k hk => laws_toPuzzle.ok n l hlen k (by omega)
    have hep : Ev (fun k => laws_eqPuzzle.f k n (cls l) n (cls l)) true := ev_of ((cls l).length + 1) fun k hk => laws_eqPuzzle.refl n (cls l) hcl k (by omega)
    have hmp : Ev (fun k => laws_markPuzzle.f k n (cls l) 1) (1 + 3 * ((cls l).length : Int), (List.range (cls l).length).map mkClue) := ev_of ((cls l).length + 1) fun k hk => laws_markPuzzle.ok n (cls l) hcl k (by omega)
    have hs := spec_Solutions.ok n (cls l)
    have hi := impl_Solutions.ok n (cls l)
    obtain ⟨f1, f2⟩ := solC_facts n (cls l)
    generalize solC n (cls l) = x at hs hi f1 f2
    obtain ⟨L, b⟩ := x
    simp only at f1 f2 hs hi
    have he : Ev (fun k => laws_eqPartyS.f k (L.map (pty n)) (L.map (pty n))) true := ev_of 280 fun k hk => laws_eqPartyS.refl _ (by rw [List.length_map]; omega) (by
      intro p hp
      obtain ⟨q, hq, rfl⟩ := List.mem_map.1 hp
      exact f2 q hq) k (by rw [List.length_map]; omega)
    have hmk := laws_markPartyS.go n L [] 1 f2 (by omega) (by simp; omega)
    have hhd := laws_heldPartyS.go L [] 1 f2 (by omega) (by simp; omega)
    refine Ev.bind ht (Ev.bind hs (Ev.bind hi (Ev.bind he (Ev.ite_pos rfl (Ev.ite_pos rfl (Ev.bind hep (Ev.ite_pos rfl (Ev.bind hmp (Ev.ite_neg ?_ ?_)))))))))
    · simp only; omega
    refine Ev.bind hmk (Ev.bind hhd (Ev.ite_neg (by omega) (Ev.ite_pos rfl (Ev.now _))))
theorem fnExactSolutions_holds : Rows.FnExactSolutionsCardSaid := fnExactSolutions.proved fnExactSolutions_pure
end Go.Proofs.YtjpfbkkikcpmhaaDoor
