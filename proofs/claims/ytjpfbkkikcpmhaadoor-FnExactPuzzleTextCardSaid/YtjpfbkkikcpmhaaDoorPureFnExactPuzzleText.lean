/- FnExactPuzzleText: whatever the puzzle, the program writes it as the reference does, and leaves the puzzle as it was. Condition: the tables lie as their initialisers lay them (the card's own). -/
import Derived.Test.YtjpfbkkikcpmhaaDoorLawFnExactPuzzleText
import Derived.Test.YtjpfbkkikcpmhaaDoorPBase
import Derived.Test.YtjpfbkkikcpmhaaDoorGraph
namespace Go.Proofs.YtjpfbkkikcpmhaaDoor.PFnExactPuzzleText
set_option linter.unusedVariables false
set_option linter.unusedSimpArgs false
open Go.RowKit Go.Proofs.YtjpfbkkikcpmhaaDoor.Base Go.Proofs.YtjpfbkkikcpmhaaDoor.PFnExactPuzzleText Go.Proofs.YtjpfbkkikcpmhaaDoorW.PrintWords Go.Proofs.YtjpfbkkikcpmhaaDoorW.PrintLast Go.Proofs.YtjpfbkkikcpmhaaDoorW.PrintMore
theorem laws_eqClueS.refl (l : List S70) (hl : l.length ≤ 1048576) (k : Nat) (hk : l.length < k) : laws_eqClueS.f k l l = some true := by
  unfold laws_eqClueS.f
  rw [if_pos rfl]
  rw [all_loop (fun k i => laws_eqClueS.l0 k l l i) l.length (fun _ => true) (by omega) 0 ?_ ?_ k hk]
  · simp
  · intro k i h _
    simp only [laws_eqClueS.l0, laws_eqClue.f]
    rw [if_pos (by omega), if_pos (by omega), if_pos (by omega)]
    simp
  · intro k
    simp only [laws_eqClueS.l0]
    rw [if_neg (by omega)]

theorem laws_eqPuzzle.refl (n : Int) (l : List S70) (hl : l.length ≤ 1048576) (k : Nat) (hk : l.length < k) : laws_eqPuzzle.f k n l n l = some true := by
  unfold laws_eqPuzzle.f
  rw [if_pos rfl, laws_eqClueS.refl l hl k hk]; rfl

theorem laws_szClueS.ok (l : List S126) (n : Int) (h0 : 0 ≤ n) (h1 : n ≤ 1048576) (hl : l.length ≤ maxLen) : laws_szClueS.f l n = some (if n - l.length < 0 then -1 else n - l.length) := by
  unfold maxLen at hl
  unfold laws_szClueS.f
  rw [wrap_id (by omega) (by omega)]
  split <;> rfl

theorem laws_szPuzzle.ok (p : Int) (l : List S126) (n : Int) (h0 : 0 ≤ n) (h1 : n ≤ 1048576) (hl : l.length ≤ maxLen) : laws_szPuzzle.f p l n = some (if n - l.length < 0 then -1 else n - l.length) := by
  unfold laws_szPuzzle.f
  rw [laws_szClueS.ok l n h0 h1 hl]
  simp only [Option.bind_some]
  by_cases h : n - (l.length : Int) < 0
  · simp [h]
  · simp [h]

theorem rd_T126_nat (l : List S126) (i : Nat) (h : i < l.length) : rd_T126 l (i : Int) = l[i] := by simp [rd_T126, List.getD, h]
theorem laws_toClueS.ok (l : List S126) (hl : l.length ≤ 1048576) (k : Nat) (hk : l.length < k) : laws_toClueS.f k l = some (l.map fun x => ⟨x.f0, x.f1, x.f2⟩) := by
  unfold laws_toClueS.f
  rw [if_pos (by omega), if_pos (by omega)]
  refine fill_loop (fun k acc i => laws_toClueS.l0 k l acc i) _ l _ (by omega) 0 ?_ ?_ k hk
  · intro k acc i h _ ha
    simp only [laws_toClueS.l0, laws_toClue.f, Option.bind_some]
    rw [if_pos (by omega), if_pos (by omega), if_pos (by omega), rd_T126_nat l i h]
    rfl
  · intro k acc ha
    simp only [laws_toClueS.l0]
    rw [if_neg (by omega)]

def cls (l : List S126) : List S70 := l.map fun x => ⟨x.f0, x.f1, x.f2⟩
theorem cls_length (l : List S126) : (cls l).length = l.length := by simp [cls]
theorem laws_toPuzzle.ok (n : Int) (l : List S126) (hl : l.length ≤ 1048576) (k : Nat) (hk : l.length < k) : laws_toPuzzle.f k n l = some (n, cls l) := by
  unfold laws_toPuzzle.f
  rw [laws_toClueS.ok l hl k hk]; rfl

theorem spec_l1In.ok (n lo hi : Int) : spec_l1In.f n lo hi = some (decide (lo ≤ n ∧ n ≤ hi)) := by
  unfold spec_l1In.f
  by_cases h : lo ≤ n <;> simp [h]

theorem spec_pzPeople.ok (n : Int) : spec_pzPeople.f n = some (guests n) := by unfold spec_pzPeople.f guests; simp [spec_l1In.ok]

theorem spec_pzClue.ok (k : Nat) (n kd a b : Int) (h1 : 1 ≤ n) (h2 : n ≤ 5) : spec_pzClue.f (k + 1) n kd a b = some (clueI n kd a b) := by
  have e1 : wrap64 (n - 1) = n - 1 := wrap_id (by omega) (by omega)
  have e2 : wrap64 (Int.tdiv (wrap64 (n * (wrap64 (n - 1)))) 2) = n * (n - 1) / 2 := by
    obtain rfl | rfl | rfl | rfl | rfl : n = 1 ∨ n = 2 ∨ n = 3 ∨ n = 4 ∨ n = 5 := by omega
    all_goals (unfold wrap64; decide)
  rw [e1] at e2
  have e3 : 0 ≤ a → a ≤ n - 1 → wrap64 (a + 1) = a + 1 := fun h h' => wrap_id (by omega) (by omega)
  have e4 : n * (n - 1) / 2 ≤ 10 := by
    obtain rfl | rfl | rfl | rfl | rfl : n = 1 ∨ n = 2 ∨ n = 3 ∨ n = 4 ∨ n = 5 := by omega
    all_goals decide
  unfold spec_pzClue.f clueI
  simp only [spec_pzClue.j0, spec_l1In.ok, e1, e2, Option.bind_some]
  generalize n * (n - 1) / 2 = m at *
  clear e1 e2
  have key : ∀ x : Bool, (if x = true then (some (decide (wrap64 (a + 1) ≤ b ∧ b ≤ n - 1)) : Option Bool) else some false) = some (x && decide (wrap64 (a + 1) ≤ b ∧ b ≤ n - 1)) := fun x => by cases x <;> rfl
  by_cases k0 : kd = 0
  · simp only [k0, if_true, beq_self_eq_true, true_or, key]
    rw [Option.some_inj, Bool.eq_iff_iff]
    simp only [Bool.and_eq_true, decide_eq_true_eq]
    by_cases ha : 0 ≤ a ∧ a ≤ n - 1
    · rw [e3 ha.1 ha.2]; omega
    · omega
  · by_cases k1 : kd = 1
    · subst k1
      simp only [show ((1 : Int) = 0) = False from by simp, if_true, if_false, beq_self_eq_true, or_true, key]
      rw [Option.some_inj, Bool.eq_iff_iff]
      simp only [Bool.and_eq_true, decide_eq_true_eq]
      by_cases ha : 0 ≤ a ∧ a ≤ n - 1
      · rw [e3 ha.1 ha.2]; omega
      · omega
    · simp only [k0, k1, if_false, or_self, beq_iff_eq]
      repeat' split
      all_goals (rw [Option.some_inj, Bool.eq_iff_iff]; first | done | (simp_all; done) | (simp_all; omega))

theorem rd_T70_nat (l : List S70) (i : Nat) (h : i < l.length) : rd_T70 l (i : Int) = l[i] := by simp [rd_T70, List.getD, h]
theorem spec_pzGood.ok (n : Int) (l : List S70) (k : Nat) (hk : 12 ≤ k) : spec_pzGood.f k n l = some (guests n && decide (l.length ≤ 8) && l.all (puzzleC n)) := by
  obtain ⟨k, rfl⟩ : ∃ m, k = m + 1 := ⟨k - 1, by omega⟩
  unfold spec_pzGood.f
  rw [spec_pzPeople.ok]
  simp only [Option.bind_some]
  by_cases hn : guests n = true
  · have hg : 1 ≤ n ∧ n ≤ 5 := by simpa [guests] using hn
    rw [if_pos hn, hn]
    simp only [spec_pzGood.j0]
    by_cases h8 : l.length ≤ 8
    · rw [if_neg (by simp; omega), decide_eq_true h8]
      simp only [Bool.true_and]
      rw [all_loop (fun k i => spec_pzGood.l0 k l (l.length : Int) i n l) l.length (fun i => puzzleC n (l.getD i z70)) (by omega) 1 ?_ ?_ k (by omega), range_all]
      · intro k i h hk1
        obtain ⟨k, rfl⟩ : ∃ m, k = m + 1 := ⟨k - 1, by omega⟩
        simp only [spec_pzGood.l0]
        rw [if_pos (by omega), if_pos (by omega), if_pos (by omega), rd_T70_nat l i h, spec_pzClue.ok _ _ _ _ _ hg.1 hg.2]
        simp only [Option.bind_some, puzzleC, hn, Bool.true_and, List.getD, List.getElem?_eq_getElem h, Option.getD_some]
      · intro k
        simp only [spec_pzGood.l0]
        rw [if_neg (by omega)]
    · rw [if_pos (by simp; omega), decide_eq_false h8]; simp
  · have hn : guests n = false := by simpa using hn
    rw [hn, if_neg (by simp)]; simp [spec_pzGood.j0]
def goodP (n : Int) (L : List S70) : Bool := guests n && decide (L.length ≤ 8) && L.all (puzzleC n)

/-- A clue's text. -/
def txtC (c : S70) : ByteArray := (((strconv_Itoa.dg c.f0 ++ (⟨#[46]⟩ : ByteArray)) ++ strconv_Itoa.dg c.f1) ++ (⟨#[46]⟩ : ByteArray)) ++ strconv_Itoa.dg c.f2
/-- Texts behind a text, each behind a comma. -/
def txtT : ByteArray → List ByteArray → ByteArray
  | acc, [] => acc
  | acc, x :: xs => txtT ((acc ++ (⟨#[44]⟩ : ByteArray)) ++ x) xs
theorem bs_one (x : UInt8) : (⟨#[x]⟩ : ByteArray).size = 1 := rfl
theorem dg_size (a : Int) : (strconv_Itoa.dg a).size ≤ 2 := by
  unfold strconv_Itoa.dg
  split
  · have e : (strOfNums [48 + a]).size = 1 := rfl
    omega
  · have e : (strOfNums [49, 48]).size = 2 := rfl
    omega
theorem txtC_size (c : S70) : (txtC c).size ≤ 8 := by
  unfold txtC
  have h0 := dg_size c.f0
  have h1 := dg_size c.f1
  have h2 := dg_size c.f2
  simp only [ByteArray.size_append, bs_one]
  omega
theorem txtT_size : ∀ (xs : List ByteArray) (acc : ByteArray), (∀ x ∈ xs, x.size ≤ 8) → (txtT acc xs).size ≤ acc.size + 9 * xs.length
  | [], acc, _ => by simp [txtT]
  | x :: xs, acc, h => by
    have h1 := txtT_size xs ((acc ++ (⟨#[44]⟩ : ByteArray)) ++ x) (fun y hy => h y (List.mem_cons_of_mem _ hy))
    have h2 := h x List.mem_cons_self
    rw [txtT]
    simp only [ByteArray.size_append, bs_one, List.length_cons] at h1 ⊢
    omega
theorem txt_list (a : ByteArray) : a.data.toList.length = a.size := rfl
theorem txtT_join : ∀ (xs : List ByteArray) (acc x : ByteArray), (txtT (acc ++ x) xs).data.toList = acc.data.toList ++ Lib.join ((x :: xs).map (·.data.toList)) [44]
  | [], acc, x => by simp [txtT, Lib.join, List.intercalate]
  | y :: ys, acc, x => by
    rw [txtT, txtT_join ys ((acc ++ x) ++ (⟨#[44]⟩ : ByteArray)) y]
    simp [Lib.join, List.intercalate, List.intersperse]
/-- The text of a puzzle. -/
def txtP (n : Int) (cs : List S70) : ByteArray := match cs.map txtC with
  | [] => strconv_Itoa.dg n ++ (⟨#[58]⟩ : ByteArray)
  | x :: xs => txtT ((strconv_Itoa.dg n ++ (⟨#[58]⟩ : ByteArray)) ++ x) xs
def low10 (a : Int) : Prop := 0 ≤ a ∧ a ≤ 10
theorem clue_low {n : Nat} (hn : n ≤ 5) {k a b : Int} (h : clueI n k a b = true) : low10 k ∧ low10 a ∧ low10 b := by
  unfold clueI at h
  unfold low10
  have hm : (n : Int) * ((n : Int) - 1) / 2 ≤ 10 := by
    obtain rfl | rfl | rfl | rfl | rfl | rfl : n = 0 ∨ n = 1 ∨ n = 2 ∨ n = 3 ∨ n = 4 ∨ n = 5 := by omega
    all_goals decide
  generalize (n : Int) * ((n : Int) - 1) / 2 = m at h hm
  repeat' split at h
  all_goals (first | (simp only [decide_eq_true_eq] at h; omega) | cases h)
-- txtC
theorem spec_l1Num.one (a : Int) (h0 : 0 ≤ a) (h1 : a < 10) (k : Nat) : spec_l1Num.f (k + 1) a = some (strOfNums [48 + a]) := by
  rw [spec_l1Num.f, if_pos h1, wrap_id (by omega) (by omega), show (48 + a) % 256 = 48 + a from by omega]
theorem spec_l1Num.ok (a : Int) (h : low10 a) : Ev (fun k => spec_l1Num.f k a) (strconv_Itoa.dg a) := by
  obtain ⟨h0, h1⟩ := h
  by_cases h9 : a < 10
  · refine Ev.step (f := fun _ => some (strconv_Itoa.dg a)) (fun k => ?_) (Ev.now _)
    rw [spec_l1Num.one a h0 h9, strconv_Itoa.dg, if_pos h9]
  · obtain rfl : a = 10 := by omega
    have hone : Ev (fun k => spec_l1Num.f k (wrap64 (Int.tdiv 10 10))) (strOfNums [49]) := Ev.step (f := fun _ => some (strOfNums [49])) (fun k => by rw [show wrap64 (Int.tdiv 10 10) = 1 from by rw [show Int.tdiv 10 10 = 1 from by decide]; exact wrap_one]; exact spec_l1Num.one 1 (by omega) (by omega) k) (Ev.now _)
    refine Ev.step (fun k => ?_) (Ev.bind hone (f := fun k t => if t.size + (strOfNums [48]).size ≤ 9223372036854775807 then some (t ++ strOfNums [48]) else none) ?_)
    · rw [spec_l1Num.f, if_neg (by omega)]
      simp only [show Int.tmod 10 10 = 0 from by decide, Int.add_zero, show wrap64 48 = 48 from wrap_id (by omega) (by omega), show (48 : Int) % 256 = 48 from by decide, Option.bind_some]
    · refine Ev.ite_pos (by decide) ?_
      rw [show strOfNums [49] ++ strOfNums [48] = strconv_Itoa.dg 10 from by decide +kernel]
      exact Ev.now _

-- txtC
theorem spec_pzText.ok (n : Int) (hn : low10 n) (cs : List S70) (hl : cs.length ≤ 8) (hc : ∀ c ∈ cs, low10 c.f0 ∧ low10 c.f1 ∧ low10 c.f2) : Ev (fun k => spec_pzText.f k n cs) (txtP n cs) := by
  have hd := dg_size n
  have tail := up_loop (P := fun i => 0 < i → ∀ acc : ByteArray, acc.size + 9 * (cs.length - i) ≤ 1000 → Ev (fun k => spec_pzText.l0 k acc cs (cs.length : Int) (i : Int)) (txtT acc ((cs.drop i).map txtC))) (n := cs.length) (by
      intro _ acc _
      rw [List.drop_length, List.map_nil, txtT]
      refine Ev.step (f := fun _ => some acc) (fun k => ?_) (Ev.now _)
      rw [spec_pzText.l0, if_neg (by omega)]) (by
      intro i hi h hpos acc hacc
      have er : rd_T70 cs (i : Int) = cs[i] := by simp [rd_T70, List.getD, hi]
      obtain ⟨c0, c1, c2⟩ := hc cs[i] (List.getElem_mem hi)
      have s0 := dg_size cs[i].f0
      have s1 := dg_size cs[i].f1
      have s2 := dg_size cs[i].f2
      have st := txtC_size cs[i]
      rw [List.drop_eq_getElem_cons hi, List.map_cons, txtT]
      refine Ev.step (fun k => ?_) (Ev.bind (spec_l1Num.ok _ c0) (f := fun k t => if t.size + 1 ≤ 9223372036854775807 then ((spec_l1Num.f k cs[i].f1).bind fun t154 => (if (t ++ (⟨#[46]⟩ : ByteArray)).size + t154.size ≤ 9223372036854775807 then (if ((t ++ (⟨#[46]⟩ : ByteArray)) ++ t154).size + 1 ≤ 9223372036854775807 then ((spec_l1Num.f k cs[i].f2).bind fun t155 => (if (((t ++ (⟨#[46]⟩ : ByteArray)) ++ t154) ++ (⟨#[46]⟩ : ByteArray)).size + t155.size ≤ 9223372036854775807 then (if (acc ++ (⟨#[44]⟩ : ByteArray)).size + ((((t ++ (⟨#[46]⟩ : ByteArray)) ++ t154) ++ (⟨#[46]⟩ : ByteArray)) ++ t155).size ≤ 9223372036854775807 then (spec_pzText.l0 k ((acc ++ (⟨#[44]⟩ : ByteArray)) ++ ((((t ++ (⟨#[46]⟩ : ByteArray)) ++ t154) ++ (⟨#[46]⟩ : ByteArray)) ++ t155)) cs (cs.length : Int) ((i + 1 : Nat) : Int)) else (none)) else (none))) else (none)) else (none))) else none) ?_)
      · rw [spec_pzText.l0, if_pos (by omega), if_pos (by omega), if_pos (by omega), if_pos (by omega), if_pos (by omega), er, nat_succ i (by omega)]
      · refine Ev.ite_pos (by omega) (Ev.bind (spec_l1Num.ok _ c1) (Ev.ite_pos ?_ (Ev.ite_pos ?_ (Ev.bind (spec_l1Num.ok _ c2) (Ev.ite_pos ?_ (Ev.ite_pos ?_ ?_))))))
        · simp only [ByteArray.size_append, bs_one]; omega
        · simp only [ByteArray.size_append, bs_one]; omega
        · simp only [ByteArray.size_append, bs_one]; omega
        · simp only [ByteArray.size_append, bs_one]; omega
        · refine h (by omega) _ ?_
          show ((acc ++ (⟨#[44]⟩ : ByteArray)) ++ txtC cs[i]).size + _ ≤ _
          simp only [ByteArray.size_append, bs_one]
          omega)
  unfold spec_pzText.f
  refine Ev.bind (spec_l1Num.ok n hn) (Ev.ite_pos (by omega) ?_)
  cases cs with
  | nil =>
    refine Ev.step (f := fun _ => some (strconv_Itoa.dg n ++ (⟨#[58]⟩ : ByteArray))) (fun k => ?_) (Ev.now _)
    rw [spec_pzText.l0, if_neg (by simp)]
  | cons c cs =>
    have er : rd_T70 (c :: cs) 0 = c := rfl
    obtain ⟨c0, c1, c2⟩ := hc c List.mem_cons_self
    have s0 := dg_size c.f0
    have s1 := dg_size c.f1
    have s2 := dg_size c.f2
    have st := txtC_size c
    have h := tail 1 (by simp) (by omega) ((strconv_Itoa.dg n ++ (⟨#[58]⟩ : ByteArray)) ++ txtC c) (by
      simp only [ByteArray.size_append, bs_one, List.length_cons] at hl ⊢
      omega)
    show Ev _ (txtT ((strconv_Itoa.dg n ++ (⟨#[58]⟩ : ByteArray)) ++ txtC c) (cs.map txtC))
    refine Ev.step (fun k => ?_) (Ev.bind (spec_l1Num.ok _ c0) (f := fun k t => if t.size + 1 ≤ 9223372036854775807 then ((spec_l1Num.f k c.f1).bind fun t154 => (if (t ++ (⟨#[46]⟩ : ByteArray)).size + t154.size ≤ 9223372036854775807 then (if ((t ++ (⟨#[46]⟩ : ByteArray)) ++ t154).size + 1 ≤ 9223372036854775807 then ((spec_l1Num.f k c.f2).bind fun t155 => (if (((t ++ (⟨#[46]⟩ : ByteArray)) ++ t154) ++ (⟨#[46]⟩ : ByteArray)).size + t155.size ≤ 9223372036854775807 then (if (strconv_Itoa.dg n ++ (⟨#[58]⟩ : ByteArray)).size + ((((t ++ (⟨#[46]⟩ : ByteArray)) ++ t154) ++ (⟨#[46]⟩ : ByteArray)) ++ t155).size ≤ 9223372036854775807 then (spec_pzText.l0 k ((strconv_Itoa.dg n ++ (⟨#[58]⟩ : ByteArray)) ++ ((((t ++ (⟨#[46]⟩ : ByteArray)) ++ t154) ++ (⟨#[46]⟩ : ByteArray)) ++ t155)) (c :: cs) ((c :: cs).length : Int) 1) else (none)) else (none))) else (none)) else (none))) else none) ?_)
    · rw [spec_pzText.l0, if_pos (by simp), if_pos (by omega), if_pos (by simp), if_neg (by omega), er, show wrap64 (0 + 1) = 1 from wrap_one]
    · refine Ev.ite_pos (by omega) (Ev.bind (spec_l1Num.ok _ c1) (Ev.ite_pos ?_ (Ev.ite_pos ?_ (Ev.bind (spec_l1Num.ok _ c2) (Ev.ite_pos ?_ (Ev.ite_pos ?_ h))))))
      · simp only [ByteArray.size_append, bs_one]; omega
      · simp only [ByteArray.size_append, bs_one]; omega
      · simp only [ByteArray.size_append, bs_one]; omega
      · simp only [ByteArray.size_append, bs_one]; omega

/-- What PuzzleText tells. -/
def txtR (n : Int) (cs : List S70) : ByteArray × Bool := if goodP n cs = true then (txtP n cs, true) else (⟨#[]⟩, false)
theorem good_low {n : Int} {cs : List S70} (h : goodP n cs = true) : low10 n ∧ cs.length ≤ 8 ∧ ∀ c ∈ cs, low10 c.f0 ∧ low10 c.f1 ∧ low10 c.f2 := by
  unfold goodP guests at h
  simp only [Bool.and_eq_true, decide_eq_true_eq, List.all_eq_true] at h
  obtain ⟨N, rfl⟩ := Int.eq_ofNat_of_zero_le (show 0 ≤ n by omega)
  refine ⟨by unfold low10; omega, h.1.2, fun c hc => ?_⟩
  have := h.2 c hc
  unfold puzzleC at this
  simp only [Bool.and_eq_true] at this
  exact clue_low (by omega) this.2
-- txtR
theorem spec_PuzzleText.ok (n : Int) (cs : List S70) : Ev (fun k => spec_PuzzleText.f k n cs) (txtR n cs) := by
  unfold spec_PuzzleText.f txtR
  refine Ev.bind (ev_of 12 fun k hk => spec_pzGood.ok n cs k hk) ?_
  by_cases hg : goodP n cs = true
  · rw [if_pos hg]
    obtain ⟨h1, h2, h3⟩ := good_low hg
    exact Ev.ite_pos hg (Ev.bind (spec_pzText.ok n h1 cs h2 h3) (Ev.now _))
  · rw [if_neg hg]
    exact Ev.ite_neg hg (Ev.now _)

-- txtC
theorem strconv_Itoa.ok (a : Int) (h : low10 a) : strconv_Itoa.f a = some (strconv_Itoa.dg a) := by
  unfold low10 at h
  unfold strconv_Itoa.f
  rw [if_pos h.1, if_pos (by omega)]

-- txtC
theorem impl_puzzleText.ok (n : Int) (hn : low10 n) (cs : List S70) (hl : cs.length ≤ 8) (hc : ∀ c ∈ cs, low10 c.f0 ∧ low10 c.f1 ∧ low10 c.f2) : Ev (fun k => impl_puzzleText.f k n cs) (txtP n cs) := by
  have hd := dg_size n
  have s44 : ((⟨#[44]⟩ : ByteArray)).data.toList = [44] := rfl
  have hsz : ∀ x ∈ cs.map txtC, x.size ≤ 8 := by
    intro x hx
    obtain ⟨c, _, rfl⟩ := List.mem_map.1 hx
    exact txtC_size c
  have hj : ∃ t : ByteArray, strings_Join.f (cs.map txtC) (⟨#[44]⟩ : ByteArray) = some t ∧ t.size ≤ 1000 ∧ (strconv_Itoa.dg n ++ (⟨#[58]⟩ : ByteArray)) ++ t = txtP n cs := by
    unfold strings_Join.f txtP
    rw [if_pos (by rw [List.length_map]; omega), s44]
    have hlm : (cs.map txtC).length ≤ 8 := by rw [List.length_map]; exact hl
    generalize cs.map txtC = xs at hsz hlm
    cases xs with
    | nil =>
      refine ⟨_, if_pos (by simp [Lib.join, List.intercalate]), by simp [Lib.join, List.intercalate]; decide, ?_⟩
      apply ByteArray.ext
      simp [Lib.join, List.intercalate]
    | cons x xs =>
      have h1 := txtT_join xs ByteArray.empty x
      have h2 := txtT_size xs (ByteArray.empty ++ x) (fun y hy => hsz y (List.mem_cons_of_mem _ hy))
      have h3 := hsz x List.mem_cons_self
      rw [show (ByteArray.empty).data.toList = [] from rfl, List.nil_append] at h1
      have h4 : (Lib.join ((x :: xs).map (·.data.toList)) [44]).length ≤ 1000 := by
        rw [← h1, txt_list]
        simp only [List.length_cons] at hlm
        have : (ByteArray.empty ++ x).size = x.size := by simp
        omega
      refine ⟨_, if_pos (by omega), ?_, ?_⟩
      · show ((Lib.join ((x :: xs).map (·.data.toList)) [44]).toArray).size ≤ 1000
        simpa using h4
      · apply ByteArray.ext
        apply Array.ext'
        rw [txtT_join xs (strconv_Itoa.dg n ++ (⟨#[58]⟩ : ByteArray)) x]
        simp
  obtain ⟨t, ht, hts, htp⟩ := hj
  have key := up_loop (P := fun i => Ev (fun k => impl_puzzleText.l0 k ((cs.take i).map txtC) cs (cs.length : Int) (i : Int) n cs) (txtP n cs)) (n := cs.length) (by
      rw [List.take_length]
      refine Ev.step (f := fun _ => some (txtP n cs)) (fun k => ?_) (Ev.now _)
      rw [impl_puzzleText.l0, if_neg (by omega), strconv_Itoa.ok n hn, Option.bind_some, if_pos (by omega), ht, Option.bind_some, if_pos (by simp only [ByteArray.size_append, bs_one]; omega), htp]) (by
      intro i hi h
      have er : rd_T70 cs (i : Int) = cs[i] := by simp [rd_T70, List.getD, hi]
      obtain ⟨c0, c1, c2⟩ := hc cs[i] (List.getElem_mem hi)
      have s0 := dg_size cs[i].f0
      have s1 := dg_size cs[i].f1
      have s2 := dg_size cs[i].f2
      have e1 : (cs.take (i + 1)).map txtC = (cs.take i).map txtC ++ [txtC cs[i]] := by rw [List.take_succ_eq_append_getElem hi, List.map_append]; rfl
      refine Ev.step (fun k => ?_) h
      rw [impl_puzzleText.l0, if_pos (by omega), if_pos (by omega), if_pos (by omega), er, strconv_Itoa.ok _ c0, Option.bind_some, if_pos (by omega), strconv_Itoa.ok _ c1, Option.bind_some, if_pos (by simp only [ByteArray.size_append, bs_one]; omega), if_pos (by simp only [ByteArray.size_append, bs_one]; omega), strconv_Itoa.ok _ c2, Option.bind_some, if_pos (by simp only [ByteArray.size_append, bs_one]; omega), if_pos (by rw [List.length_map, List.length_take]; omega), nat_succ i (by omega), e1]
      rfl) 0 (Nat.zero_le _)
  exact key

-- txtR
theorem impl_PuzzleText.ok (n : Int) (cs : List S70) : Ev (fun k => impl_PuzzleText.f k n cs) (txtR n cs) := by
  unfold impl_PuzzleText.f txtR
  rw [show impl_IsPuzzle.f n cs = some (goodP n cs) from rfl]
  simp only [Option.bind_some]
  by_cases hg : goodP n cs = true
  · rw [if_pos hg]
    obtain ⟨h1, h2, h3⟩ := good_low hg
    exact Ev.ite_pos hg (Ev.bind (impl_puzzleText.ok n h1 cs h2 h3) (Ev.now _))
  · rw [if_neg hg]
    exact Ev.ite_neg hg (Ev.now _)

end Go.Proofs.YtjpfbkkikcpmhaaDoor.PFnExactPuzzleText
namespace Go.Proofs.YtjpfbkkikcpmhaaDoor
open Go.RowKit Go.Proofs.YtjpfbkkikcpmhaaDoor.Base Go.Proofs.YtjpfbkkikcpmhaaDoor.PFnExactPuzzleText Go.Proofs.YtjpfbkkikcpmhaaDoorW.PrintWords Go.Proofs.YtjpfbkkikcpmhaaDoorW.PrintLast Go.Proofs.YtjpfbkkikcpmhaaDoorW.PrintMore
theorem fnExactPuzzleText_pure : fnExactPuzzleText.Pure := by
  intro n l hn hl
  have hm := hl.1
  refine Ev.rounds (g := fun k => laws_FnExactPuzzleText.f k n l) ?_
  unfold laws_FnExactPuzzleText.f
  rw [laws_szPuzzle.ok n l _ (by omega) (by omega) hl.1]
  simp only [Option.bind_some]
  by_cases h0 : (1048576 : Int) - l.length < 0
  · rw [if_pos h0]
    exact Ev.ite_pos (by omega) (Ev.now _)
  · rw [if_neg h0]
    refine Ev.ite_neg (by omega) ?_
    have hlen : l.length ≤ 1048576 := by omega
    have hcl : (cls l).length ≤ 1048576 := by rw [cls_length]; exact hlen
    have ht : Ev (fun k => laws_toPuzzle.f k n l) (n, cls l) := ev_of (l.length + 1) fun k hk => laws_toPuzzle.ok n l hlen k (by omega)
    refine Ev.bind ht (Ev.bind (spec_PuzzleText.ok n (cls l)) (Ev.bind ht (Ev.bind (impl_PuzzleText.ok n (cls l)) ?_)))
    refine Ev.ite_pos rfl (Ev.ite_neg (by simp) (Ev.bind ht ?_))
    refine Ev.bind (ev_of ((cls l).length + 1) fun k hk => laws_eqPuzzle.refl n (cls l) hcl k (by omega)) ?_
    exact Ev.ite_pos rfl (Ev.now _)
theorem fnExactPuzzleText_holds : Rows.FnExactPuzzleTextCardSaid := fnExactPuzzleText.proved fnExactPuzzleText_pure
end Go.Proofs.YtjpfbkkikcpmhaaDoor
