/- FnExactParsePuzzle: whatever the text, the program reads it as the reference does. Condition: the tables and errors lie as their initialisers lay them (the card's own). -/
import Derived.Test.YtfehaoadnbcgoaaDoorLawFnExactParsePuzzle
import Derived.Test.YtfehaoadnbcgoaaDoorPBase
import Derived.Test.YtfehaoadnbcgoaaDoorGraph
namespace Go.Proofs.YtfehaoadnbcgoaaDoor.PFnExactParsePuzzle
set_option linter.unusedVariables false
set_option linter.unusedSimpArgs false
open Go.RowKit Go.Proofs.YtfehaoadnbcgoaaDoor.Base Go.Proofs.YtfehaoadnbcgoaaDoor.PFnExactParsePuzzle Go.Proofs.YtfehaoadnbcgoaaDoorW.PrintWords Go.Proofs.YtfehaoadnbcgoaaDoorW.PrintLast Go.Proofs.YtfehaoadnbcgoaaDoorW.PrintMore
theorem Ev_succ {α : Type} {g : Nat → Option α} {r : α} (h : Ev (fun k => g (k + 1)) r) : Ev g r := Ev.step (f := fun k => g (k + 1)) (fun _ => rfl) h
-- Ev_succ
/-- Bytes as a text. -/
def ofL (l : List UInt8) : ByteArray := ⟨l.toArray⟩
theorem ofL_of (s : ByteArray) : ofL s.data.toList = s := by cases s; rfl
theorem ofL_size (l : List UInt8) : (ofL l).size = l.length := by simp [ofL, ByteArray.size]
theorem ba_ext {s t : ByteArray} (h : s.data.toList = t.data.toList) : s = t := by rw [← ofL_of s, ← ofL_of t, h]
theorem ext_list (s : ByteArray) (a b : Nat) : (s.extract a b).data.toList = (s.data.toList.drop a).take (b - a) := by
  rw [ByteArray.data_extract, Array.toList_extract, List.extract_eq_take_drop]
theorem take_one_more (l : List UInt8) (j i : Nat) (hj : j ≤ i) (hi : i < l.length) : (l.drop j).take (i + 1 - j) = (l.drop j).take (i - j) ++ [l[i]] := by
  rw [show i + 1 - j = (i - j) + 1 from by omega, List.take_succ_eq_append_getElem (by rw [List.length_drop]; omega)]
  congr 2
  rw [List.getElem_drop]
  congr 1
  omega
/-- A text cut at each sign c; what was read so far stands first. -/
def cutL (c : UInt8) : List UInt8 → List UInt8 → List (List UInt8)
  | cur, [] => [cur]
  | cur, x :: l => if x = c then cur :: cutL c [] l else cutL c (cur ++ [x]) l
theorem cutL_len (c : UInt8) : ∀ (l cur : List UInt8), (cutL c cur l).length ≤ l.length + 1
  | [], cur => by simp [cutL]
  | x :: l, cur => by
    rw [cutL]
    have h1 := cutL_len c l []
    have h2 := cutL_len c l (cur ++ [x])
    split
    · simp only [List.length_cons]; omega
    · simp only [List.length_cons]; omega
theorem cutL_sz (c : UInt8) : ∀ (l cur : List UInt8), ∀ y ∈ cutL c cur l, y.length ≤ cur.length + l.length
  | [], cur, y, h => by
    simp only [cutL, List.mem_singleton] at h
    subst h
    simp
  | x :: l, cur, y, h => by
    rw [cutL] at h
    split at h
    · rcases List.mem_cons.1 h with h | h
      · subst h; simp
      · have := cutL_sz c l [] y h
        simp only [List.length_nil, List.length_cons] at this ⊢
        omega
    · have := cutL_sz c l _ y h
      simp only [List.length_append, List.length_cons, List.length_nil] at this ⊢
      omega
theorem cutL_ne (c : UInt8) : ∀ (l cur : List UInt8), c ∉ l → cutL c cur l = [cur ++ l]
  | [], cur, _ => by simp [cutL]
  | x :: l, cur, h => by
    rw [List.mem_cons, not_or] at h
    rw [cutL, if_neg (fun e => h.1 e.symm), cutL_ne c l _ h.2]
    simp
theorem cutL_app (c : UInt8) (m : List UInt8) : ∀ (l cur : List UInt8), c ∉ l → cutL c cur (l ++ c :: m) = (cur ++ l) :: cutL c [] m
  | [], cur, _ => by simp [cutL]
  | x :: l, cur, h => by
    rw [List.mem_cons, not_or] at h
    rw [List.cons_append, cutL, if_neg (fun e => h.1 e.symm), cutL_app c m l _ h.2]
    simp
/-- A text cut. -/
def cutB (c : UInt8) (s : ByteArray) : List ByteArray := (cutL c [] s.data.toList).map ofL
theorem cutB_len (c : UInt8) (s : ByteArray) : (cutB c s).length ≤ s.size + 1 := by
  unfold cutB
  rw [List.length_map]
  exact cutL_len c _ _
theorem cutB_sz (c : UInt8) (s x : ByteArray) (h : x ∈ cutB c s) : x.size ≤ s.size := by
  obtain ⟨y, hy, rfl⟩ := List.mem_map.1 h
  have := cutL_sz c _ _ y hy
  rw [ofL_size]
  simpa using this
-- ofL
theorem spec_l1Split.ok (s : ByteArray) (c : UInt8) (hs : s.size ≤ 1000) : Ev (fun k => spec_l1Split.f k s (c.toNat : Int)) (cutB c s) := by
  have key : ∀ d i j (acc : List ByteArray), i + d = s.size → j ≤ i → acc.length ≤ i → Ev (fun k => spec_l1Split.l0 k s (c.toNat : Int) acc (j : Int) (i : Int)) (acc ++ (cutL c ((s.data.toList.drop j).take (i - j)) (s.data.toList.drop i)).map ofL) := by
    intro d
    induction d with
    | zero =>
      intro i j acc hi hj ha
      refine Ev.step (f := fun _ => some (acc ++ [s.extract j s.size])) (fun k => ?_) ?_
      · rw [spec_l1Split.l0, if_neg (by omega), if_pos (by omega), if_pos (by omega), if_pos (by omega), Int.toNat_natCast]
      · rw [show s.data.toList.drop i = [] from List.drop_eq_nil_of_le (by show s.size ≤ i; omega), cutL]
        rw [show acc ++ [s.extract j s.size] = acc ++ [(s.data.toList.drop j).take (i - j)].map ofL from by
          rw [List.map_singleton]
          congr 2
          apply ba_ext
          rw [ext_list, show s.size = i from by omega]
          rfl]
        exact Ev.now _
    | succ d ih =>
      intro i j acc hi hj ha
      have hlt : i < s.size := by omega
      have hl : i < s.data.toList.length := hlt
      have hb : bt s (i : Int) = ((s.data.toList[i]).toNat : Int) := by
        rw [← bt_at s (i : Int) (by simpa using hlt)]
        simp only [Int.toNat_natCast]
        rfl
      rw [List.drop_eq_getElem_cons hl, cutL]
      by_cases hc : s.data.toList[i] = c
      · rw [if_pos hc]
        have h := ih (i + 1) (i + 1) (acc ++ [s.extract j i]) (by omega) (Nat.le_refl _) (by simp; omega)
        refine Ev.step (fun k => ?_) (show Ev (fun k => spec_l1Split.l0 k s (c.toNat : Int) (acc ++ [s.extract j i]) ((i + 1 : Nat) : Int) ((i + 1 : Nat) : Int)) _ from ?_)
        · rw [spec_l1Split.l0, if_pos (by omega), if_pos (by omega), if_pos (by rw [hb, hc]), if_pos (by omega), if_pos (by omega), if_pos (by omega), if_pos (by omega), nat_succ i (by omega), Int.toNat_natCast, Int.toNat_natCast]
        · rw [List.map_cons, show ofL ((s.data.toList.drop j).take (i - j)) = s.extract j i from by
            apply ba_ext
            rw [ext_list]
            rfl]
          rw [Nat.sub_self, List.take_zero, List.append_assoc, List.singleton_append] at h
          exact h
      · rw [if_neg hc]
        have h := ih (i + 1) j acc (by omega) (by omega) (by omega)
        rw [take_one_more _ _ _ hj hl] at h
        refine Ev.step (fun k => ?_) h
        rw [spec_l1Split.l0, if_pos (by omega), if_pos (by omega), if_neg (by
          rw [hb]
          intro e
          apply hc
          apply UInt8.toNat.inj
          omega), nat_succ i (by omega)]
  have h := key s.size 0 0 [] (by omega) (Nat.le_refl _) (Nat.le_refl _)
  unfold spec_l1Split.f cutB
  simpa using h

theorem spec_l1In.ok (n lo hi : Int) : spec_l1In.f n lo hi = some (decide (lo ≤ n ∧ n ≤ hi)) := by
  unfold spec_l1In.f
  by_cases h : lo ≤ n <;> simp [h]

/-- A clue's text. -/
def txtC (c : S89) : ByteArray := (((strconv_Itoa.dg c.f0 ++ (⟨#[46]⟩ : ByteArray)) ++ strconv_Itoa.dg c.f1) ++ (⟨#[46]⟩ : ByteArray)) ++ strconv_Itoa.dg c.f2
/-- Texts behind a text, each behind a comma. -/
def txtT : ByteArray → List ByteArray → ByteArray
  | acc, [] => acc
  | acc, x :: xs => txtT ((acc ++ (⟨#[44]⟩ : ByteArray)) ++ x) xs
theorem bs_one (x : UInt8) : (⟨#[x]⟩ : ByteArray).size = 1 := rfl
theorem dg_size (a : Int) : (strconv_Itoa.dg a).size ≤ 2 := by
  unfold strconv_Itoa.dg
  split
  · have e : (strOfNums [48 + a]).size = 1 := rfl
    omega
  · have e : (strOfNums [49, 48]).size = 2 := rfl
    omega
theorem txtC_size (c : S89) : (txtC c).size ≤ 8 := by
  unfold txtC
  have h0 := dg_size c.f0
  have h1 := dg_size c.f1
  have h2 := dg_size c.f2
  simp only [ByteArray.size_append, bs_one]
  omega
theorem txtT_size : ∀ (xs : List ByteArray) (acc : ByteArray), (∀ x ∈ xs, x.size ≤ 8) → (txtT acc xs).size ≤ acc.size + 9 * xs.length
  | [], acc, _ => by simp [txtT]
  | x :: xs, acc, h => by
    have h1 := txtT_size xs ((acc ++ (⟨#[44]⟩ : ByteArray)) ++ x) (fun y hy => h y (List.mem_cons_of_mem _ hy))
    have h2 := h x List.mem_cons_self
    rw [txtT]
    simp only [ByteArray.size_append, bs_one, List.length_cons] at h1 ⊢
    omega
theorem txt_list (a : ByteArray) : a.data.toList.length = a.size := rfl
theorem txtT_join : ∀ (xs : List ByteArray) (acc x : ByteArray), (txtT (acc ++ x) xs).data.toList = acc.data.toList ++ Lib.join ((x :: xs).map (·.data.toList)) [44]
  | [], acc, x => by simp [txtT, Lib.join, List.intercalate]
  | y :: ys, acc, x => by
    rw [txtT, txtT_join ys ((acc ++ x) ++ (⟨#[44]⟩ : ByteArray)) y]
    simp [Lib.join, List.intercalate, List.intersperse]
/-- The text of a puzzle. -/
def txtP (n : Int) (cs : List S89) : ByteArray := match cs.map txtC with
  | [] => strconv_Itoa.dg n ++ (⟨#[58]⟩ : ByteArray)
  | x :: xs => txtT ((strconv_Itoa.dg n ++ (⟨#[58]⟩ : ByteArray)) ++ x) xs
def low10 (a : Int) : Prop := 0 ≤ a ∧ a ≤ 10
theorem clue_low {n : Nat} (hn : n ≤ 5) {k a b : Int} (h : clueI n k a b = true) : low10 k ∧ low10 a ∧ low10 b := by
  unfold clueI at h
  unfold low10
  have hm : (n : Int) * ((n : Int) - 1) / 2 ≤ 10 := by
    obtain rfl | rfl | rfl | rfl | rfl | rfl : n = 0 ∨ n = 1 ∨ n = 2 ∨ n = 3 ∨ n = 4 ∨ n = 5 := by omega
    all_goals decide
  generalize (n : Int) * ((n : Int) - 1) / 2 = m at h hm
  repeat' split at h
  all_goals (first | (simp only [decide_eq_true_eq] at h; omega) | cases h)
-- txtC
theorem spec_l1Read.any (s : ByteArray) (hs : s.size ≤ 1000) : ∃ v, Ev (fun k => spec_l1Read.f k s) v := by
  have loop := up_loop (P := fun i => ∀ x : Int, ∃ v, Ev (fun k => spec_l1Read.l0 k s x (i : Int)) v) (n := s.size) (fun x => ⟨x, Ev.step (f := fun _ => some x) (fun k => by rw [spec_l1Read.l0, if_neg (by omega)]) (Ev.now _)⟩) (by
    intro i hi h x
    by_cases h1 : bt s (i : Int) < 48
    · exact ⟨-1, Ev.step (f := fun _ => some (-1)) (fun k => by rw [spec_l1Read.l0, if_pos (by omega), if_pos (by omega), if_pos h1]) (Ev.now _)⟩
    · by_cases h2 : bt s (i : Int) > 57
      · exact ⟨-1, Ev.step (f := fun _ => some (-1)) (fun k => by rw [spec_l1Read.l0, if_pos (by omega), if_pos (by omega), if_neg h1, if_pos h2]) (Ev.now _)⟩
      · obtain ⟨v, hv⟩ := h (wrap64 ((wrap64 (10 * x)) + (((bt s (i : Int)) - 48) % 256)))
        exact ⟨v, Ev.step (fun k => by rw [spec_l1Read.l0, if_pos (by omega), if_pos (by omega), if_neg h1, if_neg h2, nat_succ i (by omega)]) hv⟩)
  have hj : ∀ b, ∃ v, Ev (fun k => spec_l1Read.j0 k s b) v := by
    intro b
    cases b with
    | true => exact ⟨-1, Ev.step (f := fun _ => some (-1)) (fun k => by rw [spec_l1Read.j0, if_pos rfl]) (Ev.now _)⟩
    | false =>
      obtain ⟨v, hv⟩ := loop 0 (Nat.zero_le _) 0
      exact ⟨v, Ev.step (f := fun k => spec_l1Read.l0 k s 0 0) (fun k => by rw [spec_l1Read.j0, if_neg (by decide)]) hv⟩
  unfold spec_l1Read.f
  simp only [spec_l1In.ok, Option.bind_some]
  by_cases h1 : decide ((1 : Int) ≤ (s.size : Int) ∧ (s.size : Int) ≤ 6) = true
  · have h2 := of_decide_eq_true h1
    simp only [if_pos h1, if_pos (show (0 : Int) < (s.size : Int) by omega)]
    by_cases h3 : bt s 0 = 48
    · simp only [if_pos h3]; exact hj _
    · simp only [if_neg h3]; exact hj _
  · simp only [if_neg h1]; exact hj _
theorem spec_l1Read.ok (a : Int) (h : low10 a) : Ev (fun k => spec_l1Read.f k (strconv_Itoa.dg a)) a := by
  refine Ev.of (fun k => spec_l1Read.mono _ k) (k := 20) ?_
  unfold low10 at h
  obtain rfl | rfl | rfl | rfl | rfl | rfl | rfl | rfl | rfl | rfl | rfl : a = 0 ∨ a = 1 ∨ a = 2 ∨ a = 3 ∨ a = 4 ∨ a = 5 ∨ a = 6 ∨ a = 7 ∨ a = 8 ∨ a = 9 ∨ a = 10 := by omega
  all_goals decide +kernel

theorem spec_pzPeople.ok (n : Int) : spec_pzPeople.f n = some (guests n) := by unfold spec_pzPeople.f guests; simp [spec_l1In.ok]

theorem spec_pzClue.ok (k : Nat) (n kd a b : Int) (h1 : 1 ≤ n) (h2 : n ≤ 5) : spec_pzClue.f (k + 1) n kd a b = some (clueI n kd a b) := by
  have e1 : wrap64 (n - 1) = n - 1 := wrap_id (by omega) (by omega)
  have e2 : wrap64 (Int.tdiv (wrap64 (n * (wrap64 (n - 1)))) 2) = n * (n - 1) / 2 := by
    obtain rfl | rfl | rfl | rfl | rfl : n = 1 ∨ n = 2 ∨ n = 3 ∨ n = 4 ∨ n = 5 := by omega
    all_goals (unfold wrap64; decide)
  rw [e1] at e2
  have e3 : 0 ≤ a → a ≤ n - 1 → wrap64 (a + 1) = a + 1 := fun h h' => wrap_id (by omega) (by omega)
  have e4 : n * (n - 1) / 2 ≤ 10 := by
    obtain rfl | rfl | rfl | rfl | rfl : n = 1 ∨ n = 2 ∨ n = 3 ∨ n = 4 ∨ n = 5 := by omega
    all_goals decide
  unfold spec_pzClue.f clueI
  simp only [spec_pzClue.j0, spec_l1In.ok, e1, e2, Option.bind_some]
  generalize n * (n - 1) / 2 = m at *
  clear e1 e2
  have key : ∀ x : Bool, (if x = true then (some (decide (wrap64 (a + 1) ≤ b ∧ b ≤ n - 1)) : Option Bool) else some false) = some (x && decide (wrap64 (a + 1) ≤ b ∧ b ≤ n - 1)) := fun x => by cases x <;> rfl
  by_cases k0 : kd = 0
  · simp only [k0, if_true, beq_self_eq_true, true_or, key]
    rw [Option.some_inj, Bool.eq_iff_iff]
    simp only [Bool.and_eq_true, decide_eq_true_eq]
    by_cases ha : 0 ≤ a ∧ a ≤ n - 1
    · rw [e3 ha.1 ha.2]; omega
    · omega
  · by_cases k1 : kd = 1
    · subst k1
      simp only [show ((1 : Int) = 0) = False from by simp, if_true, if_false, beq_self_eq_true, or_true, key]
      rw [Option.some_inj, Bool.eq_iff_iff]
      simp only [Bool.and_eq_true, decide_eq_true_eq]
      by_cases ha : 0 ≤ a ∧ a ≤ n - 1
      · rw [e3 ha.1 ha.2]; omega
      · omega
    · simp only [k0, k1, if_false, or_self, beq_iff_eq]
      repeat' split
      all_goals (rw [Option.some_inj, Bool.eq_iff_iff]; first | done | (simp_all; done) | (simp_all; omega))

theorem rd_T89_nat (l : List S89) (i : Nat) (h : i < l.length) : rd_T89 l (i : Int) = l[i] := by simp [rd_T89, List.getD, h]
theorem spec_pzGood.ok (n : Int) (l : List S89) (k : Nat) (hk : 12 ≤ k) : spec_pzGood.f k n l = some (guests n && decide (l.length ≤ 8) && l.all (puzzleC n)) := by
  obtain ⟨k, rfl⟩ : ∃ m, k = m + 1 := ⟨k - 1, by omega⟩
  unfold spec_pzGood.f
  rw [spec_pzPeople.ok]
  simp only [Option.bind_some]
  by_cases hn : guests n = true
  · have hg : 1 ≤ n ∧ n ≤ 5 := by simpa [guests] using hn
    rw [if_pos hn, hn]
    simp only [spec_pzGood.j0]
    by_cases h8 : l.length ≤ 8
    · rw [if_neg (by simp; omega), decide_eq_true h8]
      simp only [Bool.true_and]
      rw [all_loop (fun k i => spec_pzGood.l0 k l (l.length : Int) i n l) l.length (fun i => puzzleC n (l.getD i z89)) (by omega) 1 ?_ ?_ k (by omega), range_all]
      · intro k i h hk1
        obtain ⟨k, rfl⟩ : ∃ m, k = m + 1 := ⟨k - 1, by omega⟩
        simp only [spec_pzGood.l0]
        rw [if_pos (by omega), if_pos (by omega), if_pos (by omega), rd_T89_nat l i h, spec_pzClue.ok _ _ _ _ _ hg.1 hg.2]
        simp only [Option.bind_some, puzzleC, hn, Bool.true_and, List.getD, List.getElem?_eq_getElem h, Option.getD_some]
      · intro k
        simp only [spec_pzGood.l0]
        rw [if_neg (by omega)]
    · rw [if_pos (by simp; omega), decide_eq_false h8]; simp
  · have hn : guests n = false := by simpa using hn
    rw [hn, if_neg (by simp)]; simp [spec_pzGood.j0]
def goodP (n : Int) (L : List S89) : Bool := guests n && decide (L.length ≤ 8) && L.all (puzzleC n)

-- txtC
theorem spec_l1Num.one (a : Int) (h0 : 0 ≤ a) (h1 : a < 10) (k : Nat) : spec_l1Num.f (k + 1) a = some (strOfNums [48 + a]) := by
  rw [spec_l1Num.f, if_pos h1, wrap_id (by omega) (by omega), show (48 + a) % 256 = 48 + a from by omega]
theorem spec_l1Num.ok (a : Int) (h : low10 a) : Ev (fun k => spec_l1Num.f k a) (strconv_Itoa.dg a) := by
  obtain ⟨h0, h1⟩ := h
  by_cases h9 : a < 10
  · refine Ev.step (f := fun _ => some (strconv_Itoa.dg a)) (fun k => ?_) (Ev.now _)
    rw [spec_l1Num.one a h0 h9, strconv_Itoa.dg, if_pos h9]
  · obtain rfl : a = 10 := by omega
    have hone : Ev (fun k => spec_l1Num.f k (wrap64 (Int.tdiv 10 10))) (strOfNums [49]) := Ev.step (f := fun _ => some (strOfNums [49])) (fun k => by rw [show wrap64 (Int.tdiv 10 10) = 1 from by rw [show Int.tdiv 10 10 = 1 from by decide]; exact wrap_one]; exact spec_l1Num.one 1 (by omega) (by omega) k) (Ev.now _)
    refine Ev.step (fun k => ?_) (Ev.bind hone (f := fun k t => if t.size + (strOfNums [48]).size ≤ 9223372036854775807 then some (t ++ strOfNums [48]) else none) ?_)
    · rw [spec_l1Num.f, if_neg (by omega)]
      simp only [show Int.tmod 10 10 = 0 from by decide, Int.add_zero, show wrap64 48 = 48 from wrap_id (by omega) (by omega), show (48 : Int) % 256 = 48 from by decide, Option.bind_some]
    · refine Ev.ite_pos (by decide) ?_
      rw [show strOfNums [49] ++ strOfNums [48] = strconv_Itoa.dg 10 from by decide +kernel]
      exact Ev.now _

-- txtC
theorem spec_pzText.ok (n : Int) (hn : low10 n) (cs : List S89) (hl : cs.length ≤ 8) (hc : ∀ c ∈ cs, low10 c.f0 ∧ low10 c.f1 ∧ low10 c.f2) : Ev (fun k => spec_pzText.f k n cs) (txtP n cs) := by
  have hd := dg_size n
  have tail := up_loop (P := fun i => 0 < i → ∀ acc : ByteArray, acc.size + 9 * (cs.length - i) ≤ 1000 → Ev (fun k => spec_pzText.l0 k acc cs (cs.length : Int) (i : Int)) (txtT acc ((cs.drop i).map txtC))) (n := cs.length) (by
      intro _ acc _
      rw [List.drop_length, List.map_nil, txtT]
      refine Ev.step (f := fun _ => some acc) (fun k => ?_) (Ev.now _)
      rw [spec_pzText.l0, if_neg (by omega)]) (by
      intro i hi h hpos acc hacc
      have er : rd_T89 cs (i : Int) = cs[i] := by simp [rd_T89, List.getD, hi]
      obtain ⟨c0, c1, c2⟩ := hc cs[i] (List.getElem_mem hi)
      have s0 := dg_size cs[i].f0
      have s1 := dg_size cs[i].f1
      have s2 := dg_size cs[i].f2
      have st := txtC_size cs[i]
      rw [List.drop_eq_getElem_cons hi, List.map_cons, txtT]
      refine Ev.step (fun k => ?_) (Ev.bind (spec_l1Num.ok _ c0) (f := fun k t => if t.size + 1 ≤ 9223372036854775807 then ((spec_l1Num.f k cs[i].f1).bind fun t154 => (if (t ++ (⟨#[46]⟩ : ByteArray)).size + t154.size ≤ 9223372036854775807 then (if ((t ++ (⟨#[46]⟩ : ByteArray)) ++ t154).size + 1 ≤ 9223372036854775807 then ((spec_l1Num.f k cs[i].f2).bind fun t155 => (if (((t ++ (⟨#[46]⟩ : ByteArray)) ++ t154) ++ (⟨#[46]⟩ : ByteArray)).size + t155.size ≤ 9223372036854775807 then (if (acc ++ (⟨#[44]⟩ : ByteArray)).size + ((((t ++ (⟨#[46]⟩ : ByteArray)) ++ t154) ++ (⟨#[46]⟩ : ByteArray)) ++ t155).size ≤ 9223372036854775807 then (spec_pzText.l0 k ((acc ++ (⟨#[44]⟩ : ByteArray)) ++ ((((t ++ (⟨#[46]⟩ : ByteArray)) ++ t154) ++ (⟨#[46]⟩ : ByteArray)) ++ t155)) cs (cs.length : Int) ((i + 1 : Nat) : Int)) else (none)) else (none))) else (none)) else (none))) else none) ?_)
      · rw [spec_pzText.l0, if_pos (by omega), if_pos (by omega), if_pos (by omega), if_pos (by omega), if_pos (by omega), er, nat_succ i (by omega)]
      · refine Ev.ite_pos (by omega) (Ev.bind (spec_l1Num.ok _ c1) (Ev.ite_pos ?_ (Ev.ite_pos ?_ (Ev.bind (spec_l1Num.ok _ c2) (Ev.ite_pos ?_ (Ev.ite_pos ?_ ?_))))))
        · simp only [ByteArray.size_append, bs_one]; omega
        · simp only [ByteArray.size_append, bs_one]; omega
        · simp only [ByteArray.size_append, bs_one]; omega
        · simp only [ByteArray.size_append, bs_one]; omega
        · refine h (by omega) _ ?_
          show ((acc ++ (⟨#[44]⟩ : ByteArray)) ++ txtC cs[i]).size + _ ≤ _
          simp only [ByteArray.size_append, bs_one]
          omega)
  unfold spec_pzText.f
  refine Ev.bind (spec_l1Num.ok n hn) (Ev.ite_pos (by omega) ?_)
  cases cs with
  | nil =>
    refine Ev.step (f := fun _ => some (strconv_Itoa.dg n ++ (⟨#[58]⟩ : ByteArray))) (fun k => ?_) (Ev.now _)
    rw [spec_pzText.l0, if_neg (by simp)]
  | cons c cs =>
    have er : rd_T89 (c :: cs) 0 = c := rfl
    obtain ⟨c0, c1, c2⟩ := hc c List.mem_cons_self
    have s0 := dg_size c.f0
    have s1 := dg_size c.f1
    have s2 := dg_size c.f2
    have st := txtC_size c
    have h := tail 1 (by simp) (by omega) ((strconv_Itoa.dg n ++ (⟨#[58]⟩ : ByteArray)) ++ txtC c) (by
      simp only [ByteArray.size_append, bs_one, List.length_cons] at hl ⊢
      omega)
    show Ev _ (txtT ((strconv_Itoa.dg n ++ (⟨#[58]⟩ : ByteArray)) ++ txtC c) (cs.map txtC))
    refine Ev.step (fun k => ?_) (Ev.bind (spec_l1Num.ok _ c0) (f := fun k t => if t.size + 1 ≤ 9223372036854775807 then ((spec_l1Num.f k c.f1).bind fun t154 => (if (t ++ (⟨#[46]⟩ : ByteArray)).size + t154.size ≤ 9223372036854775807 then (if ((t ++ (⟨#[46]⟩ : ByteArray)) ++ t154).size + 1 ≤ 9223372036854775807 then ((spec_l1Num.f k c.f2).bind fun t155 => (if (((t ++ (⟨#[46]⟩ : ByteArray)) ++ t154) ++ (⟨#[46]⟩ : ByteArray)).size + t155.size ≤ 9223372036854775807 then (if (strconv_Itoa.dg n ++ (⟨#[58]⟩ : ByteArray)).size + ((((t ++ (⟨#[46]⟩ : ByteArray)) ++ t154) ++ (⟨#[46]⟩ : ByteArray)) ++ t155).size ≤ 9223372036854775807 then (spec_pzText.l0 k ((strconv_Itoa.dg n ++ (⟨#[58]⟩ : ByteArray)) ++ ((((t ++ (⟨#[46]⟩ : ByteArray)) ++ t154) ++ (⟨#[46]⟩ : ByteArray)) ++ t155)) (c :: cs) ((c :: cs).length : Int) 1) else (none)) else (none))) else (none)) else (none))) else none) ?_)
    · rw [spec_pzText.l0, if_pos (by simp), if_pos (by omega), if_pos (by simp), if_neg (by omega), er, show wrap64 (0 + 1) = 1 from wrap_one]
    · refine Ev.ite_pos (by omega) (Ev.bind (spec_l1Num.ok _ c1) (Ev.ite_pos ?_ (Ev.ite_pos ?_ (Ev.bind (spec_l1Num.ok _ c2) (Ev.ite_pos ?_ (Ev.ite_pos ?_ h))))))
      · simp only [ByteArray.size_append, bs_one]; omega
      · simp only [ByteArray.size_append, bs_one]; omega
      · simp only [ByteArray.size_append, bs_one]; omega
      · simp only [ByteArray.size_append, bs_one]; omega

/-- What PuzzleText tells. -/
def txtR (n : Int) (cs : List S89) : ByteArray × Bool := if goodP n cs = true then (txtP n cs, true) else (⟨#[]⟩, false)
theorem good_low {n : Int} {cs : List S89} (h : goodP n cs = true) : low10 n ∧ cs.length ≤ 8 ∧ ∀ c ∈ cs, low10 c.f0 ∧ low10 c.f1 ∧ low10 c.f2 := by
  unfold goodP guests at h
  simp only [Bool.and_eq_true, decide_eq_true_eq, List.all_eq_true] at h
  obtain ⟨N, rfl⟩ := Int.eq_ofNat_of_zero_le (show 0 ≤ n by omega)
  refine ⟨by unfold low10; omega, h.1.2, fun c hc => ?_⟩
  have := h.2 c hc
  unfold puzzleC at this
  simp only [Bool.and_eq_true] at this
  exact clue_low (by omega) this.2
-- txtR ofL
/-- A number's digits. -/
def dgL (a : Int) : List UInt8 := (strconv_Itoa.dg a).data.toList
theorem dgL_digit (a : Int) (h : low10 a) : dgL a ≠ [] ∧ ∀ x ∈ dgL a, 48 ≤ x.toNat ∧ x.toNat ≤ 57 := by
  unfold low10 at h
  obtain rfl | rfl | rfl | rfl | rfl | rfl | rfl | rfl | rfl | rfl | rfl : a = 0 ∨ a = 1 ∨ a = 2 ∨ a = 3 ∨ a = 4 ∨ a = 5 ∨ a = 6 ∨ a = 7 ∨ a = 8 ∨ a = 9 ∨ a = 10 := by omega
  all_goals decide +kernel
theorem dgL_not (a : Int) (h : low10 a) (c : UInt8) (hc : c.toNat < 48 ∨ 57 < c.toNat) : c ∉ dgL a := by
  intro hm
  have := (dgL_digit a h).2 c hm
  omega
/-- A clue's signs. -/
def clL (c : S89) : List UInt8 := dgL c.f0 ++ 46 :: (dgL c.f1 ++ 46 :: dgL c.f2)
theorem clL_of (c : S89) : (txtC c).data.toList = clL c := by
  unfold txtC clL dgL
  simp
def lowC (c : S89) : Prop := low10 c.f0 ∧ low10 c.f1 ∧ low10 c.f2
theorem clL_not (c : S89) (h : lowC c) (x : UInt8) (hx : x.toNat < 46 ∨ 57 < x.toNat) : x ∉ clL c := by
  obtain ⟨h0, h1, h2⟩ := h
  have e : x ≠ 46 := by rintro rfl; rcases hx with hx | hx <;> revert hx <;> decide
  unfold clL
  simp only [List.mem_append, List.mem_cons, not_or]
  exact ⟨dgL_not _ h0 x (by omega), e, dgL_not _ h1 x (by omega), e, dgL_not _ h2 x (by omega)⟩
/-- The clues' signs, between commas. -/
def clsL : List S89 → List UInt8
  | [] => []
  | [c] => clL c
  | c :: d :: cs => clL c ++ 44 :: clsL (d :: cs)
theorem clsL_join : ∀ cs : List S89, Lib.join ((cs.map txtC).map (·.data.toList)) [44] = clsL cs
  | [] => by simp [Lib.join, List.intercalate, clsL]
  | [c] => by simp [Lib.join, List.intercalate, clsL, clL_of]
  | c :: d :: cs => by
    have h := clsL_join (d :: cs)
    rw [clsL, ← h]
    simp [Lib.join, List.intercalate, clL_of]
theorem txtP_list (n : Int) (cs : List S89) : (txtP n cs).data.toList = dgL n ++ 58 :: clsL cs := by
  unfold txtP
  cases cs with
  | nil => simp [dgL, clsL]
  | cons c cs =>
    show (txtT ((strconv_Itoa.dg n ++ (⟨#[58]⟩ : ByteArray)) ++ txtC c) (cs.map txtC)).data.toList = _
    rw [txtT_join, ← clsL_join]
    simp [dgL]
theorem clsL_not (x : UInt8) (hx : x.toNat < 44 ∨ 57 < x.toNat) : ∀ cs : List S89, (∀ c ∈ cs, lowC c) → x ∉ clsL cs
  | [], _ => by simp [clsL]
  | [c], h => by rw [clsL]; exact clL_not c (h c List.mem_cons_self) x (by omega)
  | c :: d :: cs, h => by
    rw [clsL]
    simp only [List.mem_append, List.mem_cons, not_or]
    refine ⟨clL_not c (h c List.mem_cons_self) x (by omega), ?_, clsL_not x hx (d :: cs) (fun y hy => h y (List.mem_cons_of_mem _ hy))⟩
    rintro rfl
    rcases hx with hx | hx <;> revert hx <;> decide
theorem cut_cls : ∀ cs : List S89, cs ≠ [] → (∀ c ∈ cs, lowC c) → cutL 44 [] (clsL cs) = cs.map clL
  | [], h, _ => absurd rfl h
  | [c], _, h => by rw [clsL, cutL_ne _ _ _ (clL_not c (h c List.mem_cons_self) 44 (by decide))]; rfl
  | c :: d :: cs, _, h => by
    rw [clsL, cutL_app _ _ _ _ (clL_not c (h c List.mem_cons_self) 44 (by decide)), cut_cls (d :: cs) (by simp) (fun y hy => h y (List.mem_cons_of_mem _ hy))]
    rfl
theorem cut_cl (c : S89) (h : lowC c) : cutL 46 [] (clL c) = [dgL c.f0, dgL c.f1, dgL c.f2] := by
  obtain ⟨h0, h1, h2⟩ := h
  unfold clL
  rw [cutL_app _ _ _ _ (dgL_not _ h0 46 (by decide)), cutL_app _ _ _ _ (dgL_not _ h1 46 (by decide)), cutL_ne _ _ _ (dgL_not _ h2 46 (by decide))]
  rfl
theorem cutB_txt (n : Int) (hn : low10 n) (cs : List S89) (h : ∀ c ∈ cs, lowC c) : cutB 58 (txtP n cs) = [strconv_Itoa.dg n, ofL (clsL cs)] := by
  unfold cutB
  rw [txtP_list, cutL_app _ _ _ _ (dgL_not _ hn 58 (by decide)), cutL_ne _ _ _ (clsL_not 58 (by decide) cs h)]
  simp [dgL, ofL_of]
theorem cutB_cls (cs : List S89) (h0 : cs ≠ []) (h : ∀ c ∈ cs, lowC c) : cutB 44 (ofL (clsL cs)) = cs.map txtC := by
  unfold cutB
  rw [show (ofL (clsL cs)).data.toList = clsL cs from rfl, cut_cls cs h0 h, List.map_map]
  apply List.map_congr_left
  intro c _
  show ofL (clL c) = txtC c
  rw [← clL_of, ofL_of]
theorem cutB_cl (c : S89) (h : lowC c) : cutB 46 (txtC c) = [strconv_Itoa.dg c.f0, strconv_Itoa.dg c.f1, strconv_Itoa.dg c.f2] := by
  unfold cutB
  rw [clL_of, cut_cl c h]
  simp [dgL, ofL_of]
theorem good_lowC {n : Int} {cs : List S89} (h : goodP n cs = true) : low10 n ∧ cs.length ≤ 8 ∧ ∀ c ∈ cs, lowC c := good_low h
theorem clL_len (c : S89) : (clL c).length ≤ 8 := by rw [← clL_of]; exact txtC_size c
theorem clsL_len : ∀ cs : List S89, (clsL cs).length ≤ 9 * cs.length
  | [] => by simp [clsL]
  | [c] => by have := clL_len c; rw [clsL]; simp only [List.length_cons, List.length_nil]; omega
  | c :: d :: cs => by
    have h1 := clL_len c
    have h2 := clsL_len (d :: cs)
    rw [clsL]
    simp only [List.length_append, List.length_cons] at h2 ⊢
    omega
theorem txtP_size (n : Int) (cs : List S89) (h8 : cs.length ≤ 8) : (txtP n cs).size ≤ 100 := by
  have h1 := clsL_len cs
  have h2 : (dgL n).length ≤ 2 := dg_size n
  show (txtP n cs).data.toList.length ≤ 100
  rw [txtP_list]
  simp only [List.length_append, List.length_cons]
  omega
-- dgL
theorem ba_beq {t s : ByteArray} (h : (t.toList == s.toList) = true) : t = s := by
  have e := eq_of_beq h
  rw [ByteArray.toList_eq, ByteArray.toList_eq] at e
  exact ba_ext e
/-- What the reading of the clues' texts ends with. -/
def endP (s : ByteArray) (n : Int) (cs : List S89) : Int × List S89 × Bool := (n, cs, goodP n cs && decide (txtP n cs = s))
theorem endP_ev (s : ByteArray) (n : Int) (cs : List S89) : Ev (fun k => (spec_pzGood.f k n cs).bind fun b => if b = true then ((spec_pzText.f k n cs).bind fun t => some (n, cs, (t.toList == s.toList))) else some (n, cs, false)) (endP s n cs) := by
  refine Ev.bind (ev_of 12 fun k hk => spec_pzGood.ok n cs k hk) ?_
  show Ev (fun k => if goodP n cs = true then _ else _) _
  unfold endP
  by_cases hg : goodP n cs = true
  · obtain ⟨h1, h2, h3⟩ := good_low hg
    refine Ev.ite_pos hg (Ev.bind (spec_pzText.ok n h1 cs h2 h3) ?_)
    rw [hg, Bool.true_and]
    by_cases e : txtP n cs = s
    · rw [e, beq_self_eq_true, decide_eq_true rfl]; exact Ev.now _
    · rw [decide_eq_false e, show ((txtP n cs).toList == s.toList) = false from by
        rw [← Bool.not_eq_true]
        exact fun h => e (ba_beq h)]
      exact Ev.now _
  · refine Ev.ite_neg hg ?_
    rw [Bool.eq_false_iff.mpr hg]
    exact Ev.now _
theorem spec_pzParse.loop (s : ByteArray) (ts : List ByteArray) (hl : ts.length ≤ 1000) (hz : ∀ x ∈ ts, x.size ≤ 1000) (n : Int) : ∀ i, i ≤ ts.length → ∀ cs : List S89, cs.length ≤ i → ∃ r, Ev (fun k => spec_pzParse.l0 k s ts (ts.length : Int) (i : Int) n cs) r ∧ (r = (0, [], false) ∨ ∃ n' cs', r = endP s n' cs') := by
  refine up_loop (P := fun i => ∀ cs : List S89, cs.length ≤ i → ∃ r, Ev (fun k => spec_pzParse.l0 k s ts (ts.length : Int) (i : Int) n cs) r ∧ (r = (0, [], false) ∨ ∃ n' cs', r = endP s n' cs')) ?_ ?_
  · intro cs _
    refine ⟨endP s n cs, Ev_succ ?_, .inr ⟨n, cs, rfl⟩⟩
    simp only [spec_pzParse.l0]
    exact Ev.ite_neg (by omega) (endP_ev s n cs)
  · intro i hi h cs hc
    have er : rdOf ByteArray.empty ts (i : Int) = ts[i] := by simp [rdOf, List.getD, hi]
    have hsz := hz ts[i] (List.getElem_mem hi)
    have hsp : Ev (fun k => spec_l1Split.f k ts[i] 46) (cutB 46 ts[i]) := spec_l1Split.ok ts[i] 46 hsz
    have hcl := cutB_len 46 ts[i]
    have hcz := cutB_sz 46 ts[i]
    generalize cutB 46 ts[i] = q at hsp hcl hcz
    by_cases h3 : q.length = 3
    · have hq : ∀ j : Nat, ∃ v, Ev (fun k => spec_l1Read.f k (rdOf ByteArray.empty q (j : Int))) v := by
        intro j
        refine spec_l1Read.any _ ?_
        unfold rdOf
        rw [List.getD]
        cases hj : q[(j : Int).toNat]? with
        | none => simp
        | some x =>
          have := hcz x (List.mem_of_getElem? hj)
          show x.size ≤ 1000
          omega
      obtain ⟨v0, h0⟩ := hq 0
      obtain ⟨v1, h1⟩ := hq 1
      obtain ⟨v2, h2⟩ := hq 2
      obtain ⟨r, hr, hrr⟩ := h (cs ++ [⟨v0, v1, v2⟩]) (by simp; omega)
      refine ⟨r, Ev_succ ?_, hrr⟩
      simp only [spec_pzParse.l0, er, nat_succ i (by omega)]
      exact Ev.ite_pos (by omega) (Ev.ite_pos (by omega) (Ev.ite_pos (by omega) (Ev.bind hsp (Ev.ite_pos (by omega) (Ev.ite_pos (by omega) (Ev.bind h0 (Ev.ite_pos (by omega) (Ev.bind h1 (Ev.ite_pos (by omega) (Ev.bind h2 (Ev.ite_pos (by omega) hr)))))))))))
    · refine ⟨(0, [], false), Ev_succ ?_, .inl rfl⟩
      simp only [spec_pzParse.l0, er]
      exact Ev.ite_pos (by omega) (Ev.ite_pos (by omega) (Ev.ite_pos (by omega) (Ev.bind hsp (Ev.ite_neg (by omega) (Ev.now _)))))
theorem spec_pzParse.any (s : ByteArray) : ∃ r, Ev (fun k => spec_pzParse.f k s) r ∧ (r = (0, [], false) ∨ ∃ n cs, r = endP s n cs) := by
  unfold spec_pzParse.f
  by_cases h0 : (s.size : Int) > 100
  · exact ⟨_, Ev.ite_pos h0 (Ev.now _), .inl rfl⟩
  · have hs : s.size ≤ 100 := by omega
    have hsp : Ev (fun k => spec_l1Split.f k s 58) (cutB 58 s) := spec_l1Split.ok s 58 (by omega)
    have hcl := cutB_len 58 s
    have hcz := cutB_sz 58 s
    generalize cutB 58 s = q at hsp hcl hcz
    by_cases h2 : q.length = 2
    · obtain ⟨x, y, rfl⟩ : ∃ x y, q = [x, y] := by
        match q, h2 with
        | [x, y], _ => exact ⟨x, y, rfl⟩
      have hx := hcz x (by simp)
      have hy := hcz y (by simp)
      obtain ⟨v, hv⟩ := spec_l1Read.any x (by omega)
      by_cases hy0 : (y.size : Int) > 0
      · have hsp2 : Ev (fun k => spec_l1Split.f k y 44) (cutB 44 y) := spec_l1Split.ok y 44 (by omega)
        have hcl2 := cutB_len 44 y
        have hcz2 := cutB_sz 44 y
        obtain ⟨r, hr, hrr⟩ := spec_pzParse.loop s (cutB 44 y) (by omega) (fun z hz => by have := hcz2 z hz; omega) v 0 (Nat.zero_le _) [] (Nat.le_refl _)
        exact ⟨r, Ev.ite_neg h0 (Ev.bind hsp (Ev.ite_pos rfl (Ev.ite_pos (by simp) (Ev.bind hv (Ev.ite_pos (by simp) (Ev.ite_pos hy0 (Ev.bind hsp2 hr))))))), hrr⟩
      · exact ⟨_, Ev.ite_neg h0 (Ev.bind hsp (Ev.ite_pos rfl (Ev.ite_pos (by simp) (Ev.bind hv (Ev.ite_pos (by simp) (Ev.ite_neg hy0 (endP_ev s v []))))))), .inr ⟨_, _, rfl⟩⟩
    · exact ⟨_, Ev.ite_neg h0 (Ev.bind hsp (Ev.ite_neg (by omega) (Ev.now _))), .inl rfl⟩
theorem spec_pzParse.back (n : Int) (cs : List S89) (hg : goodP n cs = true) : Ev (fun k => spec_pzParse.f k (txtP n cs)) (n, cs, true) := by
  obtain ⟨hn, h8, hc⟩ := good_lowC hg
  have hz := txtP_size n cs h8
  have he : endP (txtP n cs) n cs = (n, cs, true) := by unfold endP; rw [hg, decide_eq_true rfl]; rfl
  have hend := endP_ev (txtP n cs) n cs
  rw [he] at hend
  have hsp : Ev (fun k => spec_l1Split.f k (txtP n cs) 58) (cutB 58 (txtP n cs)) := spec_l1Split.ok (txtP n cs) 58 (by omega)
  rw [cutB_txt n hn cs hc] at hsp
  have hsz : (ofL (clsL cs)).size ≤ 1000 := by rw [ofL_size]; have := clsL_len cs; omega
  unfold spec_pzParse.f
  generalize txtP n cs = s at *
  refine Ev.ite_neg (by omega) (Ev.bind hsp (Ev.ite_pos rfl (Ev.ite_pos (by simp) (Ev.bind (spec_l1Read.ok n hn) (Ev.ite_pos (by simp) ?_)))))
  cases cs with
  | nil => exact Ev.ite_neg (show ¬ (((ofL (clsL [])).size : Int) > 0) by decide) hend
  | cons c0 cs0 =>
    generalize hcs : c0 :: cs0 = cs at *
    have h0 : cs ≠ [] := by rw [← hcs]; simp
    have hsp2 : Ev (fun k => spec_l1Split.f k (ofL (clsL cs)) 44) (cutB 44 (ofL (clsL cs))) := spec_l1Split.ok (ofL (clsL cs)) 44 hsz
    rw [cutB_cls cs h0 hc] at hsp2
    refine Ev.ite_pos (?_ : ((ofL (clsL cs)).size : Int) > 0) (Ev.bind hsp2 ?_)
    · rw [ofL_size]
      have : clsL cs ≠ [] := by
        rw [← hcs]
        have hd := (dgL_digit c0.f0 (hc c0 (by rw [← hcs]; simp)).1).1
        cases cs0 with
        | nil => rw [clsL, clL]; simp
        | cons d l => rw [clsL, clL]; simp
      have := List.length_pos_iff.mpr this
      omega
    · rw [List.length_map]
      have key := up_loop (P := fun i => Ev (fun k => spec_pzParse.l0 k s (cs.map txtC) (cs.length : Int) (i : Int) n (cs.take i)) (n, cs, true)) (n := cs.length) (by
          rw [List.take_length]
          refine Ev_succ ?_
          simp only [spec_pzParse.l0]
          exact Ev.ite_neg (by omega) hend) (by
          intro i hi h
          have er : rdOf ByteArray.empty (cs.map txtC) (i : Int) = txtC cs[i] := by simp [rdOf, List.getD, hi]
          have hci := hc cs[i] (List.getElem_mem hi)
          have h46 : Ev (fun k => spec_l1Split.f k (txtC cs[i]) 46) (cutB 46 (txtC cs[i])) := spec_l1Split.ok (txtC cs[i]) 46 (by have := txtC_size cs[i]; omega)
          rw [cutB_cl _ hci] at h46
          rw [List.take_succ_eq_append_getElem hi] at h
          refine Ev_succ ?_
          simp only [spec_pzParse.l0, er, nat_succ i (by omega)]
          exact Ev.ite_pos (by omega) (Ev.ite_pos (by omega) (Ev.ite_pos (by rw [List.length_map]; omega) (Ev.bind h46 (Ev.ite_pos rfl (Ev.ite_pos (by simp) (Ev.bind (spec_l1Read.ok _ hci.1) (Ev.ite_pos (by simp) (Ev.bind (spec_l1Read.ok _ hci.2.1) (Ev.ite_pos (by simp) (Ev.bind (spec_l1Read.ok _ hci.2.2) (Ev.ite_pos (by rw [List.length_take]; omega) h)))))))))))) 0 (Nat.zero_le _)
      exact key

-- txtC
theorem strconv_Itoa.ok (a : Int) (h : low10 a) : strconv_Itoa.f a = some (strconv_Itoa.dg a) := by
  unfold low10 at h
  unfold strconv_Itoa.f
  rw [if_pos h.1, if_pos (by omega)]

-- txtC
theorem impl_puzzleText.ok (n : Int) (hn : low10 n) (cs : List S89) (hl : cs.length ≤ 8) (hc : ∀ c ∈ cs, low10 c.f0 ∧ low10 c.f1 ∧ low10 c.f2) : Ev (fun k => impl_puzzleText.f k n cs) (txtP n cs) := by
  have hd := dg_size n
  have s44 : ((⟨#[44]⟩ : ByteArray)).data.toList = [44] := rfl
  have hsz : ∀ x ∈ cs.map txtC, x.size ≤ 8 := by
    intro x hx
    obtain ⟨c, _, rfl⟩ := List.mem_map.1 hx
    exact txtC_size c
  have hj : ∃ t : ByteArray, strings_Join.f (cs.map txtC) (⟨#[44]⟩ : ByteArray) = some t ∧ t.size ≤ 1000 ∧ (strconv_Itoa.dg n ++ (⟨#[58]⟩ : ByteArray)) ++ t = txtP n cs := by
    unfold strings_Join.f txtP
    rw [if_pos (by rw [List.length_map]; omega), s44]
    have hlm : (cs.map txtC).length ≤ 8 := by rw [List.length_map]; exact hl
    generalize cs.map txtC = xs at hsz hlm
    cases xs with
    | nil =>
      refine ⟨_, if_pos (by simp [Lib.join, List.intercalate]), by simp [Lib.join, List.intercalate]; decide, ?_⟩
      apply ByteArray.ext
      simp [Lib.join, List.intercalate]
    | cons x xs =>
      have h1 := txtT_join xs ByteArray.empty x
      have h2 := txtT_size xs (ByteArray.empty ++ x) (fun y hy => hsz y (List.mem_cons_of_mem _ hy))
      have h3 := hsz x List.mem_cons_self
      rw [show (ByteArray.empty).data.toList = [] from rfl, List.nil_append] at h1
      have h4 : (Lib.join ((x :: xs).map (·.data.toList)) [44]).length ≤ 1000 := by
        rw [← h1, txt_list]
        simp only [List.length_cons] at hlm
        have : (ByteArray.empty ++ x).size = x.size := by simp
        omega
      refine ⟨_, if_pos (by omega), ?_, ?_⟩
      · show ((Lib.join ((x :: xs).map (·.data.toList)) [44]).toArray).size ≤ 1000
        simpa using h4
      · apply ByteArray.ext
        apply Array.ext'
        rw [txtT_join xs (strconv_Itoa.dg n ++ (⟨#[58]⟩ : ByteArray)) x]
        simp
  obtain ⟨t, ht, hts, htp⟩ := hj
  have key := up_loop (P := fun i => Ev (fun k => impl_puzzleText.l0 k ((cs.take i).map txtC) cs (cs.length : Int) (i : Int) n cs) (txtP n cs)) (n := cs.length) (by
      rw [List.take_length]
      refine Ev.step (f := fun _ => some (txtP n cs)) (fun k => ?_) (Ev.now _)
      rw [impl_puzzleText.l0, if_neg (by omega), strconv_Itoa.ok n hn, Option.bind_some, if_pos (by omega), ht, Option.bind_some, if_pos (by simp only [ByteArray.size_append, bs_one]; omega), htp]) (by
      intro i hi h
      have er : rd_T89 cs (i : Int) = cs[i] := by simp [rd_T89, List.getD, hi]
      obtain ⟨c0, c1, c2⟩ := hc cs[i] (List.getElem_mem hi)
      have s0 := dg_size cs[i].f0
      have s1 := dg_size cs[i].f1
      have s2 := dg_size cs[i].f2
      have e1 : (cs.take (i + 1)).map txtC = (cs.take i).map txtC ++ [txtC cs[i]] := by rw [List.take_succ_eq_append_getElem hi, List.map_append]; rfl
      refine Ev.step (fun k => ?_) h
      rw [impl_puzzleText.l0, if_pos (by omega), if_pos (by omega), if_pos (by omega), er, strconv_Itoa.ok _ c0, Option.bind_some, if_pos (by omega), strconv_Itoa.ok _ c1, Option.bind_some, if_pos (by simp only [ByteArray.size_append, bs_one]; omega), if_pos (by simp only [ByteArray.size_append, bs_one]; omega), strconv_Itoa.ok _ c2, Option.bind_some, if_pos (by simp only [ByteArray.size_append, bs_one]; omega), if_pos (by rw [List.length_map, List.length_take]; omega), nat_succ i (by omega), e1]
      rfl) 0 (Nat.zero_le _)
  exact key

-- dgL
/-- The words of a text between signs; the word that is open stands ahead. -/
def wordsL (p : UInt8 → Bool) : Option (List UInt8) → List UInt8 → List (List UInt8)
  | none, [] => []
  | some c, [] => [c]
  | none, x :: l => if p x = true then wordsL p none l else wordsL p (some [x]) l
  | some c, x :: l => if p x = true then c :: wordsL p none l else wordsL p (some (c ++ [x])) l
theorem fields_words (P : Nat → Bool) (s : ByteArray) (hs : ∀ x ∈ s.data.toList, x.toNat < 128) : ∀ f pos (st : Option Nat) (acc : List (Nat × Nat)), s.size ≤ pos + f → pos ≤ s.size → (∀ a, st = some a → a ≤ pos) →
    ((Lib.closeSpans s (Lib.spansFromP P s f pos st acc)).map fun x => (s.extract x.1 x.2).data.toList) = (acc.map fun x => (s.extract x.1 x.2).data.toList) ++ wordsL (fun x => P x.toNat) (st.map fun a => (s.data.toList.drop a).take (pos - a)) (s.data.toList.drop pos) := by
  have fin : ∀ (st : Option Nat) (acc : List (Nat × Nat)), ((Lib.closeSpans s (acc, st)).map fun x => (s.extract x.1 x.2).data.toList) = (acc.map fun x => (s.extract x.1 x.2).data.toList) ++ wordsL (fun x => P x.toNat) (st.map fun a => (s.data.toList.drop a).take (s.size - a)) [] := by
    intro st acc
    cases st with
    | none => simp [Lib.closeSpans, wordsL]
    | some a => simp [Lib.closeSpans, wordsL, ext_list]
  intro f
  induction f with
  | zero =>
    intro pos st acc h1 h2 h3
    obtain rfl : pos = s.size := by omega
    rw [show s.data.toList.drop s.size = [] from List.drop_eq_nil_of_le (Nat.le_refl _)]
    exact fin st acc
  | succ f ih =>
    intro pos st acc h1 h2 h3
    by_cases hlt : pos < s.size
    · have hl : pos < s.data.toList.length := hlt
      have hd : Utf8.decode s pos = ((s.data.toList[pos]).toNat, 1) := decode_ascii s pos hlt (hs _ (List.getElem_mem hl))
      rw [List.drop_eq_getElem_cons hl]
      unfold Lib.spansFromP
      rw [if_pos hlt, hd]
      by_cases hp : P (s.data.toList[pos]).toNat = true
      · rw [if_pos hp]
        cases st with
        | none =>
          simp only [Option.map_none]
          rw [wordsL, if_pos hp]
          exact ih (pos + 1) none acc (by omega) (by omega) (fun a e => by cases e)
        | some a =>
          simp only [Option.map_some]
          rw [wordsL, if_pos hp]
          have h := ih (pos + 1) none (acc ++ [(a, pos)]) (by omega) (by omega) (fun a e => by cases e)
          rw [h, List.map_append]
          simp [ext_list]
      · rw [if_neg hp]
        cases st with
        | none =>
          simp only [Option.map_none]
          rw [wordsL, if_neg hp]
          have h := ih (pos + 1) (some pos) acc (by omega) (by omega) (fun a e => by cases e; omega)
          rw [h, Option.map_some, show (s.data.toList.drop pos).take (pos + 1 - pos) = [s.data.toList[pos]] from by
            rw [take_one_more _ _ _ (Nat.le_refl _) hl, Nat.sub_self]
            rfl]
        | some a =>
          simp only [Option.map_some]
          rw [wordsL, if_neg hp]
          have h := ih (pos + 1) (some a) acc (by omega) (by omega) (fun b e => by have := h3 b e; omega)
          rw [h, Option.map_some, take_one_more _ _ _ (h3 a rfl) hl]
    · obtain rfl : pos = s.size := by omega
      unfold Lib.spansFromP
      rw [if_neg hlt, show s.data.toList.drop s.size = [] from List.drop_eq_nil_of_le (Nat.le_refl _)]
      exact fin st acc
theorem words_open (p : UInt8 → Bool) (y : UInt8) (hy : p y = true) (m : List UInt8) : ∀ (l cur : List UInt8), (∀ x ∈ l, p x = false) → wordsL p (some cur) (l ++ y :: m) = (cur ++ l) :: wordsL p none m
  | [], cur, _ => by rw [List.nil_append, wordsL, if_pos hy, List.append_nil]
  | x :: l, cur, h => by
    rw [List.cons_append, wordsL, if_neg (by rw [h x List.mem_cons_self]; decide), words_open p y hy m l _ (fun z hz => h z (List.mem_cons_of_mem _ hz))]
    simp
theorem words_last (p : UInt8 → Bool) : ∀ (l cur : List UInt8), (∀ x ∈ l, p x = false) → wordsL p (some cur) l = [cur ++ l]
  | [], cur, _ => by rw [wordsL, List.append_nil]
  | x :: l, cur, h => by
    rw [wordsL, if_neg (by rw [h x List.mem_cons_self]; decide), words_last p l _ (fun z hz => h z (List.mem_cons_of_mem _ hz))]
    simp
theorem words_app (p : UInt8 → Bool) (y : UInt8) (hy : p y = true) (l m : List UInt8) (h0 : l ≠ []) (h : ∀ x ∈ l, p x = false) : wordsL p none (l ++ y :: m) = l :: wordsL p none m := by
  cases l with
  | nil => exact absurd rfl h0
  | cons x l =>
    rw [List.cons_append, wordsL, if_neg (by rw [h x List.mem_cons_self]; decide), words_open p y hy m l _ (fun z hz => h z (List.mem_cons_of_mem _ hz))]
    rfl
theorem words_one (p : UInt8 → Bool) (l : List UInt8) (h0 : l ≠ []) (h : ∀ x ∈ l, p x = false) : wordsL p none l = [l] := by
  cases l with
  | nil => exact absurd rfl h0
  | cons x l =>
    rw [wordsL, if_neg (by rw [h x List.mem_cons_self]; decide), words_last p l _ (fun z hz => h z (List.mem_cons_of_mem _ hz))]
    rfl
-- wordsL
def sgB (x : UInt8) : Bool := strings_IndexRune.sg ⟨#[58, 46, 44]⟩ x.toNat
theorem sgB_digit (x : UInt8) (h : 48 ≤ x.toNat ∧ x.toNat ≤ 57) : sgB x = false := by
  unfold sgB strings_IndexRune.sg
  have e : UInt8.ofNat x.toNat = x := by simp
  have h1 : x ≠ 58 := by rintro rfl; revert h; decide
  have h2 : x ≠ 46 := by rintro rfl; revert h; decide
  have h3 : x ≠ 44 := by rintro rfl; revert h; decide
  rw [e]
  simp [h1.symm, h2.symm, h3.symm]
theorem sgB_dg (a : Int) (h : low10 a) : ∀ x ∈ dgL a, sgB x = false := fun x hx => sgB_digit x ((dgL_digit a h).2 x hx)
/-- The numbers of the clues, one after the other. -/
def numC (cs : List S89) : List Int := cs.flatMap fun c => [c.f0, c.f1, c.f2]
theorem words_cl (c : S89) (h : lowC c) (m : List UInt8) : wordsL sgB none (clL c ++ 44 :: m) = dgL c.f0 :: dgL c.f1 :: dgL c.f2 :: wordsL sgB none m := by
  obtain ⟨h0, h1, h2⟩ := h
  unfold clL
  rw [List.append_assoc, List.cons_append, words_app sgB 46 (by decide) _ _ (dgL_digit _ h0).1 (sgB_dg _ h0), List.append_assoc, List.cons_append, words_app sgB 46 (by decide) _ _ (dgL_digit _ h1).1 (sgB_dg _ h1), words_app sgB 44 (by decide) _ _ (dgL_digit _ h2).1 (sgB_dg _ h2)]
theorem words_cl1 (c : S89) (h : lowC c) : wordsL sgB none (clL c) = [dgL c.f0, dgL c.f1, dgL c.f2] := by
  obtain ⟨h0, h1, h2⟩ := h
  unfold clL
  rw [words_app sgB 46 (by decide) _ _ (dgL_digit _ h0).1 (sgB_dg _ h0), words_app sgB 46 (by decide) _ _ (dgL_digit _ h1).1 (sgB_dg _ h1), words_one sgB _ (dgL_digit _ h2).1 (sgB_dg _ h2)]
theorem words_cls : ∀ cs : List S89, (∀ c ∈ cs, lowC c) → wordsL sgB none (clsL cs) = (numC cs).map dgL
  | [], _ => rfl
  | [c], h => by rw [clsL, words_cl1 c (h c List.mem_cons_self)]; rfl
  | c :: d :: cs, h => by
    rw [clsL, words_cl c (h c List.mem_cons_self), words_cls (d :: cs) (fun y hy => h y (List.mem_cons_of_mem _ hy))]
    rfl
theorem fields_txt (n : Int) (hn : low10 n) (cs : List S89) (h : ∀ c ∈ cs, lowC c) : Lib.goFieldsP (strings_IndexRune.sg ⟨#[58, 46, 44]⟩) (txtP n cs) = (n :: numC cs).map strconv_Itoa.dg := by
  have hdig : ∀ a, low10 a → ∀ x ∈ dgL a, x.toNat < 128 := fun a ha x hx => by have := (dgL_digit a ha).2 x hx; omega
  have hcl : ∀ c, lowC c → ∀ x ∈ clL c, x.toNat < 128 := by
    intro c ⟨h0, h1, h2⟩ x hx
    unfold clL at hx
    simp only [List.mem_append, List.mem_cons] at hx
    rcases hx with hx | rfl | hx | rfl | hx
    · exact hdig _ h0 x hx
    · decide
    · exact hdig _ h1 x hx
    · decide
    · exact hdig _ h2 x hx
  have hcls : ∀ cs : List S89, (∀ c ∈ cs, lowC c) → ∀ x ∈ clsL cs, x.toNat < 128 := by
    intro cs
    induction cs with
    | nil => intro _ x hx; cases hx
    | cons c cs ih =>
      intro h x hx
      cases cs with
      | nil => exact hcl c (h c List.mem_cons_self) x hx
      | cons d cs =>
        rw [clsL] at hx
        simp only [List.mem_append, List.mem_cons] at hx
        rcases hx with hx | rfl | hx
        · exact hcl c (h c List.mem_cons_self) x hx
        · decide
        · exact ih (fun y hy => h y (List.mem_cons_of_mem _ hy)) x hx
  have hall : ∀ x ∈ (txtP n cs).data.toList, x.toNat < 128 := by
    intro x hx
    rw [txtP_list] at hx
    simp only [List.mem_append, List.mem_cons] at hx
    rcases hx with hx | rfl | hx
    · exact hdig _ hn x hx
    · decide
    · exact hcls cs h x hx
  have hw := fields_words (strings_IndexRune.sg ⟨#[58, 46, 44]⟩) (txtP n cs) hall (txtP n cs).size 0 none [] (by omega) (by omega) (fun a e => by cases e)
  rw [List.map_nil, List.nil_append, Option.map_none, List.drop_zero] at hw
  have hw2 : wordsL sgB none (txtP n cs).data.toList = (n :: numC cs).map dgL := by
    rw [txtP_list, words_app sgB 58 (by decide) _ _ (dgL_digit _ hn).1 (sgB_dg _ hn), words_cls cs h]
    rfl
  have hw3 : (Lib.goFieldsP (strings_IndexRune.sg ⟨#[58, 46, 44]⟩) (txtP n cs)).map (·.data.toList) = ((n :: numC cs).map strconv_Itoa.dg).map (·.data.toList) := by
    rw [List.map_map]
    unfold Lib.goFieldsP Lib.spansOfP
    rw [List.map_map]
    exact hw.trans hw2
  exact (List.map_inj_right (fun a b e => ba_ext e)).mp hw3
theorem num_dg (a : Int) (h : low10 a) : impl_number.num 10 (strconv_Itoa.dg a) = some a := by
  unfold low10 at h
  obtain rfl | rfl | rfl | rfl | rfl | rfl | rfl | rfl | rfl | rfl | rfl : a = 0 ∨ a = 1 ∨ a = 2 ∨ a = 3 ∨ a = 4 ∨ a = 5 ∨ a = 6 ∨ a = 7 ∨ a = 8 ∨ a = 9 ∨ a = 10 := by omega
  all_goals decide +kernel
theorem nums_dg : ∀ zs : List Int, (∀ z ∈ zs, low10 z) → impl_numbersIn.nums 10 (zs.map strconv_Itoa.dg) = some zs
  | [], _ => rfl
  | z :: zs, h => by
    rw [List.map_cons, impl_numbersIn.nums, num_dg z (h z List.mem_cons_self), nums_dg zs (fun y hy => h y (List.mem_cons_of_mem _ hy))]
    rfl
theorem numC_len : ∀ cs : List S89, (numC cs).length = 3 * cs.length
  | [] => rfl
  | c :: cs => by
    have := numC_len cs
    show ([c.f0, c.f1, c.f2] ++ numC cs).length = _
    simp only [List.length_append, List.length_cons, List.length_nil]
    omega
theorem numC_at : ∀ (cs : List S89) (i : Nat) (h : i < cs.length), (numC cs).getD (3 * i) 0 = cs[i].f0 ∧ (numC cs).getD (3 * i + 1) 0 = cs[i].f1 ∧ (numC cs).getD (3 * i + 2) 0 = cs[i].f2
  | [], i, h => absurd h (by simp)
  | c :: cs, 0, h => ⟨rfl, rfl, rfl⟩
  | c :: cs, i + 1, h => by
    have e : numC (c :: cs) = c.f0 :: c.f1 :: c.f2 :: numC cs := rfl
    have := numC_at cs i (by simpa using h)
    rw [e, show 3 * (i + 1) = 3 * i + 3 from by omega, show 3 * i + 3 + 1 = (3 * i + 1) + 3 from by omega, show 3 * i + 3 + 2 = (3 * i + 2) + 3 from by omega]
    simpa [List.getD] using this
theorem prs_back (n : Int) (cs : List S89) : (List.range ((n :: numC cs).length / 3)).map (impl_ParsePuzzle.pr (n :: numC cs) ((n :: numC cs).length / 3)) = cs := by
  have hl : (n :: numC cs).length / 3 = cs.length := by
    rw [List.length_cons, numC_len]
    omega
  rw [hl]
  apply List.ext_getElem
  · simp
  · intro i h1 h2
    have h := numC_at cs i h2
    rw [List.getElem_map, List.getElem_range]
    unfold impl_ParsePuzzle.pr
    rw [Nat.mod_eq_of_lt h2, show 1 + 3 * i = 3 * i + 1 from by omega, show 3 * i + 1 + 1 = (3 * i + 1) + 1 from rfl, show 3 * i + 1 + 2 = (3 * i + 2) + 1 from rfl]
    simp only [List.getD_cons_succ]
    rw [h.1, h.2.1, h.2.2]
/-- What the program's reading ends with. -/
def endI (s : ByteArray) (n : Int) (cs : List S89) : Int × List S89 × Bool := if goodP n cs = true ∧ txtP n cs = s then (n, cs, true) else (0, [], false)
theorem impl_fin (s : ByteArray) (n : Int) (cs : List S89) : Ev (fun k => (impl_IsPuzzle.f n cs).bind fun b => if b = true then ((impl_puzzleText.f k n cs).bind fun t => if t = s then some (n, cs, true) else some (0, ([] : List (S89)), false)) else some (0, ([] : List (S89)), false)) (endI s n cs) := by
  rw [show impl_IsPuzzle.f n cs = some (goodP n cs) from rfl]
  simp only [Option.bind_some]
  by_cases hg : goodP n cs = true
  · obtain ⟨h1, h2, h3⟩ := good_low hg
    refine Ev.ite_pos hg (Ev.bind (impl_puzzleText.ok n h1 cs h2 h3) ?_)
    by_cases e : txtP n cs = s
    · rw [show endI s n cs = (n, cs, true) from if_pos ⟨hg, e⟩]
      exact Ev.ite_pos e (Ev.now _)
    · rw [show endI s n cs = (0, [], false) from if_neg (fun h => e h.2)]
      exact Ev.ite_neg e (Ev.now _)
  · rw [show endI s n cs = (0, [], false) from if_neg (fun h => hg h.1)]
    exact Ev.ite_neg hg (Ev.now _)
theorem impl_ParsePuzzle.any (s : ByteArray) (hs : s.size ≤ 1048576) : ∃ r, Ev (fun k => impl_ParsePuzzle.f k s) r ∧ (r = (0, [], false) ∨ ∃ n cs, r = endI s n cs) := by
  unfold impl_ParsePuzzle.f
  simp only [if_pos hs]
  cases impl_numbersIn.nums 10 (Lib.goFieldsP (strings_IndexRune.sg ⟨#[58, 46, 44]⟩) s) with
  | none => exact ⟨_, Ev.now _, .inl rfl⟩
  | some zs =>
    show ∃ r, Ev (fun k => impl_ParsePuzzle.fin k s zs) r ∧ _
    unfold impl_ParsePuzzle.fin
    by_cases h3 : zs.length % 3 = 1
    · simp only [if_pos h3]
      exact ⟨_, impl_fin s _ _, .inr ⟨_, _, rfl⟩⟩
    · simp only [if_neg h3]
      exact ⟨_, Ev.now _, .inl rfl⟩
theorem impl_ParsePuzzle.back (n : Int) (cs : List S89) (hg : goodP n cs = true) : Ev (fun k => impl_ParsePuzzle.f k (txtP n cs)) (n, cs, true) := by
  obtain ⟨hn, h8, hc⟩ := good_lowC hg
  have hz := txtP_size n cs h8
  have he : endI (txtP n cs) n cs = (n, cs, true) := by unfold endI; rw [if_pos ⟨hg, rfl⟩]
  have hend := impl_fin (txtP n cs) n cs
  rw [he] at hend
  unfold impl_ParsePuzzle.f
  simp only [if_pos (show (txtP n cs).size ≤ 1048576 by omega)]
  rw [fields_txt n hn cs hc, nums_dg _ (fun z hz => by
    rcases List.mem_cons.mp hz with rfl | hz
    · exact hn
    · obtain ⟨c, hcm, hz⟩ := List.mem_flatMap.mp hz
      obtain ⟨h0, h1, h2⟩ := hc c hcm
      simp only [List.mem_cons, List.not_mem_nil, or_false] at hz
      rcases hz with rfl | rfl | rfl
      · exact h0
      · exact h1
      · exact h2)]
  show Ev (fun k => impl_ParsePuzzle.fin k (txtP n cs) (n :: numC cs)) _
  unfold impl_ParsePuzzle.fin
  simp only [if_pos (show (n :: numC cs).length % 3 = 1 by rw [List.length_cons, numC_len]; omega), prs_back]
  exact hend
theorem parse_both (s : ByteArray) (hs : s.size ≤ 1048576) : ∃ r, Ev (fun k => spec_ParsePuzzle.f k s) r ∧ Ev (fun k => impl_ParsePuzzle.f k s) r ∧ r.2.1.length ≤ 8 := by
  obtain ⟨r1, h1, k1⟩ := spec_pzParse.any s
  obtain ⟨r2, h2, k2⟩ := impl_ParsePuzzle.any s hs
  by_cases hx : ∃ n cs, goodP n cs = true ∧ txtP n cs = s
  · obtain ⟨n, cs, hg, rfl⟩ := hx
    refine ⟨(n, cs, true), ?_, impl_ParsePuzzle.back n cs hg, (good_low hg).2.1⟩
    unfold spec_ParsePuzzle.f
    exact Ev.bind (spec_pzParse.back n cs hg) (Ev.ite_pos rfl (Ev.now _))
  · have e1 : ¬ r1.2.2 = true := by
      rcases k1 with rfl | ⟨n, cs, rfl⟩
      · decide
      · intro h
        unfold endP at h
        simp only [Bool.and_eq_true, decide_eq_true_eq] at h
        exact hx ⟨n, cs, h⟩
    have e2 : r2 = (0, [], false) := by
      rcases k2 with rfl | ⟨n, cs, rfl⟩
      · rfl
      · unfold endI
        rw [if_neg (fun h => hx ⟨n, cs, h⟩)]
    subst e2
    refine ⟨(0, [], false), ?_, h2, Nat.zero_le _⟩
    unfold spec_ParsePuzzle.f
    exact Ev.bind h1 (Ev.ite_neg e1 (Ev.now _))

theorem laws_eqClueS.refl (l : List S89) (hl : l.length ≤ 1048576) (k : Nat) (hk : l.length < k) : laws_eqClueS.f k l l = some true := by
  unfold laws_eqClueS.f
  rw [if_pos rfl]
  rw [all_loop (fun k i => laws_eqClueS.l0 k l l i) l.length (fun _ => true) (by omega) 0 ?_ ?_ k hk]
  · simp
  · intro k i h _
    simp only [laws_eqClueS.l0, laws_eqClue.f]
    rw [if_pos (by omega), if_pos (by omega), if_pos (by omega)]
    simp
  · intro k
    simp only [laws_eqClueS.l0]
    rw [if_neg (by omega)]

theorem laws_eqPuzzle.refl (n : Int) (l : List S89) (hl : l.length ≤ 1048576) (k : Nat) (hk : l.length < k) : laws_eqPuzzle.f k n l n l = some true := by
  unfold laws_eqPuzzle.f
  rw [if_pos rfl, laws_eqClueS.refl l hl k hk]; rfl

def mkClue (i : Nat) : S89 := ⟨1 + 3 * i, 2 + 3 * i, 3 + 3 * i⟩
theorem laws_markClueS.ok (l : List S89) (hl : l.length ≤ 1048576) (k : Nat) (hk : l.length < k) : laws_markClueS.f k l 1 = some (1 + 3 * (l.length : Int), (List.range l.length).map mkClue) := by
  unfold laws_markClueS.f
  refine mark_loop (fun k acc m i => laws_markClueS.l0 k acc m i) mkClue 3 l.length ?_ ?_ k l rfl hk
  · intro k acc i h ha
    have e1 : wrap64 (1 + ((3 : Nat) : Int) * i + 1) = 2 + 3 * i := by rw [wrap_id (by omega) (by omega)]; omega
    have e2 : wrap64 (2 + 3 * (i : Int) + 1) = 3 + 3 * i := by rw [wrap_id (by omega) (by omega)]; omega
    have e3 : wrap64 (3 + 3 * (i : Int) + 1) = 1 + ((3 : Nat) : Int) * ((i + 1 : Nat) : Int) := by rw [wrap_id (by omega) (by omega)]; omega
    have e4 : wrap64 ((i : Int) + 1) = ((i + 1 : Nat) : Int) := by rw [wrap_id (by omega) (by omega)]; omega
    have hr : ∀ (q : List S89) (x : S89), q.length = l.length → rd_T89 (q.set i x) (i : Int) = x := by
      intro q x hq
      rw [rd_T89_nat _ i (by simp; omega)]; simp
    simp only [laws_markClueS.l0, e1, e2, e3, e4, Int.toNat_natCast, Option.bind_some]
    rw [if_pos (by omega), if_pos (by omega), hr acc _ ha]
    simp only [List.set_set]
    rw [hr acc _ ha]
    simp only [mkClue]
    rfl
  · intro k acc m ha
    simp only [laws_markClueS.l0]
    rw [if_neg (by omega)]

theorem laws_markPuzzle.ok (n : Int) (l : List S89) (hl : l.length ≤ 1048576) (k : Nat) (hk : l.length < k) : laws_markPuzzle.f k n l 1 = some (1 + 3 * (l.length : Int), (List.range l.length).map mkClue) := by
  unfold laws_markPuzzle.f
  rw [laws_markClueS.ok l hl k hk]; rfl

theorem laws_heldClueS.ok (n : Nat) (hl : n ≤ 1048576) (k : Nat) (hk : n < k) : laws_heldClueS.f k ((List.range n).map mkClue) 1 = some (1 + 3 * (n : Int)) := by
  unfold laws_heldClueS.f
  refine held_loop (fun k m i => laws_heldClueS.l0 k ((List.range n).map mkClue) m i) 3 n ?_ ?_ k hk
  · intro k i h
    have e1 : wrap64 (1 + ((3 : Nat) : Int) * i + 1) = 2 + 3 * i := by rw [wrap_id (by omega) (by omega)]; omega
    have e2 : wrap64 (2 + 3 * (i : Int) + 1) = 3 + 3 * i := by rw [wrap_id (by omega) (by omega)]; omega
    have e3 : wrap64 (3 + 3 * (i : Int) + 1) = 1 + ((3 : Nat) : Int) * ((i + 1 : Nat) : Int) := by rw [wrap_id (by omega) (by omega)]; omega
    have e4 : wrap64 ((i : Int) + 1) = ((i + 1 : Nat) : Int) := by rw [wrap_id (by omega) (by omega)]; omega
    simp only [laws_heldClueS.l0, e1, e2, e3, e4]
    rw [if_pos (by simp; omega), if_pos (by omega), rd_T89_nat _ i (by simp; omega)]
    simp [mkClue]
  · intro k m
    simp only [laws_heldClueS.l0]
    rw [if_neg (by simp)]

theorem laws_heldPuzzle.ok (p : Int) (n : Nat) (hl : n ≤ 1048576) (k : Nat) (hk : n < k) : laws_heldPuzzle.f k p ((List.range n).map mkClue) 1 = some (1 + 3 * (n : Int)) := by
  unfold laws_heldPuzzle.f
  rw [laws_heldClueS.ok n hl k hk]
  simp only [Option.bind_some]
  rw [if_neg (by omega)]

/-- What is left of a set without two. -/
def rem2 (p : Nat → Bool) (a b : Nat) : Nat → Bool := fun i => p i && (i != a) && (i != b)
/-- How many pairings the people of a set have. -/
def pmc (n : Nat) (F : Nat → Nat → Bool) : Nat → (Nat → Bool) → Nat
  | 0, _ => 1
  | m + 1, p => match (List.range n).filter p with
    | [] => 1
    | a :: _ => (((List.range n).filter fun y => F a y && p y).map fun b => pmc n F m (rem2 p a b)).sum
theorem least (p : Nat → Bool) : ∀ n : Nat, (∃ a, a < n ∧ p a = true ∧ ∀ i, i < a → p i = false) ∨ (∀ i, i < n → p i = false)
  | 0 => .inr (fun i h => absurd h (Nat.not_lt_zero i))
  | n + 1 => by
    rcases least p n with ⟨a, h1, h2, h3⟩ | h
    · exact .inl ⟨a, by omega, h2, h3⟩
    · cases hp : p n with
      | true => exact .inl ⟨n, by omega, hp, h⟩
      | false =>
        refine .inr (fun i hi => ?_)
        by_cases e : i = n
        · rw [e]; exact hp
        · exact h i (by omega)
theorem filter_none (p : Nat → Bool) (n : Nat) (h : ∀ i, i < n → p i = false) : (List.range n).filter p = [] := by
  rw [List.filter_eq_nil_iff]
  intro i hi
  rw [h i (List.mem_range.1 hi)]
  simp
theorem pmc_none (n : Nat) (F : Nat → Nat → Bool) (m : Nat) (p : Nat → Bool) (h : ∀ i, i < n → p i = false) : pmc n F m p = 1 := by
  cases m with
  | zero => rfl
  | succ m => unfold pmc; rw [filter_none p n h]
theorem pmc_some (n : Nat) (F : Nat → Nat → Bool) (m : Nat) (p : Nat → Bool) (a : Nat) (ha : a < n) (hp : p a = true) (hl : ∀ i, i < a → p i = false) : pmc n F (m + 1) p = (((List.range n).filter fun y => F a y && p y).map fun b => pmc n F m (rem2 p a b)).sum := by
  rw [pmc, filter_least p a hp hl n ha]
theorem filter_behind (q : Nat → Bool) (n a : Nat) (ha : a < n) (h : ∀ y, y ≤ a → q y = false) : (List.range n).filter q = (List.range' (a + 1) (n - (a + 1))).filter q := by
  have e : List.range n = List.range' 0 (a + 1) ++ List.range' (a + 1) (n - (a + 1)) := by
    rw [List.range_eq_range', show n = (a + 1) + (n - (a + 1)) from by omega]
    rw [show List.range' (a + 1) (a + 1 + (n - (a + 1)) - (a + 1)) = List.range' (0 + (a + 1)) (n - (a + 1)) from by rw [Nat.zero_add, Nat.add_sub_cancel_left]]
    rw [List.range'_append_1]
  rw [e, List.filter_append]
  have : (List.range' 0 (a + 1)).filter q = [] := by
    rw [List.filter_eq_nil_iff]
    intro i hi
    rw [h i (by have := List.mem_range'_1.1 hi; omega)]
    simp
  rw [this, List.nil_append]
theorem rem2_len (n : Nat) (p : Nat → Bool) (a b m : Nat) (ha : a < n) (hp : p a = true) (hl : ∀ i, i < a → p i = false) (h : ((List.range n).filter p).length ≤ m + 1) : ((List.range n).filter (rem2 p a b)).length ≤ m := by
  rw [filter_least p a hp hl n ha] at h
  have e : (List.range n).filter (rem2 p a b) = ((List.range n).filter fun i => p i && (i != a)).filter fun i => i != b := by
    rw [List.filter_filter]
    apply List.filter_congr
    intro i _
    unfold rem2
    rw [Bool.and_comm]
  rw [e]
  have := List.length_filter_le (fun i => i != b) ((List.range n).filter fun i => p i && (i != a))
  simp at h
  omega
theorem wrap_wrap (x y : Int) : wrap64 (wrap64 x + y) = wrap64 (x + y) := by unfold wrap64; omega
theorem wrap_twice (x : Int) : wrap64 (wrap64 x) = wrap64 x := by unfold wrap64; omega
-- pmc
/-- What is left of a set without one. -/
def rem1 (p : Nat → Bool) (a : Nat) : Nat → Bool := fun i => p i && (i != a)
/-- How many people a set has. -/
def card (n : Nat) (p : Nat → Bool) : Nat := ((List.range n).filter p).length
theorem card_rem1 (n : Nat) (p : Nat → Bool) (a : Nat) (ha : a < n) (hp : p a = true) : card n (rem1 p a) + 1 = card n p := by
  unfold card
  have : ∀ n, a < n → ((List.range n).filter (rem1 p a)).length + 1 = ((List.range n).filter p).length := by
    intro n
    induction n with
    | zero => intro h; omega
    | succ n ih =>
      intro h
      rw [List.range_succ, List.filter_append, List.filter_append, List.length_append, List.length_append]
      by_cases e : a = n
      · subst e
        have e1 : (List.range a).filter (rem1 p a) = (List.range a).filter p := by
          apply List.filter_congr
          intro i hi
          have := List.mem_range.1 hi
          have e2 : (i != a) = true := by simp; omega
          unfold rem1
          rw [e2, Bool.and_true]
        have e2 : [a].filter (rem1 p a) = [] := by simp [rem1]
        rw [e1, e2]
        simp [hp]
      · have := ih (by omega)
        have e3 : [n].filter (rem1 p a) = [n].filter p := by
          apply List.filter_congr
          intro i hi
          obtain rfl := List.mem_singleton.1 hi
          have e2 : (i != a) = true := by simp; omega
          unfold rem1
          rw [e2, Bool.and_true]
        rw [e3]
        omega
  exact this n ha
end Go.Proofs.YtfehaoadnbcgoaaDoor.PFnExactParsePuzzle
namespace Go.Proofs.YtfehaoadnbcgoaaDoor
open Go.RowKit Go.Proofs.YtfehaoadnbcgoaaDoor.Base Go.Proofs.YtfehaoadnbcgoaaDoor.PFnExactParsePuzzle Go.Proofs.YtfehaoadnbcgoaaDoorW.PrintWords Go.Proofs.YtfehaoadnbcgoaaDoorW.PrintLast Go.Proofs.YtfehaoadnbcgoaaDoorW.PrintMore
theorem fnExactParsePuzzle_pure : fnExactParsePuzzle.Pure := by
  intro s _
  refine Ev.rounds (g := fun k => laws_FnExactParsePuzzle.f k s) ?_
  unfold laws_FnExactParsePuzzle.f
  by_cases h0 : (s.size : Int) > 1048576
  · exact Ev.ite_pos h0 (Ev.now _)
  · refine Ev.ite_neg h0 ?_
    obtain ⟨r, h1, h2, h8⟩ := parse_both s (by omega)
    have he : Ev (fun k => laws_eqPuzzle.f k r.1 r.2.1 r.1 r.2.1) true := ev_of (r.2.1.length + 1) fun k hk => laws_eqPuzzle.refl r.1 r.2.1 (by omega) k (by omega)
    have hm : Ev (fun k => laws_markPuzzle.f k r.1 r.2.1 1) _ := ev_of (r.2.1.length + 1) fun k hk => laws_markPuzzle.ok r.1 r.2.1 (by omega) k (by omega)
    have hh : Ev (fun k => laws_heldPuzzle.f k r.1 ((List.range r.2.1.length).map mkClue) 1) _ := ev_of (r.2.1.length + 1) fun k hk => laws_heldPuzzle.ok r.1 r.2.1.length (by omega) k (by omega)
    refine Ev.bind h1 (Ev.bind h2 (Ev.bind he (Ev.ite_pos rfl (Ev.ite_neg (by simp) (Ev.bind hm ?_)))))
    refine Ev.bind hh (Ev.ite_neg (by omega) (Ev.ite_pos rfl (Ev.bind h2 (Ev.bind he (Ev.ite_pos rfl (Ev.ite_neg (by simp) (Ev.bind hh (Ev.ite_neg (by omega) (Ev.ite_pos rfl (Ev.now _))))))))))
theorem fnExactParsePuzzle_holds : Rows.FnExactParsePuzzleCardSaid := fnExactParsePuzzle.proved fnExactParsePuzzle_pure
end Go.Proofs.YtfehaoadnbcgoaaDoor
