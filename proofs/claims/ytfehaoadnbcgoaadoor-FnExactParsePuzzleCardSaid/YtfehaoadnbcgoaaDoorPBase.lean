/- Plain lemmas of this session on loops with rounds, and on lists: of no program. -/
import Derived.Test.YtfehaoadnbcgoaaDoorBase
import Derived.Test.YtfehaoadnbcgoaaDoorWMore
namespace Go.Proofs.YtfehaoadnbcgoaaDoor.Base
open Go.RowKit Go.Proofs.YtfehaoadnbcgoaaDoorW.PrintWords
/-- What many rounds tell, as 'from some number on'. -/
theorem ev_of {α : Type} {g : Nat → Option α} {r : α} (n : Nat) (h : ∀ k, n ≤ k → g k = some r) : Ev g r := ⟨n, h⟩
theorem Ev.ite_pos {α : Type} {c : Prop} [Decidable c] {g f : Nat → Option α} {r : α} (hc : c) (h : Ev g r) : Ev (fun k => if c then g k else f k) r := by
  simp only [if_pos hc]; exact h
theorem Ev.ite_neg {α : Type} {c : Prop} [Decidable c] {g f : Nat → Option α} {r : α} (hc : ¬ c) (h : Ev f r) : Ev (fun k => if c then g k else f k) r := by
  simp only [if_neg hc]; exact h
theorem Ev.bind' {α β : Type} {o : Option α} {f : Nat → α → Option β} {a : α} {r : β} (h : o = some a) (k : Ev (fun n => f n a) r) : Ev (fun n => o.bind (f n)) r := by
  subst h; exact k
/-- A list is filled element by element. -/
theorem fill_loop {α β : Type} (g : Nat → List β → Int → Option (List β)) (f : α → β) (l : List α) (z : β) (hl : l.length ≤ 4611686018427387904) (m : Nat)
    (step : ∀ k acc (i : Nat) (h : i < l.length), m ≤ k → acc.length = l.length → g (k + 1) acc i = g k (acc.set i (f l[i])) (wrap64 ((i : Int) + 1)))
    (done : ∀ k acc, acc.length = l.length → g (k + 1) acc (l.length : Int) = some acc) : ∀ k, l.length + m < k → g k (List.replicate l.length z) 0 = some (l.map f) := by
  have key : ∀ d k (i : Nat) acc, i + d = l.length → d + m < k → acc.length = l.length → (∀ j (h : j < i) (h' : j < acc.length) (h'' : j < l.length), acc[j] = f l[j]) → g k acc i = some (l.map f) := by
    intro d
    induction d with
    | zero =>
      intro k i acc hi hk ha hj
      obtain ⟨k, rfl⟩ : ∃ m, k = m + 1 := ⟨k - 1, by omega⟩
      obtain rfl : i = l.length := by omega
      rw [done k acc ha]
      congr 1
      apply List.ext_getElem (by simp [ha])
      intro j h1 h2
      rw [hj j (by omega) h1 (by omega)]; simp
    | succ d ih =>
      intro k i acc hi hk ha hj
      obtain ⟨k, rfl⟩ : ∃ m, k = m + 1 := ⟨k - 1, by omega⟩
      have hlt : i < l.length := by omega
      rw [step k acc i hlt (by omega) ha, wrap_id (by omega) (by omega)]
      refine ih k (i + 1) _ (by omega) (by omega) (by simp [ha]) ?_
      intro j h h' h''
      by_cases e : j = i
      · subst e; simp
      · rw [List.getElem_set_ne (by omega)]
        exact hj j (by omega) (by simpa using h') h''
  intro k hk
  exact key l.length k 0 _ (by omega) hk (by simp) (fun j h => absurd h (by omega))
/-- A loop over all indices that goes on while a test holds. -/
theorem all_loop_fin (g : Nat → Int → Option Bool) (n : Nat) (p : Nat → Bool) (fin : Bool) (hl : n ≤ 4611686018427387904) (m : Nat)
    (step : ∀ k (i : Nat), i < n → m ≤ k → g (k + 1) i = if p i = true then g k (wrap64 ((i : Int) + 1)) else some false)
    (done : ∀ k, m ≤ k → g (k + 1) (n : Int) = some fin) : ∀ k, n + m < k → g k 0 = some ((List.range n).all p && fin) := by
  have key : ∀ d k (i : Nat), i + d = n → d + m < k → ((List.range i).all p = true) → g k i = some ((List.range n).all p && fin) := by
    intro d
    induction d with
    | zero =>
      intro k i hi hk hp
      obtain ⟨k, rfl⟩ : ∃ m, k = m + 1 := ⟨k - 1, by omega⟩
      obtain rfl : i = n := by omega
      rw [done k (by omega), hp]; rfl
    | succ d ih =>
      intro k i hi hk hp
      obtain ⟨k, rfl⟩ : ∃ m, k = m + 1 := ⟨k - 1, by omega⟩
      rw [step k i (by omega) (by omega)]
      cases h : p i with
      | true =>
        rw [if_pos rfl, wrap_id (by omega) (by omega)]
        refine ih k (i + 1) (by omega) (by omega) ?_
        rw [List.range_succ, List.all_append, hp]; simp [h]
      | false =>
        rw [if_neg (by simp)]
        congr 1
        symm
        rw [Bool.and_eq_false_iff]
        left
        rw [List.all_eq_false]
        exact ⟨i, List.mem_range.2 (by omega), by simp [h]⟩
  intro k hk
  exact key n k 0 (by omega) hk (by simp)
theorem all_loop (g : Nat → Int → Option Bool) (n : Nat) (p : Nat → Bool) (hl : n ≤ 4611686018427387904) (m : Nat)
    (step : ∀ k (i : Nat), i < n → m ≤ k → g (k + 1) i = if p i = true then g k (wrap64 ((i : Int) + 1)) else some false)
    (done : ∀ k, g (k + 1) (n : Int) = some true) : ∀ k, n + m < k → g k 0 = some ((List.range n).all p) := by
  intro k hk
  rw [all_loop_fin g n p true hl m step (fun k _ => done k) k hk, Bool.and_true]
theorem range_all {α : Type} (l : List α) (d : α) (p : α → Bool) : ((List.range l.length).all fun i => p (l.getD i d)) = l.all p := by
  rw [Bool.eq_iff_iff, List.all_eq_true, List.all_eq_true]
  constructor
  · intro h x hx
    obtain ⟨i, hi, rfl⟩ := List.getElem_of_mem hx
    have := h i (List.mem_range.2 hi)
    simpa [List.getD, List.getElem?_eq_getElem hi] using this
  · intro h i hi
    have hi := List.mem_range.1 hi
    simp [List.getD, List.getElem?_eq_getElem hi, h]
/-- the double of a pair's place among the pairs of n people -/
def rk (n A B : Int) : Int := A * (2 * n - A - 1) + 2 * (B - A - 1)
theorem tri (n A : Int) : (A + 1) * (2 * n - (A + 1) - 1) = A * (2 * n - A - 1) + 2 * (n - A - 1) := by
  have e : (A + 1) * (2 * n - (A + 1) - 1) = A * (2 * n - (A + 1) - 1) + (2 * n - (A + 1) - 1) := by rw [Int.add_mul]; omega
  have f : A * (2 * n - (A + 1) - 1) = A * (2 * n - A - 1) - A := by
    rw [show 2 * n - (A + 1) - 1 = (2 * n - A - 1) - 1 from by omega, Int.mul_sub]; omega
  omega
theorem tri_mono (n A : Int) (d : Nat) (hd : A + d ≤ n) : A * (2 * n - A - 1) ≤ (A + d) * (2 * n - (A + d) - 1) := by
  induction d with
  | zero => simp
  | succ d ih =>
    have := ih (by omega)
    have t := tri n (A + d)
    rw [show A + ((d + 1 : Nat) : Int) = A + d + 1 from by omega, t]
    omega
theorem rk_lt (n A B A' B' : Int) (h : A < B ∧ B < n) (h' : A' < B' ∧ B' < n) (hl : A < A' ∨ A = A' ∧ B < B') : rk n A B + 2 ≤ rk n A' B' := by
  unfold rk
  rcases hl with hl | ⟨rfl, hl⟩
  · obtain ⟨d, rfl⟩ : ∃ d : Nat, A' = A + 1 + d := ⟨(A' - A - 1).toNat, by omega⟩
    have m := tri_mono n (A + 1) d (by omega)
    rw [tri] at m
    omega
  · omega
theorem rk_max (n A B : Int) (_h0 : 0 ≤ A) (h : A < B ∧ B < n) : rk n A B + 2 ≤ n * (n - 1) := by
  unfold rk
  obtain ⟨d, hd⟩ : ∃ d : Nat, n = A + 1 + d := ⟨(n - A - 1).toNat, by omega⟩
  have m := tri_mono n (A + 1) d (by omega)
  rw [tri, ← hd] at m
  have e : n * (2 * n - n - 1) = n * (n - 1) := by rw [show 2 * n - n - 1 = n - 1 from by omega]
  omega
theorem pairs_bound (n : Int) (len : Nat) (a b : Nat → Int) (h : ∀ i, i < len → 0 ≤ a i ∧ a i < b i ∧ b i < n) (hs : ∀ i, i + 1 < len → a i < a (i + 1) ∨ a i = a (i + 1) ∧ b i < b (i + 1)) (hn : 0 ≤ n) : 2 * (len : Int) ≤ n * (n - 1) := by
  have key : ∀ i, i < len → 2 * (i : Int) ≤ rk n (a i) (b i) := by
    intro i
    induction i with
    | zero =>
      intro hi
      have := h 0 hi
      unfold rk
      have : 0 ≤ a 0 * (2 * n - a 0 - 1) := Int.mul_nonneg (by omega) (by omega)
      omega
    | succ i ih =>
      intro hi
      have := ih (by omega)
      have := rk_lt n _ _ _ _ (h i (by omega)).2 (h (i + 1) hi).2 (hs i hi)
      omega
  rcases Nat.eq_zero_or_pos len with rfl | hl
  · have : 0 ≤ n * (n - 1) := by
      rcases Int.le_iff_lt_or_eq.1 hn with h | rfl
      · exact Int.mul_nonneg hn (by omega)
      · simp
    simpa using this
  · have := key (len - 1) (by omega)
    have := rk_max n _ _ (h (len - 1) (by omega)).1 (h (len - 1) (by omega)).2
    omega
/-- A list is marked with numbers in a row, so many an element. -/
theorem mark_loop {β : Type} (g : Nat → List β → Int → Int → Option (Int × List β)) (v : Nat → β) (c : Nat) (len : Nat)
    (step : ∀ k acc (i : Nat), i < len → acc.length = len → g (k + 1) acc (1 + c * i) i = g k (acc.set i (v i)) (1 + c * ((i + 1 : Nat) : Int)) ((i + 1 : Nat) : Int))
    (done : ∀ k acc (m : Int), acc.length = len → g (k + 1) acc m (len : Int) = some (m, acc)) : ∀ k (l : List β), l.length = len → len < k → g k l 1 0 = some (1 + c * (len : Int), (List.range len).map v) := by
  have key : ∀ d k (i : Nat) acc, i + d = len → d < k → acc.length = len → (∀ j (h : j < i) (h' : j < acc.length), acc[j] = v j) → g k acc (1 + c * i) i = some (1 + c * (len : Int), (List.range len).map v) := by
    intro d
    induction d with
    | zero =>
      intro k i acc hi hk ha hj
      obtain ⟨k, rfl⟩ : ∃ m, k = m + 1 := ⟨k - 1, by omega⟩
      obtain rfl : i = len := by omega
      rw [done k acc _ ha]
      congr 2
      apply List.ext_getElem (by simp [ha])
      intro j h1 h2
      rw [hj j (by omega) h1]; simp
    | succ d ih =>
      intro k i acc hi hk ha hj
      obtain ⟨k, rfl⟩ : ∃ m, k = m + 1 := ⟨k - 1, by omega⟩
      rw [step k acc i (by omega) ha]
      refine ih k (i + 1) _ (by omega) (by omega) (by simp [ha]) ?_
      intro j h h'
      by_cases e : j = i
      · subst e; simp
      · rw [List.getElem_set_ne (by omega)]
        exact hj j (by omega) (by simpa using h')
  intro k l hll hk
  have := key len k 0 l (by omega) hk hll (fun j h => absurd h (by omega))
  simpa using this
/-- What is marked so is found so. -/
theorem held_loop (g : Nat → Int → Int → Option Int) (c : Nat) (len : Nat)
    (step : ∀ k (i : Nat), i < len → g (k + 1) (1 + c * i) i = g k (1 + c * ((i + 1 : Nat) : Int)) ((i + 1 : Nat) : Int))
    (done : ∀ k (m : Int), g (k + 1) m (len : Int) = some m) : ∀ k, len < k → g k 1 0 = some (1 + c * (len : Int)) := by
  have key : ∀ d k (i : Nat), i + d = len → d < k → g k (1 + c * i) i = some (1 + c * (len : Int)) := by
    intro d
    induction d with
    | zero =>
      intro k i hi hk
      obtain ⟨k, rfl⟩ : ∃ m, k = m + 1 := ⟨k - 1, by omega⟩
      obtain rfl : i = len := by omega
      rw [done]
    | succ d ih =>
      intro k i hi hk
      obtain ⟨k, rfl⟩ : ∃ m, k = m + 1 := ⟨k - 1, by omega⟩
      rw [step k i (by omega)]
      exact ih k (i + 1) (by omega) (by omega)
  intro k hk
  have := key len k 0 (by omega) hk
  simpa using this
end Go.Proofs.YtfehaoadnbcgoaaDoor.Base
