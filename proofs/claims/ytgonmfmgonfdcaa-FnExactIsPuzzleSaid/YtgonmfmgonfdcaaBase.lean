/- Plain lemmas of this session that speak of no program: numbers that do not wrap, rounds, lists. -/
import Derived.RowKit
import Derived.Test.YtgonmfmgonfdcaaWWords
import Derived.Test.YtgonmfmgonfdcaaWMore
namespace Go.Proofs.Ytgonmfmgonfdcaa.Base
open Go.RowKit Go.Proofs.YtgonmfmgonfdcaaW.PrintWords

theorem wrap_id {x : Int} (h0 : -9223372036854775808 ≤ x) (h1 : x ≤ 9223372036854775807) : wrap64 x = x := by unfold wrap64; omega

/-- A clue of n people, as numbers. -/
def clueI (n k a b : Int) : Bool :=
  if k = 0 ∨ k = 1 then decide (0 ≤ a ∧ b ≤ n - 1 ∧ a < b)
  else if k = 2 then decide (0 ≤ a ∧ a ≤ n - 1 ∧ 0 ≤ b ∧ b ≤ n - 1)
  else if k = 3 then decide (0 ≤ a ∧ a ≤ n * (n - 1) / 2 ∧ b = 0)
  else if k = 4 then decide (0 ≤ a ∧ a ≤ 10 ∧ b = 0)
  else if k = 5 then decide (1 ≤ a ∧ a ≤ n ∧ b = 0)
  else false
def guests (n : Int) : Bool := decide (1 ≤ n ∧ n ≤ 5)

theorem wrap_one : wrap64 1 = 1 := wrap_id (by omega) (by omega)
theorem wrap_zero : wrap64 0 = 0 := wrap_id (by omega) (by omega)
/-- What many rounds tell, as 'from some number on'. -/
theorem ev_of {α : Type} {g : Nat → Option α} {r : α} (n : Nat) (h : ∀ k, n ≤ k → g k = some r) : Ev g r := ⟨n, h⟩
theorem Ev.ite_pos {α : Type} {c : Prop} [Decidable c] {g f : Nat → Option α} {r : α} (hc : c) (h : Ev g r) : Ev (fun k => if c then g k else f k) r := by
  simp only [if_pos hc]; exact h
theorem Ev.ite_neg {α : Type} {c : Prop} [Decidable c] {g f : Nat → Option α} {r : α} (hc : ¬ c) (h : Ev f r) : Ev (fun k => if c then g k else f k) r := by
  simp only [if_neg hc]; exact h
theorem Ev.bind' {α β : Type} {o : Option α} {f : Nat → α → Option β} {a : α} {r : β} (h : o = some a) (k : Ev (fun n => f n a) r) : Ev (fun n => o.bind (f n)) r := by
  subst h; exact k
/-- A list is filled element by element. -/
theorem fill_loop {α β : Type} (g : Nat → List β → Int → Option (List β)) (f : α → β) (l : List α) (z : β) (hl : l.length ≤ 4611686018427387904) (m : Nat)
    (step : ∀ k acc (i : Nat) (h : i < l.length), m ≤ k → acc.length = l.length → g (k + 1) acc i = g k (acc.set i (f l[i])) (wrap64 ((i : Int) + 1)))
    (done : ∀ k acc, acc.length = l.length → g (k + 1) acc (l.length : Int) = some acc) : ∀ k, l.length + m < k → g k (List.replicate l.length z) 0 = some (l.map f) := by
  have key : ∀ d k (i : Nat) acc, i + d = l.length → d + m < k → acc.length = l.length → (∀ j (h : j < i) (h' : j < acc.length) (h'' : j < l.length), acc[j] = f l[j]) → g k acc i = some (l.map f) := by
    intro d
    induction d with
    | zero =>
      intro k i acc hi hk ha hj
      obtain ⟨k, rfl⟩ : ∃ m, k = m + 1 := ⟨k - 1, by omega⟩
      obtain rfl : i = l.length := by omega
      rw [done k acc ha]
      congr 1
      apply List.ext_getElem (by simp [ha])
      intro j h1 h2
      rw [hj j (by omega) h1 (by omega)]; simp
    | succ d ih =>
      intro k i acc hi hk ha hj
      obtain ⟨k, rfl⟩ : ∃ m, k = m + 1 := ⟨k - 1, by omega⟩
      have hlt : i < l.length := by omega
      rw [step k acc i hlt (by omega) ha, wrap_id (by omega) (by omega)]
      refine ih k (i + 1) _ (by omega) (by omega) (by simp [ha]) ?_
      intro j h h' h''
      by_cases e : j = i
      · subst e; simp
      · rw [List.getElem_set_ne (by omega)]
        exact hj j (by omega) (by simpa using h') h''
  intro k hk
  exact key l.length k 0 _ (by omega) hk (by simp) (fun j h => absurd h (by omega))
/-- A loop over all indices that goes on while a test holds. -/
theorem all_loop (g : Nat → Int → Option Bool) (n : Nat) (p : Nat → Bool) (hl : n ≤ 4611686018427387904) (m : Nat)
    (step : ∀ k (i : Nat), i < n → m ≤ k → g (k + 1) i = if p i = true then g k (wrap64 ((i : Int) + 1)) else some false)
    (done : ∀ k, g (k + 1) (n : Int) = some true) : ∀ k, n + m < k → g k 0 = some ((List.range n).all p) := by
  have key : ∀ d k (i : Nat), i + d = n → d + m < k → ((List.range i).all p = true) → g k i = some ((List.range n).all p) := by
    intro d
    induction d with
    | zero =>
      intro k i hi hk hp
      obtain ⟨k, rfl⟩ : ∃ m, k = m + 1 := ⟨k - 1, by omega⟩
      obtain rfl : i = n := by omega
      rw [done, hp]
    | succ d ih =>
      intro k i hi hk hp
      obtain ⟨k, rfl⟩ : ∃ m, k = m + 1 := ⟨k - 1, by omega⟩
      rw [step k i (by omega) (by omega)]
      cases h : p i with
      | true =>
        rw [if_pos rfl, wrap_id (by omega) (by omega)]
        refine ih k (i + 1) (by omega) (by omega) ?_
        rw [List.range_succ, List.all_append, hp]; simp [h]
      | false =>
        rw [if_neg (by simp)]
        congr 1
        symm
        rw [List.all_eq_false]
        exact ⟨i, List.mem_range.2 (by omega), by simp [h]⟩
  intro k hk
  exact key n k 0 (by omega) hk (by simp)
theorem range_all {α : Type} (l : List α) (d : α) (p : α → Bool) : ((List.range l.length).all fun i => p (l.getD i d)) = l.all p := by
  rw [Bool.eq_iff_iff, List.all_eq_true, List.all_eq_true]
  constructor
  · intro h x hx
    obtain ⟨i, hi, rfl⟩ := List.getElem_of_mem hx
    have := h i (List.mem_range.2 hi)
    simpa [List.getD, List.getElem?_eq_getElem hi] using this
  · intro h i hi
    have hi := List.mem_range.1 hi
    simp [List.getD, List.getElem?_eq_getElem hi, h]
end Go.Proofs.Ytgonmfmgonfdcaa.Base
