/- Plain lemmas of this session on loops with rounds, and on lists: of no program. -/
import Derived.Test.YtbjmkkgejekpnaaDoorBase
import Derived.Test.YtbjmkkgejekpnaaDoorWMore
namespace Go.Proofs.YtbjmkkgejekpnaaDoor.Base
open Go.RowKit Go.Proofs.YtbjmkkgejekpnaaDoorW.PrintWords
theorem ev_of {α : Type} {g : Nat → Option α} {r : α} (n : Nat) (h : ∀ k, n ≤ k → g k = some r) : Ev g r := ⟨n, h⟩
theorem Ev.ite_pos {α : Type} {c : Prop} [Decidable c] {g f : Nat → Option α} {r : α} (hc : c) (h : Ev g r) : Ev (fun k => if c then g k else f k) r := by
  simp only [if_pos hc]; exact h
theorem Ev.ite_neg {α : Type} {c : Prop} [Decidable c] {g f : Nat → Option α} {r : α} (hc : ¬ c) (h : Ev f r) : Ev (fun k => if c then g k else f k) r := by
  simp only [if_neg hc]; exact h
theorem Ev.bind' {α β : Type} {o : Option α} {f : Nat → α → Option β} {a : α} {r : β} (h : o = some a) (k : Ev (fun n => f n a) r) : Ev (fun n => o.bind (f n)) r := by
  subst h; exact k
theorem Ev_succ {α : Type} {g : Nat → Option α} {r : α} (h : Ev (fun k => g (k + 1)) r) : Ev g r := Ev.step (f := fun k => g (k + 1)) (fun _ => rfl) h
theorem all_loop_fin (g : Nat → Int → Option Bool) (n : Nat) (p : Nat → Bool) (fin : Bool) (hl : n ≤ 4611686018427387904) (m : Nat)
    (step : ∀ k (i : Nat), i < n → m ≤ k → g (k + 1) i = if p i = true then g k (wrap64 ((i : Int) + 1)) else some false)
    (done : ∀ k, m ≤ k → g (k + 1) (n : Int) = some fin) : ∀ k, n + m < k → g k 0 = some ((List.range n).all p && fin) := by
  have key : ∀ d k (i : Nat), i + d = n → d + m < k → ((List.range i).all p = true) → g k i = some ((List.range n).all p && fin) := by
    intro d
    induction d with
    | zero =>
      intro k i hi hk hp
      obtain ⟨k, rfl⟩ : ∃ m, k = m + 1 := ⟨k - 1, by omega⟩
      obtain rfl : i = n := by omega
      rw [done k (by omega), hp]; rfl
    | succ d ih =>
      intro k i hi hk hp
      obtain ⟨k, rfl⟩ : ∃ m, k = m + 1 := ⟨k - 1, by omega⟩
      rw [step k i (by omega) (by omega)]
      cases h : p i with
      | true =>
        rw [if_pos rfl, wrap_id (by omega) (by omega)]
        refine ih k (i + 1) (by omega) (by omega) ?_
        rw [List.range_succ, List.all_append, hp]; simp [h]
      | false =>
        rw [if_neg (by simp)]
        congr 1
        symm
        rw [Bool.and_eq_false_iff]
        left
        rw [List.all_eq_false]
        exact ⟨i, List.mem_range.2 (by omega), by simp [h]⟩
  intro k hk
  exact key n k 0 (by omega) hk (by simp)
theorem all_loop (g : Nat → Int → Option Bool) (n : Nat) (p : Nat → Bool) (hl : n ≤ 4611686018427387904) (m : Nat)
    (step : ∀ k (i : Nat), i < n → m ≤ k → g (k + 1) i = if p i = true then g k (wrap64 ((i : Int) + 1)) else some false)
    (done : ∀ k, g (k + 1) (n : Int) = some true) : ∀ k, n + m < k → g k 0 = some ((List.range n).all p) := by
  intro k hk
  rw [all_loop_fin g n p true hl m step (fun k _ => done k) k hk, Bool.and_true]
def rk (n A B : Int) : Int := A * (2 * n - A - 1) + 2 * (B - A - 1)
theorem tri (n A : Int) : (A + 1) * (2 * n - (A + 1) - 1) = A * (2 * n - A - 1) + 2 * (n - A - 1) := by
  have e : (A + 1) * (2 * n - (A + 1) - 1) = A * (2 * n - (A + 1) - 1) + (2 * n - (A + 1) - 1) := by rw [Int.add_mul]; omega
  have f : A * (2 * n - (A + 1) - 1) = A * (2 * n - A - 1) - A := by
    rw [show 2 * n - (A + 1) - 1 = (2 * n - A - 1) - 1 from by omega, Int.mul_sub]; omega
  omega
theorem tri_mono (n A : Int) (d : Nat) (hd : A + d ≤ n) : A * (2 * n - A - 1) ≤ (A + d) * (2 * n - (A + d) - 1) := by
  induction d with
  | zero => simp
  | succ d ih =>
    have := ih (by omega)
    have t := tri n (A + d)
    rw [show A + ((d + 1 : Nat) : Int) = A + d + 1 from by omega, t]
    omega
theorem rk_lt (n A B A' B' : Int) (h : A < B ∧ B < n) (h' : A' < B' ∧ B' < n) (hl : A < A' ∨ A = A' ∧ B < B') : rk n A B + 2 ≤ rk n A' B' := by
  unfold rk
  rcases hl with hl | ⟨rfl, hl⟩
  · obtain ⟨d, rfl⟩ : ∃ d : Nat, A' = A + 1 + d := ⟨(A' - A - 1).toNat, by omega⟩
    have m := tri_mono n (A + 1) d (by omega)
    rw [tri] at m
    omega
  · omega
theorem rk_max (n A B : Int) (_h0 : 0 ≤ A) (h : A < B ∧ B < n) : rk n A B + 2 ≤ n * (n - 1) := by
  unfold rk
  obtain ⟨d, hd⟩ : ∃ d : Nat, n = A + 1 + d := ⟨(n - A - 1).toNat, by omega⟩
  have m := tri_mono n (A + 1) d (by omega)
  rw [tri, ← hd] at m
  have e : n * (2 * n - n - 1) = n * (n - 1) := by rw [show 2 * n - n - 1 = n - 1 from by omega]
  omega
theorem pairs_bound (n : Int) (len : Nat) (a b : Nat → Int) (h : ∀ i, i < len → 0 ≤ a i ∧ a i < b i ∧ b i < n) (hs : ∀ i, i + 1 < len → a i < a (i + 1) ∨ a i = a (i + 1) ∧ b i < b (i + 1)) (hn : 0 ≤ n) : 2 * (len : Int) ≤ n * (n - 1) := by
  have key : ∀ i, i < len → 2 * (i : Int) ≤ rk n (a i) (b i) := by
    intro i
    induction i with
    | zero =>
      intro hi
      have := h 0 hi
      unfold rk
      have : 0 ≤ a 0 * (2 * n - a 0 - 1) := Int.mul_nonneg (by omega) (by omega)
      omega
    | succ i ih =>
      intro hi
      have := ih (by omega)
      have := rk_lt n _ _ _ _ (h i (by omega)).2 (h (i + 1) hi).2 (hs i hi)
      omega
  rcases Nat.eq_zero_or_pos len with rfl | hl
  · have : 0 ≤ n * (n - 1) := by
      rcases Int.le_iff_lt_or_eq.1 hn with h | rfl
      · exact Int.mul_nonneg hn (by omega)
      · simp
    simpa using this
  · have := key (len - 1) (by omega)
    have := rk_max n _ _ (h (len - 1) (by omega)).1 (h (len - 1) (by omega)).2
    omega
end Go.Proofs.YtbjmkkgejekpnaaDoor.Base
