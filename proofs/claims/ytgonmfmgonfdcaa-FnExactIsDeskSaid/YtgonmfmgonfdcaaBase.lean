/- Plain lemmas of this session that speak of no program: numbers that do not wrap, rounds, lists. -/
import Derived.RowKit
import Derived.Test.YtgonmfmgonfdcaaWWords
import Derived.Test.YtgonmfmgonfdcaaWMore
namespace Go.Proofs.Ytgonmfmgonfdcaa.Base
open Go.RowKit Go.Proofs.YtgonmfmgonfdcaaW.PrintWords

theorem wrap_id {x : Int} (h0 : -9223372036854775808 ≤ x) (h1 : x ≤ 9223372036854775807) : wrap64 x = x := by unfold wrap64; omega

/-- A clue of n people, as numbers. -/
def clueI (n k a b : Int) : Bool :=
  if k = 0 ∨ k = 1 then decide (0 ≤ a ∧ b ≤ n - 1 ∧ a < b)
  else if k = 2 then decide (0 ≤ a ∧ a ≤ n - 1 ∧ 0 ≤ b ∧ b ≤ n - 1)
  else if k = 3 then decide (0 ≤ a ∧ a ≤ n * (n - 1) / 2 ∧ b = 0)
  else if k = 4 then decide (0 ≤ a ∧ a ≤ 10 ∧ b = 0)
  else if k = 5 then decide (1 ≤ a ∧ a ≤ n ∧ b = 0)
  else false
def guests (n : Int) : Bool := decide (1 ≤ n ∧ n ≤ 5)

theorem wrap_one : wrap64 1 = 1 := wrap_id (by omega) (by omega)
theorem wrap_two : wrap64 2 = 2 := wrap_id (by omega) (by omega)
theorem wrap_zero : wrap64 0 = 0 := wrap_id (by omega) (by omega)
/-- A number of people. -/
def crowd (n : Int) : Bool := decide (0 ≤ n ∧ n ≤ 12)
end Go.Proofs.Ytgonmfmgonfdcaa.Base
