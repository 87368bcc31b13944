/- Plain lemmas of this session that speak of no program: numbers that do not wrap, rounds, lists. -/
import Derived.RowKit
import Derived.Lib.TrailingZeros
import Derived.Laws.BitsAllLaws
import Derived.Lib.BitFns
import Derived.Lib.Tables
import Derived.Lib.SliceRun
import Derived.Test.YtbjmkkgejekpnaaDoorWWords
import Derived.Test.YtbjmkkgejekpnaaDoorWMore
namespace Go.Proofs.YtbjmkkgejekpnaaDoor.Base
open Go.RowKit Go.Proofs.YtbjmkkgejekpnaaDoorW.PrintWords

theorem wrap_id {x : Int} (h0 : -9223372036854775808 ≤ x) (h1 : x ≤ 9223372036854775807) : wrap64 x = x := by unfold wrap64; omega

/-- A clue of n people, as numbers. -/
def clueI (n k a b : Int) : Bool :=
  if k = 0 ∨ k = 1 then decide (0 ≤ a ∧ b ≤ n - 1 ∧ a < b)
  else if k = 2 then decide (0 ≤ a ∧ a ≤ n - 1 ∧ 0 ≤ b ∧ b ≤ n - 1)
  else if k = 3 then decide (0 ≤ a ∧ a ≤ n * (n - 1) / 2 ∧ b = 0)
  else if k = 4 then decide (0 ≤ a ∧ a ≤ 10 ∧ b = 0)
  else if k = 5 then decide (1 ≤ a ∧ a ≤ n ∧ b = 0)
  else false
def guests (n : Int) : Bool := decide (1 ≤ n ∧ n ≤ 5)

theorem wrap_one : wrap64 1 = 1 := wrap_id (by omega) (by omega)
theorem wrap_two : wrap64 2 = 2 := wrap_id (by omega) (by omega)
theorem wrap_zero : wrap64 0 = 0 := wrap_id (by omega) (by omega)
/-- A number of people. -/
def crowd (n : Int) : Bool := decide (0 ≤ n ∧ n ≤ 12)
/-- The table of math/bits, as its initialiser lays it. -/
def GTab (g : Nat) (w : World) : Prop := ∀ j, j < 32 → w.cell? ⟨g, j, none⟩ = some (.int .u8 (Go.Lib.deBruijn32tab.getD j 0))
theorem GTab.up {g : Nat} {w w' : World} (h : GTab g w) (hb : Below w.heap.size w w') : GTab g w' := fun j hj => (hb.cell (World.block_lt_of_cell? w _ (h j hj))).trans (h j hj)
def ctz16 (x : Int) : Int := (Go.Lib.ctz 16 x.toNat : Nat)
theorem tz16_key (x : Nat) (hx : x < 65536) (hx0 : x ≠ 0) :
    ∃ idx : Nat, bits BinOp.and IntKind.u16 (x : Int) (IntKind.u16.wrap (-(x : Int))) % 4294967296 * 125613361 % 4294967296 / 134217728 = (idx : Int) ∧ idx < 32 ∧ Go.Lib.deBruijn32tab.getD idx 0 = Go.Lib.ctz 16 x ∧ Go.Lib.ctz 16 x < 16 := by
  obtain ⟨hlow, hk⟩ := Go.Lib.lowest_bit 16 x hx0 (by simpa using hx)
  obtain ⟨h1, h2⟩ := Go.Lib.deBruijn32_at (Go.Lib.ctz 16 x) (by omega)
  refine ⟨_, ?_, h1, h2, hk⟩
  have e1 : IntKind.u16.wrap (-(x : Int)) = ((65536 - x : Nat) : Int) := by rw [IntKind.wrap_u16]; omega
  rw [e1, u16_and_nat x _ hx (by omega), show (65536 : Nat) = 2 ^ 16 from rfl, hlow]
  have ha : 2 ^ Go.Lib.ctz 16 x < 4294967296 := Nat.lt_of_lt_of_le (Nat.pow_lt_pow_right (by omega) hk) (by decide)
  generalize 2 ^ Go.Lib.ctz 16 x = a at ha ⊢
  omega
/-- how many bits of x below n are set -/
def popN (n x : Nat) : Nat := ((List.range n).filter fun i => x.testBit i).length
theorem popN_byte : ∀ b : Nat, b < 256 → Go.Lib.pop8 (b : Int) = (popN 8 b : Nat) := by
  have h : ((List.range 256).all fun b => Go.Lib.pop8 (b : Int) == ((popN 8 b : Nat) : Int)) = true := by decide +kernel
  intro b hb
  simpa using List.all_eq_true.1 h b (List.mem_range.2 hb)
theorem popN_split (x : Nat) : popN 16 x = popN 8 (x / 256) + popN 8 (x % 256) := by
  unfold popN
  have e : List.range 16 = List.range 8 ++ (List.range 8).map (8 + ·) := by decide
  rw [e, List.filter_append, List.length_append, List.filter_map, List.length_map, Nat.add_comm]
  congr 1
  · congr 1
    apply List.filter_congr
    intro i _
    simp only [Function.comp, show (256 : Nat) = 2 ^ 8 from rfl, Nat.testBit_div_two_pow]
    rw [Nat.add_comm]
  · congr 1
    apply List.filter_congr
    intro i hi
    have : i < 8 := by simpa using hi
    rw [show (256 : Nat) = 2 ^ 8 from rfl, Nat.testBit_mod_two_pow]
    simp [this]
theorem popN_le (n x : Nat) : popN n x ≤ n := by
  unfold popN
  exact Nat.le_trans (List.length_filter_le _ _) (by simp)
end Go.Proofs.YtbjmkkgejekpnaaDoor.Base
