/-
  No cell of these rows narrows 'for every input' (looked for: loops, veiled, ifaces, maps, wideKeys, modest, calm, conditions, laid).
  DERIVED. THE GIVEN ROWS OF THIS SEAT. 3 by the template 'for every input the law returns true; each argument reads behind the call as it read before'; 0 by the template 'total and deterministic' (their statements: YtjpfbkkikcpmhaaTotals.lean).
  GIVEN WITH THE SEED: the statements are not yours to turn. If you find one false, say at which input.
  Laid BY PROGRAM, IN A SANDBOX (cutbox-rows.mjs): the forced cells as the released guide's own fill.sh prints them over the translation 1d9d71905740afca… (all of the seat's roots in one cut). By AI agents, Wed Nov 11 2026. No macro, syntax, notation, axiom, sorry.
-/
import Derived.Test.YtjpfbkkikcpmhaaChecked
import GoSem.Claim
import GoSem.ClaimJoined
import GoSem.ClaimMapViews
import Derived.JoinedTies
import Derived.KernelRfl
namespace Go.Proofs.Ytjpfbkkikcpmhaa
/- THE CELL 'sum', in the pinned program and in every row, IS THE sha256 OF THE DUMP (.gsa) THAT YtjpfbkkikcpmhaaProg.lean LOADS. Nothing in Lean hashes anything: it is a label: what it is worth is what the hold of that sum in a sandbox is worth. -/
noncomputable def Try.pinned : Pinned := { name := "ytjpfbkkikcpmhaa", sum := "1d9d71905740afcaf3b4374d35649a8b06a0eada189ecd6a827ee4a686f0bc1a", checked := Try.checked }
namespace Rows
def none {H : Type} : Left H := { results := [], args := [] }

/-- 'laws.FnExactStrangersBeside': WHATEVER THE INPUT: true; the input reads as it did. -/
def fnExactStrangersBesideSpec : ChangeSpec := { name := "fnExactStrangersBeside", fn := fun _ => fun
  | [d1, d2] => { results := [.lit (.bool true)], args := [d1, d2] }
  | _ => none }
def fnExactStrangersBesideRow : OpenClaim := { program := "ytjpfbkkikcpmhaa", sum := "1d9d71905740afcaf3b4374d35649a8b06a0eada189ecd6a827ee4a686f0bc1a", func := "loop.example/g01257/laws.FnExactStrangersBeside", spec := "fnExactStrangersBeside", unfollowed := true, recurses := true, apart := false }
def FnExactStrangersBesideSaid : Prop := fnExactStrangersBesideRow.holds Try.pinned (OpenSpec.ofChange fnExactStrangersBesideSpec)

/-- ITS FALSE NEIGHBOUR: 'it returns false'. Refute it at one input. -/
def fnExactStrangersBesideWrong : ChangeSpec := { name := "fnExactStrangersBeside", fn := fun _ => fun
  | [d1, d2] => { results := [.lit (.bool false)], args := [d1, d2] }
  | _ => none }
def FnExactStrangersBesideWrongFalsely : Prop := fnExactStrangersBesideRow.holds Try.pinned (OpenSpec.ofChange fnExactStrangersBesideWrong)

/-- 'laws.FnExactMendSeats': WHATEVER THE INPUT: true; the input reads as it did. -/
def fnExactMendSeatsSpec : ChangeSpec := { name := "fnExactMendSeats", fn := fun _ => fun
  | [d1, d2] => { results := [.lit (.bool true)], args := [d1, d2] }
  | _ => none }
def fnExactMendSeatsRow : OpenClaim := { program := "ytjpfbkkikcpmhaa", sum := "1d9d71905740afcaf3b4374d35649a8b06a0eada189ecd6a827ee4a686f0bc1a", func := "loop.example/g01257/laws.FnExactMendSeats", spec := "fnExactMendSeats", unfollowed := true, recurses := true, apart := false }
def FnExactMendSeatsSaid : Prop := fnExactMendSeatsRow.holds Try.pinned (OpenSpec.ofChange fnExactMendSeatsSpec)

/-- ITS FALSE NEIGHBOUR: 'it returns false'. Refute it at one input. -/
def fnExactMendSeatsWrong : ChangeSpec := { name := "fnExactMendSeats", fn := fun _ => fun
  | [d1, d2] => { results := [.lit (.bool false)], args := [d1, d2] }
  | _ => none }
def FnExactMendSeatsWrongFalsely : Prop := fnExactMendSeatsRow.holds Try.pinned (OpenSpec.ofChange fnExactMendSeatsWrong)

/-- 'laws.FnExactMendAll': WHATEVER THE INPUT: true; the input reads as it did. -/
def fnExactMendAllSpec : ChangeSpec := { name := "fnExactMendAll", fn := fun _ => fun
  | [d1, d2] => { results := [.lit (.bool true)], args := [d1, d2] }
  | _ => none }
def fnExactMendAllRow : OpenClaim := { program := "ytjpfbkkikcpmhaa", sum := "1d9d71905740afcaf3b4374d35649a8b06a0eada189ecd6a827ee4a686f0bc1a", func := "loop.example/g01257/laws.FnExactMendAll", spec := "fnExactMendAll", unfollowed := true, recurses := true, apart := false }
def FnExactMendAllSaid : Prop := fnExactMendAllRow.holds Try.pinned (OpenSpec.ofChange fnExactMendAllSpec)

/-- ITS FALSE NEIGHBOUR: 'it returns false'. Refute it at one input. -/
def fnExactMendAllWrong : ChangeSpec := { name := "fnExactMendAll", fn := fun _ => fun
  | [d1, d2] => { results := [.lit (.bool false)], args := [d1, d2] }
  | _ => none }
def FnExactMendAllWrongFalsely : Prop := fnExactMendAllRow.holds Try.pinned (OpenSpec.ofChange fnExactMendAllWrong)

/- THE SECOND FORM. 'bulk': how many values and letters a reading holds, each counted each time it is reached (what is shared counts as often as it is met; a slice's spare places count too). A statement '..UptoSaid' is the law's where the arguments, and the package variables that the reading takes, are together of bulk at most 1048576: NARROWER than '..Said'. Prove '..Said' where nothing that the law and all that it calls make is longer than what came in: it says more and counts as full. Else prove '..UptoSaid'. A law counts once. -/
mutual
def uptoBulk {H : Type} : DataW H → Nat
  | .lit (.string bytes) => bytes.length + 1
  | .lit _ => 1
  | .nil => 1
  | .ptr d => uptoBulk d + 1
  | .slice elems spare => uptoBulkAll elems + uptoBulkAll spare + 1
  | .agg parts => uptoBulkAll parts + 1
  | .iface _ d => uptoBulk d + 1
  | .map entries => uptoBulkEntries entries + 1
  | .held _ => 1
def uptoBulkAll {H : Type} : List (DataW H) → Nat
  | [] => 0
  | d :: r => uptoBulk d + uptoBulkAll r
def uptoBulkEntries {H : Type} : List (Lit × DataW H) → Nat
  | [] => 0
  | x :: r => uptoBulkEntry x + uptoBulkEntries r
def uptoBulkEntry {H : Type} : Lit × DataW H → Nat
  | (.string bytes, d) => bytes.length + uptoBulk d + 1
  | (_, d) => uptoBulk d + 1
 end
def uptoSmall : (H : Type) → List (DataW H) → Bool := fun _ ds => decide (uptoBulkAll ds ≤ 1048576)
def OpenSpec.upto (s : _root_.Go.ChangeSpec) : _root_.Go.OpenSpec := { _root_.Go.OpenSpec.ofChange s with cond := some uptoSmall }

/-- 'laws.FnExactStrangersBeside', WHERE WHAT IT READS IS OF BULK AT MOST 1048576: true; the input reads as it did. -/
def fnExactStrangersBesideUptoRow : OpenClaim := { program := "ytjpfbkkikcpmhaa", sum := "1d9d71905740afcaf3b4374d35649a8b06a0eada189ecd6a827ee4a686f0bc1a", func := "loop.example/g01257/laws.FnExactStrangersBeside", spec := "fnExactStrangersBeside", unfollowed := true, recurses := true, apart := false, narrowed := true }
def FnExactStrangersBesideUptoSaid : Prop := fnExactStrangersBesideUptoRow.holds Try.pinned (OpenSpec.upto fnExactStrangersBesideSpec)

/-- 'laws.FnExactMendSeats', WHERE WHAT IT READS IS OF BULK AT MOST 1048576: true; the input reads as it did. -/
def fnExactMendSeatsUptoRow : OpenClaim := { program := "ytjpfbkkikcpmhaa", sum := "1d9d71905740afcaf3b4374d35649a8b06a0eada189ecd6a827ee4a686f0bc1a", func := "loop.example/g01257/laws.FnExactMendSeats", spec := "fnExactMendSeats", unfollowed := true, recurses := true, apart := false, narrowed := true }
def FnExactMendSeatsUptoSaid : Prop := fnExactMendSeatsUptoRow.holds Try.pinned (OpenSpec.upto fnExactMendSeatsSpec)

/-- 'laws.FnExactMendAll', WHERE WHAT IT READS IS OF BULK AT MOST 1048576: true; the input reads as it did. -/
def fnExactMendAllUptoRow : OpenClaim := { program := "ytjpfbkkikcpmhaa", sum := "1d9d71905740afcaf3b4374d35649a8b06a0eada189ecd6a827ee4a686f0bc1a", func := "loop.example/g01257/laws.FnExactMendAll", spec := "fnExactMendAll", unfollowed := true, recurses := true, apart := false, narrowed := true }
def FnExactMendAllUptoSaid : Prop := fnExactMendAllUptoRow.holds Try.pinned (OpenSpec.upto fnExactMendAllSpec)

end Rows
end Go.Proofs.Ytjpfbkkikcpmhaa
