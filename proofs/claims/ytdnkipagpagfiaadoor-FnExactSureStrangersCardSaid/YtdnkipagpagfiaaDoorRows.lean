/-
  NARROWER THAN 'FOR EVERY INPUT', by the rows' own cells (each row's printed sentence says how): FnExactDoesFit: laid · FnExactMakePuzzle: laid · FnExactCountSolutions: laid · FnExactIsSolved: laid · FnExactLeftByClues: laid · FnExactNeedlessClues: laid · FnExactHarderPuzzle: laid · FnExactFirstSolution: laid · FnExactSolutions: laid · FnExactSurePairs: laid · FnExactSureStrangers: laid.
  DERIVED. THE GIVEN ROWS OF THIS SEAT. 11 by the template 'for every input the law returns true; each argument reads behind the call as it read before'; 0 by the template 'total and deterministic' (their statements: YtdnkipagpagfiaaDoorTotals.lean).
  GIVEN WITH THE SEED: the statements are not yours to turn. If you find one false, say at which input.
  Laid BY PROGRAM, IN A SANDBOX (cutbox-rows.mjs): the forced cells as the released guide's own fill.sh prints them over the translation d888fd2491e15344… (all of the seat's roots in one cut). By AI agents, Wed Nov 11 2026. No macro, syntax, notation, axiom, sorry.
-/
import Derived.Test.YtdnkipagpagfiaaDoorChecked
import GoSem.Claim
import GoSem.ClaimJoined
import GoSem.ClaimMapViews
import Derived.JoinedTies
import Derived.KernelRfl
namespace Go.Proofs.YtdnkipagpagfiaaDoor
/- THE CELL 'sum', in the pinned program and in every row, IS THE sha256 OF THE DUMP (.gsa) THAT YtdnkipagpagfiaaDoorProg.lean LOADS. Nothing in Lean hashes anything: it is a label: what it is worth is what the hold of that sum in a sandbox is worth. -/
noncomputable def Tryd.pinned : Pinned := { name := "ytdnkipagpagfiaadoor", sum := "d888fd2491e153442c91ab03be90ef7edf9b1655aef9eb3ea67bcf4c1d96df85", checked := Tryd.checked }
namespace Rows
def none {H : Type} : Left H := { results := [], args := [] }

/- WHAT THE LISTED PACKAGE-LEVEL VARIABLES READ AS WHEN THE CALL BEGINS. Each datum BY PROGRAM (the guide's laid-datum.mjs) off the statement by which the dump's own 'gosem.cut.vars' lays the variable. In a bare row this is a premise. The card (YtdnkipagpagfiaaDoorCards.lean) ties it to the program's text. -/
def laid_math_bits_deBruijn32tab {H : Type} : DataW H := .agg [.lit (.int .u8 0), .lit (.int .u8 1), .lit (.int .u8 28), .lit (.int .u8 2), .lit (.int .u8 29), .lit (.int .u8 14), .lit (.int .u8 24), .lit (.int .u8 3), .lit (.int .u8 30), .lit (.int .u8 22), .lit (.int .u8 20), .lit (.int .u8 15), .lit (.int .u8 25), .lit (.int .u8 17), .lit (.int .u8 4), .lit (.int .u8 8), .lit (.int .u8 31), .lit (.int .u8 27), .lit (.int .u8 13), .lit (.int .u8 23), .lit (.int .u8 21), .lit (.int .u8 19), .lit (.int .u8 16), .lit (.int .u8 7), .lit (.int .u8 26), .lit (.int .u8 12), .lit (.int .u8 18), .lit (.int .u8 6), .lit (.int .u8 11), .lit (.int .u8 5), .lit (.int .u8 10), .lit (.int .u8 9)]

/-- 'laws.FnExactDoesFit': WHATEVER THE INPUT: true; the input reads as it did. -/
def fnExactDoesFitSpec : ChangeSpec := { name := "fnExactDoesFit", fn := fun _ => fun
  | [d1, d2] => { results := [.lit (.bool true)], args := [d1, d2] }
  | _ => none }
def fnExactDoesFitRow : OpenClaim := { program := "ytdnkipagpagfiaadoor", sum := "d888fd2491e153442c91ab03be90ef7edf9b1655aef9eb3ea67bcf4c1d96df85", func := "loop.example/g01257/laws.FnExactDoesFit", spec := "fnExactDoesFit", unfollowed := true, recurses := true, named := ["math/bits.deBruijn32tab"], apart := false, laid := [("math/bits.deBruijn32tab", laid_math_bits_deBruijn32tab)] }
def FnExactDoesFitSaid : Prop := fnExactDoesFitRow.holds Tryd.pinned (OpenSpec.ofChange fnExactDoesFitSpec)

/-- ITS FALSE NEIGHBOUR: 'it returns false'. Refute it at one input. -/
def fnExactDoesFitWrong : ChangeSpec := { name := "fnExactDoesFit", fn := fun _ => fun
  | [d1, d2] => { results := [.lit (.bool false)], args := [d1, d2] }
  | _ => none }
def FnExactDoesFitWrongFalsely : Prop := fnExactDoesFitRow.holds Tryd.pinned (OpenSpec.ofChange fnExactDoesFitWrong)

/-- 'laws.FnExactMakePuzzle': WHATEVER THE INPUT: true; the input reads as it did. -/
def fnExactMakePuzzleSpec : ChangeSpec := { name := "fnExactMakePuzzle", fn := fun _ => fun
  | [d1, d2, d3] => { results := [.lit (.bool true)], args := [d1, d2, d3] }
  | _ => none }
def fnExactMakePuzzleRow : OpenClaim := { program := "ytdnkipagpagfiaadoor", sum := "d888fd2491e153442c91ab03be90ef7edf9b1655aef9eb3ea67bcf4c1d96df85", func := "loop.example/g01257/laws.FnExactMakePuzzle", spec := "fnExactMakePuzzle", unfollowed := true, recurses := true, named := ["math/bits.deBruijn32tab"], apart := false, laid := [("math/bits.deBruijn32tab", laid_math_bits_deBruijn32tab)] }
def FnExactMakePuzzleSaid : Prop := fnExactMakePuzzleRow.holds Tryd.pinned (OpenSpec.ofChange fnExactMakePuzzleSpec)

/-- ITS FALSE NEIGHBOUR: 'it returns false'. Refute it at one input. -/
def fnExactMakePuzzleWrong : ChangeSpec := { name := "fnExactMakePuzzle", fn := fun _ => fun
  | [d1, d2, d3] => { results := [.lit (.bool false)], args := [d1, d2, d3] }
  | _ => none }
def FnExactMakePuzzleWrongFalsely : Prop := fnExactMakePuzzleRow.holds Tryd.pinned (OpenSpec.ofChange fnExactMakePuzzleWrong)

/-- 'laws.FnExactCountSolutions': WHATEVER THE INPUT: true; the input reads as it did. -/
def fnExactCountSolutionsSpec : ChangeSpec := { name := "fnExactCountSolutions", fn := fun _ => fun
  | [d] => { results := [.lit (.bool true)], args := [d] }
  | _ => none }
def fnExactCountSolutionsRow : OpenClaim := { program := "ytdnkipagpagfiaadoor", sum := "d888fd2491e153442c91ab03be90ef7edf9b1655aef9eb3ea67bcf4c1d96df85", func := "loop.example/g01257/laws.FnExactCountSolutions", spec := "fnExactCountSolutions", unfollowed := true, recurses := true, named := ["math/bits.deBruijn32tab"], apart := false, laid := [("math/bits.deBruijn32tab", laid_math_bits_deBruijn32tab)] }
def FnExactCountSolutionsSaid : Prop := fnExactCountSolutionsRow.holds Tryd.pinned (OpenSpec.ofChange fnExactCountSolutionsSpec)

/-- ITS FALSE NEIGHBOUR: 'it returns false'. Refute it at one input. -/
def fnExactCountSolutionsWrong : ChangeSpec := { name := "fnExactCountSolutions", fn := fun _ => fun
  | [d] => { results := [.lit (.bool false)], args := [d] }
  | _ => none }
def FnExactCountSolutionsWrongFalsely : Prop := fnExactCountSolutionsRow.holds Tryd.pinned (OpenSpec.ofChange fnExactCountSolutionsWrong)

/-- 'laws.FnExactIsSolved': WHATEVER THE INPUT: true; the input reads as it did. -/
def fnExactIsSolvedSpec : ChangeSpec := { name := "fnExactIsSolved", fn := fun _ => fun
  | [d] => { results := [.lit (.bool true)], args := [d] }
  | _ => none }
def fnExactIsSolvedRow : OpenClaim := { program := "ytdnkipagpagfiaadoor", sum := "d888fd2491e153442c91ab03be90ef7edf9b1655aef9eb3ea67bcf4c1d96df85", func := "loop.example/g01257/laws.FnExactIsSolved", spec := "fnExactIsSolved", unfollowed := true, recurses := true, named := ["math/bits.deBruijn32tab"], apart := false, laid := [("math/bits.deBruijn32tab", laid_math_bits_deBruijn32tab)] }
def FnExactIsSolvedSaid : Prop := fnExactIsSolvedRow.holds Tryd.pinned (OpenSpec.ofChange fnExactIsSolvedSpec)

/-- ITS FALSE NEIGHBOUR: 'it returns false'. Refute it at one input. -/
def fnExactIsSolvedWrong : ChangeSpec := { name := "fnExactIsSolved", fn := fun _ => fun
  | [d] => { results := [.lit (.bool false)], args := [d] }
  | _ => none }
def FnExactIsSolvedWrongFalsely : Prop := fnExactIsSolvedRow.holds Tryd.pinned (OpenSpec.ofChange fnExactIsSolvedWrong)

/-- 'laws.FnExactLeftByClues': WHATEVER THE INPUT: true; the input reads as it did. -/
def fnExactLeftByCluesSpec : ChangeSpec := { name := "fnExactLeftByClues", fn := fun _ => fun
  | [d] => { results := [.lit (.bool true)], args := [d] }
  | _ => none }
def fnExactLeftByCluesRow : OpenClaim := { program := "ytdnkipagpagfiaadoor", sum := "d888fd2491e153442c91ab03be90ef7edf9b1655aef9eb3ea67bcf4c1d96df85", func := "loop.example/g01257/laws.FnExactLeftByClues", spec := "fnExactLeftByClues", unfollowed := true, recurses := true, named := ["math/bits.deBruijn32tab"], apart := false, laid := [("math/bits.deBruijn32tab", laid_math_bits_deBruijn32tab)] }
def FnExactLeftByCluesSaid : Prop := fnExactLeftByCluesRow.holds Tryd.pinned (OpenSpec.ofChange fnExactLeftByCluesSpec)

/-- ITS FALSE NEIGHBOUR: 'it returns false'. Refute it at one input. -/
def fnExactLeftByCluesWrong : ChangeSpec := { name := "fnExactLeftByClues", fn := fun _ => fun
  | [d] => { results := [.lit (.bool false)], args := [d] }
  | _ => none }
def FnExactLeftByCluesWrongFalsely : Prop := fnExactLeftByCluesRow.holds Tryd.pinned (OpenSpec.ofChange fnExactLeftByCluesWrong)

/-- 'laws.FnExactNeedlessClues': WHATEVER THE INPUT: true; the input reads as it did. -/
def fnExactNeedlessCluesSpec : ChangeSpec := { name := "fnExactNeedlessClues", fn := fun _ => fun
  | [d] => { results := [.lit (.bool true)], args := [d] }
  | _ => none }
def fnExactNeedlessCluesRow : OpenClaim := { program := "ytdnkipagpagfiaadoor", sum := "d888fd2491e153442c91ab03be90ef7edf9b1655aef9eb3ea67bcf4c1d96df85", func := "loop.example/g01257/laws.FnExactNeedlessClues", spec := "fnExactNeedlessClues", unfollowed := true, recurses := true, named := ["math/bits.deBruijn32tab"], apart := false, laid := [("math/bits.deBruijn32tab", laid_math_bits_deBruijn32tab)] }
def FnExactNeedlessCluesSaid : Prop := fnExactNeedlessCluesRow.holds Tryd.pinned (OpenSpec.ofChange fnExactNeedlessCluesSpec)

/-- ITS FALSE NEIGHBOUR: 'it returns false'. Refute it at one input. -/
def fnExactNeedlessCluesWrong : ChangeSpec := { name := "fnExactNeedlessClues", fn := fun _ => fun
  | [d] => { results := [.lit (.bool false)], args := [d] }
  | _ => none }
def FnExactNeedlessCluesWrongFalsely : Prop := fnExactNeedlessCluesRow.holds Tryd.pinned (OpenSpec.ofChange fnExactNeedlessCluesWrong)

/-- 'laws.FnExactHarderPuzzle': WHATEVER THE INPUT: true; the input reads as it did. -/
def fnExactHarderPuzzleSpec : ChangeSpec := { name := "fnExactHarderPuzzle", fn := fun _ => fun
  | [d] => { results := [.lit (.bool true)], args := [d] }
  | _ => none }
def fnExactHarderPuzzleRow : OpenClaim := { program := "ytdnkipagpagfiaadoor", sum := "d888fd2491e153442c91ab03be90ef7edf9b1655aef9eb3ea67bcf4c1d96df85", func := "loop.example/g01257/laws.FnExactHarderPuzzle", spec := "fnExactHarderPuzzle", unfollowed := true, recurses := true, named := ["math/bits.deBruijn32tab"], apart := false, laid := [("math/bits.deBruijn32tab", laid_math_bits_deBruijn32tab)] }
def FnExactHarderPuzzleSaid : Prop := fnExactHarderPuzzleRow.holds Tryd.pinned (OpenSpec.ofChange fnExactHarderPuzzleSpec)

/-- ITS FALSE NEIGHBOUR: 'it returns false'. Refute it at one input. -/
def fnExactHarderPuzzleWrong : ChangeSpec := { name := "fnExactHarderPuzzle", fn := fun _ => fun
  | [d] => { results := [.lit (.bool false)], args := [d] }
  | _ => none }
def FnExactHarderPuzzleWrongFalsely : Prop := fnExactHarderPuzzleRow.holds Tryd.pinned (OpenSpec.ofChange fnExactHarderPuzzleWrong)

/-- 'laws.FnExactFirstSolution': WHATEVER THE INPUT: true; the input reads as it did. -/
def fnExactFirstSolutionSpec : ChangeSpec := { name := "fnExactFirstSolution", fn := fun _ => fun
  | [d] => { results := [.lit (.bool true)], args := [d] }
  | _ => none }
def fnExactFirstSolutionRow : OpenClaim := { program := "ytdnkipagpagfiaadoor", sum := "d888fd2491e153442c91ab03be90ef7edf9b1655aef9eb3ea67bcf4c1d96df85", func := "loop.example/g01257/laws.FnExactFirstSolution", spec := "fnExactFirstSolution", unfollowed := true, recurses := true, named := ["math/bits.deBruijn32tab"], apart := false, laid := [("math/bits.deBruijn32tab", laid_math_bits_deBruijn32tab)] }
def FnExactFirstSolutionSaid : Prop := fnExactFirstSolutionRow.holds Tryd.pinned (OpenSpec.ofChange fnExactFirstSolutionSpec)

/-- ITS FALSE NEIGHBOUR: 'it returns false'. Refute it at one input. -/
def fnExactFirstSolutionWrong : ChangeSpec := { name := "fnExactFirstSolution", fn := fun _ => fun
  | [d] => { results := [.lit (.bool false)], args := [d] }
  | _ => none }
def FnExactFirstSolutionWrongFalsely : Prop := fnExactFirstSolutionRow.holds Tryd.pinned (OpenSpec.ofChange fnExactFirstSolutionWrong)

/-- 'laws.FnExactSolutions': WHATEVER THE INPUT: true; the input reads as it did. -/
def fnExactSolutionsSpec : ChangeSpec := { name := "fnExactSolutions", fn := fun _ => fun
  | [d] => { results := [.lit (.bool true)], args := [d] }
  | _ => none }
def fnExactSolutionsRow : OpenClaim := { program := "ytdnkipagpagfiaadoor", sum := "d888fd2491e153442c91ab03be90ef7edf9b1655aef9eb3ea67bcf4c1d96df85", func := "loop.example/g01257/laws.FnExactSolutions", spec := "fnExactSolutions", unfollowed := true, recurses := true, named := ["math/bits.deBruijn32tab"], apart := false, laid := [("math/bits.deBruijn32tab", laid_math_bits_deBruijn32tab)] }
def FnExactSolutionsSaid : Prop := fnExactSolutionsRow.holds Tryd.pinned (OpenSpec.ofChange fnExactSolutionsSpec)

/-- ITS FALSE NEIGHBOUR: 'it returns false'. Refute it at one input. -/
def fnExactSolutionsWrong : ChangeSpec := { name := "fnExactSolutions", fn := fun _ => fun
  | [d] => { results := [.lit (.bool false)], args := [d] }
  | _ => none }
def FnExactSolutionsWrongFalsely : Prop := fnExactSolutionsRow.holds Tryd.pinned (OpenSpec.ofChange fnExactSolutionsWrong)

/-- 'laws.FnExactSurePairs': WHATEVER THE INPUT: true; the input reads as it did. -/
def fnExactSurePairsSpec : ChangeSpec := { name := "fnExactSurePairs", fn := fun _ => fun
  | [d] => { results := [.lit (.bool true)], args := [d] }
  | _ => none }
def fnExactSurePairsRow : OpenClaim := { program := "ytdnkipagpagfiaadoor", sum := "d888fd2491e153442c91ab03be90ef7edf9b1655aef9eb3ea67bcf4c1d96df85", func := "loop.example/g01257/laws.FnExactSurePairs", spec := "fnExactSurePairs", unfollowed := true, recurses := true, named := ["math/bits.deBruijn32tab"], apart := false, laid := [("math/bits.deBruijn32tab", laid_math_bits_deBruijn32tab)] }
def FnExactSurePairsSaid : Prop := fnExactSurePairsRow.holds Tryd.pinned (OpenSpec.ofChange fnExactSurePairsSpec)

/-- ITS FALSE NEIGHBOUR: 'it returns false'. Refute it at one input. -/
def fnExactSurePairsWrong : ChangeSpec := { name := "fnExactSurePairs", fn := fun _ => fun
  | [d] => { results := [.lit (.bool false)], args := [d] }
  | _ => none }
def FnExactSurePairsWrongFalsely : Prop := fnExactSurePairsRow.holds Tryd.pinned (OpenSpec.ofChange fnExactSurePairsWrong)

/-- 'laws.FnExactSureStrangers': WHATEVER THE INPUT: true; the input reads as it did. -/
def fnExactSureStrangersSpec : ChangeSpec := { name := "fnExactSureStrangers", fn := fun _ => fun
  | [d] => { results := [.lit (.bool true)], args := [d] }
  | _ => none }
def fnExactSureStrangersRow : OpenClaim := { program := "ytdnkipagpagfiaadoor", sum := "d888fd2491e153442c91ab03be90ef7edf9b1655aef9eb3ea67bcf4c1d96df85", func := "loop.example/g01257/laws.FnExactSureStrangers", spec := "fnExactSureStrangers", unfollowed := true, recurses := true, named := ["math/bits.deBruijn32tab"], apart := false, laid := [("math/bits.deBruijn32tab", laid_math_bits_deBruijn32tab)] }
def FnExactSureStrangersSaid : Prop := fnExactSureStrangersRow.holds Tryd.pinned (OpenSpec.ofChange fnExactSureStrangersSpec)

/-- ITS FALSE NEIGHBOUR: 'it returns false'. Refute it at one input. -/
def fnExactSureStrangersWrong : ChangeSpec := { name := "fnExactSureStrangers", fn := fun _ => fun
  | [d] => { results := [.lit (.bool false)], args := [d] }
  | _ => none }
def FnExactSureStrangersWrongFalsely : Prop := fnExactSureStrangersRow.holds Tryd.pinned (OpenSpec.ofChange fnExactSureStrangersWrong)

/- THE SECOND FORM. 'bulk': how many values and letters a reading holds, each counted each time it is reached (what is shared counts as often as it is met; a slice's spare places count too). A statement '..UptoSaid' is the law's where the arguments, and the package variables that the reading takes, are together of bulk at most 1048576: NARROWER than '..Said'. Prove '..Said' where nothing that the law and all that it calls make is longer than what came in: it says more and counts as full. Else prove '..UptoSaid'. A law counts once. -/
mutual
def uptoBulk {H : Type} : DataW H → Nat
  | .lit (.string bytes) => bytes.length + 1
  | .lit _ => 1
  | .nil => 1
  | .ptr d => uptoBulk d + 1
  | .slice elems spare => uptoBulkAll elems + uptoBulkAll spare + 1
  | .agg parts => uptoBulkAll parts + 1
  | .iface _ d => uptoBulk d + 1
  | .map entries => uptoBulkEntries entries + 1
  | .held _ => 1
def uptoBulkAll {H : Type} : List (DataW H) → Nat
  | [] => 0
  | d :: r => uptoBulk d + uptoBulkAll r
def uptoBulkEntries {H : Type} : List (Lit × DataW H) → Nat
  | [] => 0
  | x :: r => uptoBulkEntry x + uptoBulkEntries r
def uptoBulkEntry {H : Type} : Lit × DataW H → Nat
  | (.string bytes, d) => bytes.length + uptoBulk d + 1
  | (_, d) => uptoBulk d + 1
 end
def uptoSmall : (H : Type) → List (DataW H) → Bool := fun _ ds => decide (uptoBulkAll ds ≤ 1048576)
def OpenSpec.upto (s : _root_.Go.ChangeSpec) : _root_.Go.OpenSpec := { _root_.Go.OpenSpec.ofChange s with cond := some uptoSmall }

/-- 'laws.FnExactDoesFit', WHERE WHAT IT READS IS OF BULK AT MOST 1048576: true; the input reads as it did. -/
def fnExactDoesFitUptoRow : OpenClaim := { program := "ytdnkipagpagfiaadoor", sum := "d888fd2491e153442c91ab03be90ef7edf9b1655aef9eb3ea67bcf4c1d96df85", func := "loop.example/g01257/laws.FnExactDoesFit", spec := "fnExactDoesFit", unfollowed := true, recurses := true, named := ["math/bits.deBruijn32tab"], apart := false, laid := [("math/bits.deBruijn32tab", laid_math_bits_deBruijn32tab)], narrowed := true }
def FnExactDoesFitUptoSaid : Prop := fnExactDoesFitUptoRow.holds Tryd.pinned (OpenSpec.upto fnExactDoesFitSpec)

/-- 'laws.FnExactMakePuzzle', WHERE WHAT IT READS IS OF BULK AT MOST 1048576: true; the input reads as it did. -/
def fnExactMakePuzzleUptoRow : OpenClaim := { program := "ytdnkipagpagfiaadoor", sum := "d888fd2491e153442c91ab03be90ef7edf9b1655aef9eb3ea67bcf4c1d96df85", func := "loop.example/g01257/laws.FnExactMakePuzzle", spec := "fnExactMakePuzzle", unfollowed := true, recurses := true, named := ["math/bits.deBruijn32tab"], apart := false, laid := [("math/bits.deBruijn32tab", laid_math_bits_deBruijn32tab)], narrowed := true }
def FnExactMakePuzzleUptoSaid : Prop := fnExactMakePuzzleUptoRow.holds Tryd.pinned (OpenSpec.upto fnExactMakePuzzleSpec)

/-- 'laws.FnExactCountSolutions', WHERE WHAT IT READS IS OF BULK AT MOST 1048576: true; the input reads as it did. -/
def fnExactCountSolutionsUptoRow : OpenClaim := { program := "ytdnkipagpagfiaadoor", sum := "d888fd2491e153442c91ab03be90ef7edf9b1655aef9eb3ea67bcf4c1d96df85", func := "loop.example/g01257/laws.FnExactCountSolutions", spec := "fnExactCountSolutions", unfollowed := true, recurses := true, named := ["math/bits.deBruijn32tab"], apart := false, laid := [("math/bits.deBruijn32tab", laid_math_bits_deBruijn32tab)], narrowed := true }
def FnExactCountSolutionsUptoSaid : Prop := fnExactCountSolutionsUptoRow.holds Tryd.pinned (OpenSpec.upto fnExactCountSolutionsSpec)

/-- 'laws.FnExactIsSolved', WHERE WHAT IT READS IS OF BULK AT MOST 1048576: true; the input reads as it did. -/
def fnExactIsSolvedUptoRow : OpenClaim := { program := "ytdnkipagpagfiaadoor", sum := "d888fd2491e153442c91ab03be90ef7edf9b1655aef9eb3ea67bcf4c1d96df85", func := "loop.example/g01257/laws.FnExactIsSolved", spec := "fnExactIsSolved", unfollowed := true, recurses := true, named := ["math/bits.deBruijn32tab"], apart := false, laid := [("math/bits.deBruijn32tab", laid_math_bits_deBruijn32tab)], narrowed := true }
def FnExactIsSolvedUptoSaid : Prop := fnExactIsSolvedUptoRow.holds Tryd.pinned (OpenSpec.upto fnExactIsSolvedSpec)

/-- 'laws.FnExactLeftByClues', WHERE WHAT IT READS IS OF BULK AT MOST 1048576: true; the input reads as it did. -/
def fnExactLeftByCluesUptoRow : OpenClaim := { program := "ytdnkipagpagfiaadoor", sum := "d888fd2491e153442c91ab03be90ef7edf9b1655aef9eb3ea67bcf4c1d96df85", func := "loop.example/g01257/laws.FnExactLeftByClues", spec := "fnExactLeftByClues", unfollowed := true, recurses := true, named := ["math/bits.deBruijn32tab"], apart := false, laid := [("math/bits.deBruijn32tab", laid_math_bits_deBruijn32tab)], narrowed := true }
def FnExactLeftByCluesUptoSaid : Prop := fnExactLeftByCluesUptoRow.holds Tryd.pinned (OpenSpec.upto fnExactLeftByCluesSpec)

/-- 'laws.FnExactNeedlessClues', WHERE WHAT IT READS IS OF BULK AT MOST 1048576: true; the input reads as it did. -/
def fnExactNeedlessCluesUptoRow : OpenClaim := { program := "ytdnkipagpagfiaadoor", sum := "d888fd2491e153442c91ab03be90ef7edf9b1655aef9eb3ea67bcf4c1d96df85", func := "loop.example/g01257/laws.FnExactNeedlessClues", spec := "fnExactNeedlessClues", unfollowed := true, recurses := true, named := ["math/bits.deBruijn32tab"], apart := false, laid := [("math/bits.deBruijn32tab", laid_math_bits_deBruijn32tab)], narrowed := true }
def FnExactNeedlessCluesUptoSaid : Prop := fnExactNeedlessCluesUptoRow.holds Tryd.pinned (OpenSpec.upto fnExactNeedlessCluesSpec)

/-- 'laws.FnExactHarderPuzzle', WHERE WHAT IT READS IS OF BULK AT MOST 1048576: true; the input reads as it did. -/
def fnExactHarderPuzzleUptoRow : OpenClaim := { program := "ytdnkipagpagfiaadoor", sum := "d888fd2491e153442c91ab03be90ef7edf9b1655aef9eb3ea67bcf4c1d96df85", func := "loop.example/g01257/laws.FnExactHarderPuzzle", spec := "fnExactHarderPuzzle", unfollowed := true, recurses := true, named := ["math/bits.deBruijn32tab"], apart := false, laid := [("math/bits.deBruijn32tab", laid_math_bits_deBruijn32tab)], narrowed := true }
def FnExactHarderPuzzleUptoSaid : Prop := fnExactHarderPuzzleUptoRow.holds Tryd.pinned (OpenSpec.upto fnExactHarderPuzzleSpec)

/-- 'laws.FnExactFirstSolution', WHERE WHAT IT READS IS OF BULK AT MOST 1048576: true; the input reads as it did. -/
def fnExactFirstSolutionUptoRow : OpenClaim := { program := "ytdnkipagpagfiaadoor", sum := "d888fd2491e153442c91ab03be90ef7edf9b1655aef9eb3ea67bcf4c1d96df85", func := "loop.example/g01257/laws.FnExactFirstSolution", spec := "fnExactFirstSolution", unfollowed := true, recurses := true, named := ["math/bits.deBruijn32tab"], apart := false, laid := [("math/bits.deBruijn32tab", laid_math_bits_deBruijn32tab)], narrowed := true }
def FnExactFirstSolutionUptoSaid : Prop := fnExactFirstSolutionUptoRow.holds Tryd.pinned (OpenSpec.upto fnExactFirstSolutionSpec)

/-- 'laws.FnExactSolutions', WHERE WHAT IT READS IS OF BULK AT MOST 1048576: true; the input reads as it did. -/
def fnExactSolutionsUptoRow : OpenClaim := { program := "ytdnkipagpagfiaadoor", sum := "d888fd2491e153442c91ab03be90ef7edf9b1655aef9eb3ea67bcf4c1d96df85", func := "loop.example/g01257/laws.FnExactSolutions", spec := "fnExactSolutions", unfollowed := true, recurses := true, named := ["math/bits.deBruijn32tab"], apart := false, laid := [("math/bits.deBruijn32tab", laid_math_bits_deBruijn32tab)], narrowed := true }
def FnExactSolutionsUptoSaid : Prop := fnExactSolutionsUptoRow.holds Tryd.pinned (OpenSpec.upto fnExactSolutionsSpec)

/-- 'laws.FnExactSurePairs', WHERE WHAT IT READS IS OF BULK AT MOST 1048576: true; the input reads as it did. -/
def fnExactSurePairsUptoRow : OpenClaim := { program := "ytdnkipagpagfiaadoor", sum := "d888fd2491e153442c91ab03be90ef7edf9b1655aef9eb3ea67bcf4c1d96df85", func := "loop.example/g01257/laws.FnExactSurePairs", spec := "fnExactSurePairs", unfollowed := true, recurses := true, named := ["math/bits.deBruijn32tab"], apart := false, laid := [("math/bits.deBruijn32tab", laid_math_bits_deBruijn32tab)], narrowed := true }
def FnExactSurePairsUptoSaid : Prop := fnExactSurePairsUptoRow.holds Tryd.pinned (OpenSpec.upto fnExactSurePairsSpec)

/-- 'laws.FnExactSureStrangers', WHERE WHAT IT READS IS OF BULK AT MOST 1048576: true; the input reads as it did. -/
def fnExactSureStrangersUptoRow : OpenClaim := { program := "ytdnkipagpagfiaadoor", sum := "d888fd2491e153442c91ab03be90ef7edf9b1655aef9eb3ea67bcf4c1d96df85", func := "loop.example/g01257/laws.FnExactSureStrangers", spec := "fnExactSureStrangers", unfollowed := true, recurses := true, named := ["math/bits.deBruijn32tab"], apart := false, laid := [("math/bits.deBruijn32tab", laid_math_bits_deBruijn32tab)], narrowed := true }
def FnExactSureStrangersUptoSaid : Prop := fnExactSureStrangersUptoRow.holds Tryd.pinned (OpenSpec.upto fnExactSureStrangersSpec)

end Rows
end Go.Proofs.YtdnkipagpagfiaaDoor
