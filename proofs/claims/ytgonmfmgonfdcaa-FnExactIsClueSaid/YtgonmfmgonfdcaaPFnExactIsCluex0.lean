-- Of this session's own program wip/gen/gen.py (it drives the kit's print): contracts of the functions that the law reaches.
import Derived.Test.YtgonmfmgonfdcaaProg
import Derived.Below
import Derived.Deep.Draws
import Derived.Deep.AppendLies
import Derived.Maps.AppendAt
import Derived.OwnWalk
import Derived.Laws.BytesArg
import Derived.Laws.MakeOwn
import Derived.Laws.OwnMore
import Derived.Deep.OwnRows
import Derived.Tactics
import Derived.Lib.ConvBytes
import Derived.Laws.Slices
import Derived.WalkKit
import Derived.KernelRfl
import Derived.RowKit3
import Derived.Deep.LoopGhost
import Derived.Deep.QuietTactic
import Derived.BigQuiet
import Derived.WideLaws
import Derived.Deep.DeepCutAuto
import Derived.Deep.CutBlock
import Derived.Deep.RegionHeld3
import Derived.Laws.Rows
import Derived.Lib.AppendStr
import Derived.ArgAppend
import Derived.Laws.IdiomCopy
import Derived.OrdersHeld
import Derived.Laws.BitsLemmas
import Derived.RowKit
import Derived.Shelf.Abstract
import Derived.Outline
import Derived.Test.YtgonmfmgonfdcaaBase
import Derived.Test.YtgonmfmgonfdcaaWWords
import Derived.Test.YtgonmfmgonfdcaaWLast
import Derived.Test.YtgonmfmgonfdcaaWTab
import Derived.Test.YtgonmfmgonfdcaaWFour
import Derived.Test.YtgonmfmgonfdcaaWQPut
import Derived.Test.YtgonmfmgonfdcaaWApart
import Derived.Test.YtgonmfmgonfdcaaWArr
import Derived.Test.YtgonmfmgonfdcaaWZeros
import Derived.Test.YtgonmfmgonfdcaaWFoot
import Derived.Test.YtgonmfmgonfdcaaWKept
import Derived.Test.YtgonmfmgonfdcaaWShare
import Derived.Test.YtgonmfmgonfdcaaWN
import Derived.Test.YtgonmfmgonfdcaaWFootNe
import Derived.Test.YtgonmfmgonfdcaaWAt
import Derived.Test.YtgonmfmgonfdcaaWEqStruct
import Derived.Test.YtgonmfmgonfdcaaWRepsOne
import Derived.Test.YtgonmfmgonfdcaaWInv
import Derived.Test.YtgonmfmgonfdcaaWInvWords
import Derived.Test.YtgonmfmgonfdcaaWGuard
import Derived.Test.YtgonmfmgonfdcaaWNEv
import Derived.Test.YtgonmfmgonfdcaaWMore
namespace Go.Proofs.Ytgonmfmgonfdcaa.PFnExactIsClue
open Go.RowKit Go.Proofs.YtgonmfmgonfdcaaW.PrintWords Go.Proofs.YtgonmfmgonfdcaaW.PrintLast Go.Proofs.YtgonmfmgonfdcaaW.PrintMore Go.Proofs.Ytgonmfmgonfdcaa.Base
attribute [local go_sem] max2_int min2_int max_two min_two max_three min_three max_four min_four   -- for this text's walks alone
set_option linter.unusedVariables false
set_option linter.unusedSimpArgs false



def errW : Option Int → Value
  | none => .nilIface
  | some c => .iface 0 (.int .i64 c)
theorem errW_none : errW none = .nilIface := rfl
theorem errW_some (c : Int) : errW (some c) = .iface 0 (.int .i64 c) := rfl

-- the values' own types

end Go.Proofs.Ytgonmfmgonfdcaa.PFnExactIsClue
