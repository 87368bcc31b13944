-- Words that print.sh laid, cut down to those that this claim's texts use (by this session's wip/gen/prune.py).
import Derived.Test.YtdnkipagpagfiaaDoorWInv
import Derived.Test.YtdnkipagpagfiaaDoorWFootNe
namespace Go.Proofs.YtdnkipagpagfiaaDoorW.PrintWords
open Go.RowKit
end Go.Proofs.YtdnkipagpagfiaaDoorW.PrintWords
namespace Go.Proofs.YtdnkipagpagfiaaDoorW.PrintLast
section
variable {ops : Array Oper} {a : Act} {o og : Oper} {g : Nat} {t : Tmp} {u : Bool}
end
end Go.Proofs.YtdnkipagpagfiaaDoorW.PrintLast
