-- Words that print.sh laid, cut down to those that this claim's texts use (by this session's wip/gen/prune.py).
import Derived.Test.YtbjmkkgejekpnaaDoorWInv
import Derived.Test.YtbjmkkgejekpnaaDoorWFootNe
namespace Go.Proofs.YtbjmkkgejekpnaaDoorW.PrintWords
open Go.RowKit
end Go.Proofs.YtbjmkkgejekpnaaDoorW.PrintWords
namespace Go.Proofs.YtbjmkkgejekpnaaDoorW.PrintLast
section
variable {ops : Array Oper} {a : Act} {o og : Oper} {g : Nat} {t : Tmp} {u : Bool}
end
end Go.Proofs.YtbjmkkgejekpnaaDoorW.PrintLast
