-- Words that print.sh laid, cut down to those that this claim's texts use (by this session's wip/gen/prune.py).
import Derived.Test.YtjpfbkkikcpmhaaDoorWInv
import Derived.Test.YtjpfbkkikcpmhaaDoorWFootNe
namespace Go.Proofs.YtjpfbkkikcpmhaaDoorW.PrintWords
open Go.RowKit
end Go.Proofs.YtjpfbkkikcpmhaaDoorW.PrintWords
namespace Go.Proofs.YtjpfbkkikcpmhaaDoorW.PrintLast
section
variable {ops : Array Oper} {a : Act} {o og : Oper} {g : Nat} {t : Tmp} {u : Bool}
end
end Go.Proofs.YtjpfbkkikcpmhaaDoorW.PrintLast
