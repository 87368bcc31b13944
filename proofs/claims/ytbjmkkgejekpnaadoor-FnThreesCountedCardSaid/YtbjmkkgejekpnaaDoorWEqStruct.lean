-- Words that print.sh laid, cut down to those that this claim's texts use (by this session's wip/gen/prune.py).
import Derived.Test.YtbjmkkgejekpnaaDoorWWords
import Derived.Laws.StructEq
namespace Go.Proofs.YtbjmkkgejekpnaaDoorW.PrintWords
open Go.RowKit
section
variable {P : Program} {d : Nat} {xs ys : Array Value} {f : Field} {fs : List Field} {a b : Value} {r s : Bool} {w : World}
end
end Go.Proofs.YtbjmkkgejekpnaaDoorW.PrintWords
