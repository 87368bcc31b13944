-- Words that print.sh laid, cut down to those that this claim's texts use (by this session's wip/gen/prune.py).
import Derived.Test.YtbjmkkgejekpnaaDoorWFootNe
namespace Go.Proofs.YtbjmkkgejekpnaaDoorW.PrintWords
open Go.RowKit
section
variable {w w' u : World} {m B g : Nat} {o : Obj} {row : Option Nat} {S : Nat → Prop} {a : Addr} {v : Value}
end
namespace Kd
section
variable {α : Type} {d : Kd α} {e base n m : Nat} {ok : Nat → Prop} {w w' : World} {v : Value} {A : Option Addr} {xs : List α}
end
end Kd
end Go.Proofs.YtbjmkkgejekpnaaDoorW.PrintWords
