-- Words that print.sh laid, cut down to those that this claim's texts use (by this session's wip/gen/prune.py).
import Derived.Test.YtbjmkkgejekpnaaDoorWApart
import Derived.Test.YtbjmkkgejekpnaaDoorWArr
namespace Go.Proofs.YtbjmkkgejekpnaaDoorW.PrintWords
open Go.RowKit
section
variable {P : Program}
end
namespace Kd
section
variable {P : Program} {ops : Array Oper} {rest : List Oper} {o : Oper} {a : Act} {Q : Exit → Act → World → Prop} {Kc : Act → World → Prop} {α : Type}
end
section
variable {α : Type} {d : Kd α} {e : Nat} {w : World} {base : Nat} {ok : Nat → Prop} {v : Value} {xs : List α}
end
section
variable {P : Program} {ops : Array Oper} {rest : List Oper} {o : Oper} {a : Act} {Q : Exit → Act → World → Prop} {Kc : Act → World → Prop} {α : Type}
end
end Kd
end Go.Proofs.YtbjmkkgejekpnaaDoorW.PrintWords
