-- Words that print.sh laid, cut down to those that this claim's texts use (by this session's wip/gen/prune.py).
import Derived.Test.YtbjmkkgejekpnaaDoorWN
namespace Go.Proofs.YtbjmkkgejekpnaaDoorW.PrintWords
open Go.RowKit
namespace Kd
section
variable {α : Type} {d : Kd α} {W : World} {g n : Nat} {S ok : Nat → Prop} {A : Option Addr} {ad : Addr} {xs : List α}
end
end Kd
end Go.Proofs.YtbjmkkgejekpnaaDoorW.PrintWords
