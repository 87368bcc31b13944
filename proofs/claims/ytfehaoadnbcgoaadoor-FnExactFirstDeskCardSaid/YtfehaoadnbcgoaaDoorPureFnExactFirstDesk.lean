/- FnExactFirstDesk: the desk that the program begins with is the reference's, made anew at each call. Condition: the tables lie as their initialisers lay them (the card's own). -/
import Derived.Test.YtfehaoadnbcgoaaDoorLawFnExactFirstDesk
import Derived.Test.YtfehaoadnbcgoaaDoorPBase
namespace Go.Proofs.YtfehaoadnbcgoaaDoor.PFnExactFirstDesk
set_option linter.unusedVariables false
set_option linter.unusedSimpArgs false
open Go.RowKit Go.Proofs.YtfehaoadnbcgoaaDoor.Base Go.Proofs.YtfehaoadnbcgoaaDoor.PFnExactFirstDesk Go.Proofs.YtfehaoadnbcgoaaDoorW.PrintWords Go.Proofs.YtfehaoadnbcgoaaDoorW.PrintLast Go.Proofs.YtfehaoadnbcgoaaDoorW.PrintMore
end Go.Proofs.YtfehaoadnbcgoaaDoor.PFnExactFirstDesk
namespace Go.Proofs.YtfehaoadnbcgoaaDoor
open Go.RowKit Go.Proofs.YtfehaoadnbcgoaaDoor.Base Go.Proofs.YtfehaoadnbcgoaaDoor.PFnExactFirstDesk Go.Proofs.YtfehaoadnbcgoaaDoorW.PrintWords Go.Proofs.YtfehaoadnbcgoaaDoorW.PrintLast Go.Proofs.YtfehaoadnbcgoaaDoorW.PrintMore
theorem fnExactFirstDesk_pure : fnExactFirstDesk.Pure := ⟨64, by kernel_rfl⟩
-- BARE: no piece on the functions is wanted
theorem fnExactFirstDesk_holds : Rows.FnExactFirstDeskCardSaid := fnExactFirstDesk.proved fnExactFirstDesk_pure
end Go.Proofs.YtfehaoadnbcgoaaDoor
