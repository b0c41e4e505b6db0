import Derived.Test.YtefkdfjdlhmknaaWInv
import Derived.Test.YtefkdfjdlhmknaaWFootNe
namespace Go.Proofs.YtefkdfjdlhmknaaW.PrintWords
open Go.RowKit
end Go.Proofs.YtefkdfjdlhmknaaW.PrintWords
namespace Go.Proofs.YtefkdfjdlhmknaaW.PrintLast
section
variable {ops : Array Oper} {a : Act} {o og : Oper} {g : Nat} {t : Tmp} {u : Bool}
end
end Go.Proofs.YtefkdfjdlhmknaaW.PrintLast
