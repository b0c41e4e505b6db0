import Derived.Test.YtkfpmolplemdlaaWInv
import Derived.Test.YtkfpmolplemdlaaWFootNe
namespace Go.Proofs.YtkfpmolplemdlaaW.PrintWords
open Go.RowKit
end Go.Proofs.YtkfpmolplemdlaaW.PrintWords
namespace Go.Proofs.YtkfpmolplemdlaaW.PrintLast
section
variable {ops : Array Oper} {a : Act} {o og : Oper} {g : Nat} {t : Tmp} {u : Bool}
end
end Go.Proofs.YtkfpmolplemdlaaW.PrintLast
