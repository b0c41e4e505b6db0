import Derived.Test.YtkfpmolplemdlaaWLast
import Derived.Test.YtkfpmolplemdlaaWWords
namespace Go.Proofs.YtkfpmolplemdlaaW.PrintLast
open Go.Proofs.YtkfpmolplemdlaaW.PrintWords (Aside0)
section
variable {md : Region.Mode} {ops : Array Oper} {T : Bool × List (List Nat × List Nat)} {l l' li lj lk : Array Bool} {ds : List Nat} {i j k : Nat}
end
end Go.Proofs.YtkfpmolplemdlaaW.PrintLast
