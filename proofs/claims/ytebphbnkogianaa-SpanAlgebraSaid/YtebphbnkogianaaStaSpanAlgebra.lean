/- Laid by this work's own program gp.py, in the form of the kit's print, with some functions told by hand. -/
import Derived.Test.YtebphbnkogianaaPSpanAlgebrax5
namespace Go.Proofs.Ytebphbnkogianaa.PSpanAlgebra
open Go.RowKit Go.Proofs.YtebphbnkogianaaW.PrintWords Go.Proofs.YtebphbnkogianaaW.PrintLast
def ok34 (s : S34) : Prop := ((Lit.int .i64 s.f0).wf = true) ∧ ((Lit.int .i64 s.f1).wf = true)
def bramblelaw02_SpanAlgebra.Pure : Prop := ∀ (l0 : List (S34)) (l1 : List (S34)) (a2 : Int), (l0.length * 16 ≤ 140737488351232 ∧ ∀ y ∈ l0, ok34 y) → (l1.length * 16 ≤ 140737488351232 ∧ ∀ y ∈ l1, ok34 y) → ((Lit.int .i64 a2).wf = true) → ∃ k, bramblelaw02_SpanAlgebra.f k l0 l1 a2 = some true
end Go.Proofs.Ytebphbnkogianaa.PSpanAlgebra
