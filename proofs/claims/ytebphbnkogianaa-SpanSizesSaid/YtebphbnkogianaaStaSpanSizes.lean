/- Laid by this work's own program gp.py, in the form of the kit's print, with some functions told by hand. -/
import Derived.Test.YtebphbnkogianaaPSpanSizesx4
namespace Go.Proofs.Ytebphbnkogianaa.PSpanSizes
open Go.RowKit Go.Proofs.YtebphbnkogianaaW.PrintWords Go.Proofs.YtebphbnkogianaaW.PrintLast
def ok34 (s : S34) : Prop := ((Lit.int .i64 s.f0).wf = true) ∧ ((Lit.int .i64 s.f1).wf = true)
def bramblelaw02_SpanSizes.Pure : Prop := ∀ (l0 : List (S34)) (l1 : List (S34)), (l0.length * 16 ≤ 140737488351232 ∧ ∀ y ∈ l0, ok34 y) → (l1.length * 16 ≤ 140737488351232 ∧ ∀ y ∈ l1, ok34 y) → ∃ k, bramblelaw02_SpanSizes.f k l0 l1 = some true
end Go.Proofs.Ytebphbnkogianaa.PSpanSizes
