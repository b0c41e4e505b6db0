/- Laid by this work's own program gp.py, in the form of the kit's print, with some functions told by hand. -/
import Derived.Test.YtebphbnkogianaaPSpanBackx7
namespace Go.Proofs.Ytebphbnkogianaa.PSpanBack
open Go.RowKit Go.Proofs.YtebphbnkogianaaW.PrintWords Go.Proofs.YtebphbnkogianaaW.PrintLast
def ok34 (s : S34) : Prop := ((Lit.int .i64 s.f0).wf = true) ∧ ((Lit.int .i64 s.f1).wf = true)
def bramblelaw02_SpanBack.Pure : Prop := ∀ (l0 : List (S34)) (a1 : ByteArray) (a2 : Int), (l0.length * 16 ≤ 140737488351232 ∧ ∀ y ∈ l0, ok34 y) → (a1.size ≤ 140737488351232) → ((Lit.int .i64 a2).wf = true) → ∃ k, bramblelaw02_SpanBack.f k l0 a1 a2 = some true
end Go.Proofs.Ytebphbnkogianaa.PSpanBack
