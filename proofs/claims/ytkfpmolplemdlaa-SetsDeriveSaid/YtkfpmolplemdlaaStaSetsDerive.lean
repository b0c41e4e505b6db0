/- Laid by this work's own program gp.py, in the form of the kit's print, with some functions told by hand. -/
import Derived.Test.YtkfpmolplemdlaaPSetsDerivex5
namespace Go.Proofs.Ytkfpmolplemdlaa.PSetsDerive
open Go.RowKit Go.Proofs.YtkfpmolplemdlaaW.PrintWords Go.Proofs.YtkfpmolplemdlaaW.PrintLast
def ok48 (s : S48) : Prop := ((Lit.int .i64 s.f0).wf = true) ∧ (s.f1.size ≤ 140737488351232) ∧ (s.f2.size ≤ 140737488351232)
def ok40 (s : S40) : Prop := ((Lit.int .i64 s.f0).wf = true) ∧ (s.f1.length * 40 ≤ 140737488351232 ∧ ∀ y ∈ s.f1, ok48 y) ∧ ((Lit.int .i64 s.f2).wf = true)
def ok25 (s : S25) : Prop := (s.f0.length * 16 ≤ 140737488351232 ∧ ∀ y ∈ s.f0, (y.size ≤ 140737488351232)) ∧ (s.f1.length * 16 ≤ 140737488351232 ∧ ∀ y ∈ s.f1, (y.size ≤ 140737488351232)) ∧ (s.f2.length * 40 ≤ 140737488351232 ∧ ∀ y ∈ s.f2, ok40 y)
def bramblelaw10_SetsDerive.Pure : Prop := ∀ (s0 : S25) (a1 : Int) (l2 : List Int), ok25 s0 → ((Lit.int .i64 a1).wf = true) → (l2.length * 8 ≤ 140737488351232 ∧ ∀ y ∈ l2, ((Lit.int .i64 y).wf = true)) → ∃ k, bramblelaw10_SetsDerive.f k s0.f0 s0.f1 s0.f2 a1 l2 = some true
end Go.Proofs.Ytkfpmolplemdlaa.PSetsDerive
