/- Laid by this work's own program gp.py, in the form of the kit's print, with some functions told by hand. -/
import Derived.Test.YtiipngfhdaceeaaPTextDiffsx5
namespace Go.Proofs.Ytiipngfhdaceeaa.PTextDiffs
open Go.RowKit Go.Proofs.YtiipngfhdaceeaaW.PrintWords Go.Proofs.YtiipngfhdaceeaaW.PrintLast
def ok23 (s : S23) : Prop := ((Lit.int .i64 s.f0).wf = true) ∧ ((Lit.int .i64 s.f1).wf = true) ∧ (s.f2.size ≤ 140737488351232)
def bramblelaw01_TextDiffs.Pure : Prop := ∀ (a0 : ByteArray) (l1 : List (S23)) (a2 : ByteArray) (a3 : ByteArray), (a0.size ≤ 140737488351232) → (l1.length * 32 ≤ 140737488351232 ∧ ∀ y ∈ l1, ok23 y) → (a2.size ≤ 140737488351232) → (a3.size ≤ 140737488351232) → ∃ k, bramblelaw01_TextDiffs.f k a0 l1 a2 a3 = some true
end Go.Proofs.Ytiipngfhdaceeaa.PTextDiffs
