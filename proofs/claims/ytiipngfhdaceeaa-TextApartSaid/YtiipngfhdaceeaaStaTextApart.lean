/- Laid by this work's own program gp.py, in the form of the kit's print, with some functions told by hand. -/
import Derived.Test.YtiipngfhdaceeaaPTextApartx5
namespace Go.Proofs.Ytiipngfhdaceeaa.PTextApart
open Go.RowKit Go.Proofs.YtiipngfhdaceeaaW.PrintWords Go.Proofs.YtiipngfhdaceeaaW.PrintLast
def ok23 (s : S23) : Prop := ((Lit.int .i64 s.f0).wf = true) ∧ ((Lit.int .i64 s.f1).wf = true) ∧ (s.f2.size ≤ 140737488351232)
def bramblelaw01_TextApart.Pure : Prop := ∀ (a0 : ByteArray) (s1 : S23) (s2 : S23), (a0.size ≤ 140737488351232) → ok23 s1 → ok23 s2 → ∃ k, bramblelaw01_TextApart.f k a0 s1.f0 s1.f1 s1.f2 s2.f0 s2.f1 s2.f2 = some true
end Go.Proofs.Ytiipngfhdaceeaa.PTextApart
