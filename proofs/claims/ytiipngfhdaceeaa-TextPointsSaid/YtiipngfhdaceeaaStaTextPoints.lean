/- Laid by this work's own program gp.py, in the form of the kit's print, with some functions told by hand. -/
import Derived.Test.YtiipngfhdaceeaaPTextPointsx5
namespace Go.Proofs.Ytiipngfhdaceeaa.PTextPoints
open Go.RowKit Go.Proofs.YtiipngfhdaceeaaW.PrintWords Go.Proofs.YtiipngfhdaceeaaW.PrintLast
def ok43 (s : S43) : Prop := ((Lit.int .i64 s.f0).wf = true) ∧ ((Lit.int .i64 s.f1).wf = true)
def bramblelaw01_TextPoints.Pure : Prop := ∀ (a0 : ByteArray) (a1 : Int) (s2 : S43), (a0.size ≤ 140737488351232) → ((Lit.int .i64 a1).wf = true) → ok43 s2 → ∃ k, bramblelaw01_TextPoints.f k a0 a1 s2.f0 s2.f1 = some true
end Go.Proofs.Ytiipngfhdaceeaa.PTextPoints
