/- Laid by this work's own program gp.py, in the form of the kit's print, with some functions told by hand. -/
import Derived.Test.YtefkdfjdlhmknaaPDiffJustx11
namespace Go.Proofs.Ytefkdfjdlhmknaa.PDiffJust
open Go.RowKit Go.Proofs.YtefkdfjdlhmknaaW.PrintWords Go.Proofs.YtefkdfjdlhmknaaW.PrintLast
def okF24 : Nat → S24 → Prop
  | 0, _ => False
  | n + 1, s => (s.f0.size ≤ 140737488351232) ∧ (True) ∧ (s.f2.size ≤ 140737488351232) ∧ ((Lit.int .i64 s.f3).wf = true) ∧ ((Lit.int .i64 s.f4).wf = true) ∧ ((Lit.int .i64 s.f5).wf = true) ∧ (s.f6.length * 88 ≤ 140737488351232 ∧ ∀ y ∈ s.f6, okF24 n y)
def ok24 (s : S24) : Prop := ∃ n, okF24 n s
def ok45 (s : S45) : Prop := ((Lit.int .i64 s.f0).wf = true) ∧ ((Lit.int .i64 s.f1).wf = true) ∧ (s.f2.size ≤ 140737488351232)
def bramblelaw22_DiffJust.Pure : Prop := ∀ (s0 : S24) (s1 : S24) (a2 : ByteArray) (l3 : List (S45)) (a4 : Int), ok24 s0 → ok24 s1 → (a2.size ≤ 140737488351232) → (l3.length * 32 ≤ 140737488351232 ∧ ∀ y ∈ l3, ok45 y) → ((Lit.int .i64 a4).wf = true) → ∃ k, bramblelaw22_DiffJust.f k s0.f0 s0.f1 s0.f2 s0.f3 s0.f4 s0.f5 s0.f6 s1.f0 s1.f1 s1.f2 s1.f3 s1.f4 s1.f5 s1.f6 a2 l3 a4 = some true
end Go.Proofs.Ytefkdfjdlhmknaa.PDiffJust
