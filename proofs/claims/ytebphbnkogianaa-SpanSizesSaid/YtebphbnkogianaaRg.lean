/- Rows of ranges as a walk reads them. No condition. -/
import Derived.Test.YtebphbnkogianaaProg
import Derived.Test.YtebphbnkogianaaWWords
import Derived.Test.YtebphbnkogianaaRound
import Derived.WalkKit
import Derived.Lib.Hide
namespace Go.Proofs.Ytebphbnkogianaa.Rg
open Go Go.RowKit Go.Proofs.YtebphbnkogianaaW.PrintWords Go.Proofs.Ytebphbnkogianaa.Round
theorem C_iso {α β : Type} {d : Kd α} {f : β → α} {w : World} {A : Option Addr} {n : Nat} {xs : List β} (h : Kd.C (Kd.iso d f) w A n xs) : Kd.C d w A n (xs.map f) := by
  obtain ⟨h1, h2, h3⟩ := h
  refine ⟨by simpa using h1, h2, fun h0 => ?_⟩
  obtain ⟨ad, e, hc⟩ := h3 h0
  refine ⟨ad, e, fun j p hj => ?_⟩
  rw [List.getElem?_map] at hj
  cases hx : xs[j]? with
  | none => rw [hx] at hj; cases hj
  | some x =>
    rw [hx] at hj
    obtain rfl : f x = p := by simpa using hj
    exact hc j x hx
abbrev R := Int × Int
def kR : Kd R := Kd.pair (Kd.int .i64) (Kd.int .i64)
theorem kR_open {w : World} {x : R} {cs : List Value} (h : kR.K w x cs) : cs = [.int .i64 x.1, .int .i64 x.2] := by
  obtain ⟨_, _, rfl, rfl, rfl⟩ := h
  exact rfl
theorem atR {w : World} {A : Option Addr} {n : Nat} {xs : List R} (h : Kd.C kR w A n xs) (k : Nat) (hk : k < n) :
    ∃ ad x, A = some ad ∧ xs[k]? = some x ∧ w.cell? (ad.add (k * 2)) = some (.int .i64 x.1) ∧ w.cell? ⟨(ad.add (k * 2)).block, (ad.add (k * 2)).off + 1, none⟩ = some (.int .i64 x.2) := by
  obtain ⟨h1, h2, h3⟩ := h
  obtain ⟨ad, e, hc⟩ := h3 (by omega)
  have hk' : k < xs.length := by omega
  obtain ⟨c, hl, hK, hcell⟩ := hc k _ (List.getElem?_eq_getElem hk')
  obtain rfl := kR_open hK
  have hc0 : ∀ j u, [Value.int .i64 (xs[k]).1, .int .i64 (xs[k]).2][j]? = some u → w.cell? (ad.add (k * 2 + j)) = some u := hcell
  exact ⟨ad, xs[k], e, List.getElem?_eq_getElem hk', hc0 0 _ rfl, by rw [← add_field _ _ 1 (by omega)]; exact hc0 1 _ rfl⟩
end Go.Proofs.Ytebphbnkogianaa.Rg
