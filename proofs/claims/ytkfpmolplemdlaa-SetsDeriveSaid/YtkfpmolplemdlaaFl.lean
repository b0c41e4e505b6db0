/- Plain grammars as a walk reads them: items, productions; slices.Values over productions and over numbers. No condition. -/
import Derived.Test.YtkfpmolplemdlaaProg
import Derived.Test.YtkfpmolplemdlaaWWords
import Derived.Test.YtkfpmolplemdlaaRound
import Derived.Test.YtkfpmolplemdlaaRangeG
import Derived.Shelf.Abstract
import Derived.Shelf.RegionOpen
import Derived.WalkKit
import Derived.OwnWalkIn
import Derived.TacticsInMore
import Derived.LoopNIn
import Derived.LoopIn
import Derived.Lib.Hide
namespace Go.Proofs.Ytkfpmolplemdlaa.Fl
open Go Go.RowKit Go.Shelf Go.Proofs.YtkfpmolplemdlaaW.PrintWords Go.Proofs.Ytkfpmolplemdlaa.Round Go.Proofs.Ytkfpmolplemdlaa.RangeG
attribute [local go_sem] Oper.semAt_some
set_option linter.unusedVariables false
set_option linter.unusedSimpArgs false
abbrev TF : TypeId := 25
abbrev TP : TypeId := 40
abbrev TIt : TypeId := 48
/-- An item: symbol, field, alias. A production: left, right, precedence. -/
abbrev I := Int × ByteArray × ByteArray
abbrev P := Int × List I × Int
def kI : Kd I := Kd.pair (Kd.int .i64) (Kd.pair Kd.string Kd.string)
def kP : Kd P := Kd.pair (Kd.int .i64) (Kd.pair (Kd.slice TIt kI) (Kd.int .i64))
theorem kI_open {w : World} {x : I} {cs : List Value} (h : kI.K w x cs) : cs = [.int .i64 x.1, .string x.2.1, .string x.2.2] := by
  obtain ⟨_, _, rfl, rfl, ⟨_, _, rfl, rfl, rfl⟩⟩ := h
  exact rfl
theorem kP_open {w : World} {x : P} {cs : List Value} (h : kP.K w x cs) : ∃ A c, cs = [.int .i64 x.1, .slice A x.2.1.length c, .int .i64 x.2.2] ∧ x.2.1.length ≤ c ∧ Kd.C kI w A x.2.1.length x.2.1 := by
  obtain ⟨_, _, rfl, rfl, ⟨_, _, rfl, ⟨A, c, rfl, hc, hC⟩, rfl⟩⟩ := h
  exact ⟨A, c, rfl, hc, hC⟩
theorem C_iso {α β : Type} {d : Kd α} {f : β → α} {w : World} {A : Option Addr} {n : Nat} {xs : List β} (h : Kd.C (Kd.iso d f) w A n xs) : Kd.C d w A n (xs.map f) := by
  obtain ⟨h1, h2, h3⟩ := h
  refine ⟨by simpa using h1, h2, fun h0 => ?_⟩
  obtain ⟨ad, e, hc⟩ := h3 h0
  refine ⟨ad, e, fun j p hj => ?_⟩
  rw [List.getElem?_map] at hj
  cases hx : xs[j]? with
  | none => rw [hx] at hj; cases hj
  | some x =>
    rw [hx] at hj
    obtain rfl : f x = p := by simpa using hj
    exact hc j x hx
theorem atI {w : World} {A : Option Addr} {n : Nat} {xs : List I} (h : Kd.C kI w A n xs) (k : Nat) (hk : k < n) :
    ∃ ad x, A = some ad ∧ xs[k]? = some x ∧ w.cell? (ad.add (k * 3)) = some (.int .i64 x.1) ∧ w.cell? ⟨(ad.add (k * 3)).block, (ad.add (k * 3)).off + 1, none⟩ = some (.string x.2.1) ∧ w.cell? ⟨(ad.add (k * 3)).block, (ad.add (k * 3)).off + 2, none⟩ = some (.string x.2.2) := by
  obtain ⟨h1, h2, h3⟩ := h
  obtain ⟨ad, e, hc⟩ := h3 (by omega)
  have hk' : k < xs.length := by omega
  obtain ⟨c, hl, hK, hcell⟩ := hc k _ (List.getElem?_eq_getElem hk')
  obtain rfl := kI_open hK
  have hc0 : ∀ j u, [Value.int .i64 (xs[k]).1, .string (xs[k]).2.1, .string (xs[k]).2.2][j]? = some u → w.cell? (ad.add (k * 3 + j)) = some u := hcell
  exact ⟨ad, xs[k], e, List.getElem?_eq_getElem hk', hc0 0 _ rfl, by rw [← add_field _ _ 1 (by omega)]; exact hc0 1 _ rfl, by rw [← add_field _ _ 2 (by omega)]; exact hc0 2 _ rfl⟩
theorem atP {w : World} {A : Option Addr} {n : Nat} {xs : List P} (h : Kd.C kP w A n xs) (k : Nat) (hk : k < n) :
    ∃ ad x A1 c1, A = some ad ∧ xs[k]? = some x ∧ x.2.1.length ≤ c1 ∧ Kd.C kI w A1 x.2.1.length x.2.1 ∧ w.cell? (ad.add (k * 3)) = some (.int .i64 x.1) ∧ w.cell? ⟨(ad.add (k * 3)).block, (ad.add (k * 3)).off + 1, none⟩ = some (.slice A1 x.2.1.length c1) ∧ w.cell? ⟨(ad.add (k * 3)).block, (ad.add (k * 3)).off + 2, none⟩ = some (.int .i64 x.2.2) := by
  obtain ⟨h1, h2, h3⟩ := h
  obtain ⟨ad, e, hc⟩ := h3 (by omega)
  have hk' : k < xs.length := by omega
  obtain ⟨c, hl, hK, hcell⟩ := hc k _ (List.getElem?_eq_getElem hk')
  obtain ⟨A1, c1, rfl, hl1, hC1⟩ := kP_open hK
  have hc0 : ∀ j u, [Value.int .i64 (xs[k]).1, .slice A1 (xs[k]).2.1.length c1, .int .i64 (xs[k]).2.2][j]? = some u → w.cell? (ad.add (k * 3 + j)) = some u := hcell
  exact ⟨ad, xs[k], A1, c1, e, List.getElem?_eq_getElem hk', hl1, hC1, hc0 0 _ rfl, by rw [← add_field _ _ 1 (by omega)]; exact hc0 1 _ rfl, by rw [← add_field _ _ 2 (by omega)]; exact hc0 2 _ rfl⟩
theorem take_succ_of {α : Type} {l : List α} {j : Nat} {x : α} (h : l[j]? = some x) : l.take (j + 1) = l.take j ++ [x] := by
  obtain ⟨hj, hx⟩ := List.getElem?_eq_some_iff.1 h
  rw [List.take_succ_eq_append_getElem hj, hx]
/-- A production with where its right side lies, as it lay in a world. -/
abbrev V (u : World) (ps : List P) := { x : P × Option Addr × Nat // x.1.2.1.length ≤ x.2.2 ∧ Kd.C kI u x.2.1 x.1.2.1.length x.1.2.1 ∧ x.1 ∈ ps }
def V.p {u : World} {ps : List P} (x : V u ps) : P := x.1.1
def encV {u : World} {ps : List P} (x : V u ps) : Array Value := #[.agg #[.int .i64 x.1.1.1, .slice x.1.2.1 x.1.1.2.1.length x.1.2.2, .int .i64 x.1.1.2.2]]
set_option maxRecDepth 100000 in
set_option maxHeartbeats 4000000 in
theorem values_stops (n B : Nat) (hn : 1 ≤ n) (A : Option Addr) (cap : Nat) (ps : List P) (u w : World) (hC : Kd.C kP u A ps.length ps) (hw0 : Below u.heap.size u w) (hB : w.heap[B]? = some (.cells #[.slice A ps.length cap] 23 (0, 0))) :
    SeqG n Try.prog 62 #[.pointer (some ⟨B, 0, none⟩)] (encV (u := u) (ps := ps)) (KeepL u.heap.size []) (fun _ => False) (fun ys => ys.map V.p = ps) (fun pre => pre.map V.p <+: ps) ps.length w := by
  intro L J Jx W hW hJ hJx hY h0
  have hBW := hW.same B _ hB (fun h => h) (.inr rfl)
  have hlen : ps.length ≤ 9223372036854775807 := hC.2.1
  have hwW : Below u.heap.size u W := below_turn hw0 hW (Nat.le_refl _) hw0.size (fun k h => h.elim)
  have cB : W.cell? ⟨B, 0, none⟩ = some (.slice A ps.length cap) := blk_cell hBW 0
  clear hw0 hB hW hBW
  refine callsIn_of_wp Try.func62 rfl trivial ?_ rfl
  simp only [Try.ntmps62, List.size_toArray, List.length_cons, List.length_nil, Nat.reduceAdd, Nat.reduceSub, Array.replicate_succ, Array.replicate_zero, List.push_toArray, List.append_toArray, List.nil_append, List.cons_append]
  gi_wp2
  gi_loopw [7] (fun i wr => ∃ (j : Nat) (pre : List (V u ps)), i = .int .i64 (j : Int) ∧ j ≤ ps.length ∧ Hid (pre.map V.p = ps.take j) ∧ J pre wr ∧ Below u.heap.size u wr) (fun i _ => ps.length - (intOf i).toNat)
  case atStart => exact ⟨0, [], rfl, Nat.zero_le _, Lib.hid rfl, h0, hwW⟩
  case round =>
    obtain ⟨j, pre, rfl, hj, HP, hJs, hb⟩ := hrel
    by_cases hlt : j < ps.length
    · have hC' := Kd.C_below hC hb
      obtain ⟨ad, x, A1, c1, rfl, hx, hl1, hC1, f0, f1, f2⟩ := atP hC j hlt
      have f0' := pw_cell_below hb f0
      have f1' := pw_cell_below hb f1
      have f2' := pw_cell_below hb f2
      have hpl : pre.length < ps.length := by
        have := congrArg List.length HP.out
        rw [List.length_map, List.length_take] at this
        omega
      obtain ⟨fn, tmps, assign, body, hy, hR⟩ := hY pre ⟨(x, A1, c1), hl1, hC1, List.mem_of_getElem? hx⟩ _ (hJ _ _ _ hJs (Turn.alloc (.cells #[.int .i64 x.1, .slice A1 x.2.1.length c1, .int .i64 x.2.2] 40))) hpl
      simp only [encV] at hy
      have HT := Lib.hid (show (pre ++ [(⟨(x, A1, c1), hl1, hC1, List.mem_of_getElem? hx⟩ : V u ps)]).map V.p = ps.take (j + 1) by rw [take_succ_of hx, List.map_append, HP.out]; rfl)
      clear hC' hY f0 f1 f2
      gi_wp2
      refine hR.mono ?_
      rintro e W3 (⟨rfl, hJ3, hk3⟩ | ⟨rfl, hJx3⟩)
      · gi_wp2
        go_roundw
        case rel => exact ⟨j + 1, _, by first | rfl | go_num, by omega, HT, hJ3, (hb.alloc hb.size _).trans hk3.1⟩
        case measure => simp [intOf]; omega
      · gi_wp2
        refine bodyPost_ret (results_none rfl _ _ _) rfl ?_
        exact ⟨⟨_, rfl⟩, .inr ⟨_, by rw [HT.out]; exact List.take_prefix _ _, hJx3⟩⟩
    · obtain rfl : j = ps.length := by omega
      gi_wp2
      go_end0
      exact ⟨⟨_, rfl⟩, .inl ⟨_, by rw [HP.out, List.take_length], hJs⟩⟩
theorem values_calls (A : Option Addr) (n c : Nat) (w : World) : Calls Try.prog 52 #[.slice A n c] w fun e w' => e = .returned (.func (.func 62) #[] #[.pointer (some ⟨w.heap.size, 0, none⟩)]) ∧ w.alloc (.cells #[.slice A n c] 23) = w' := by
  go_enter Try.func52, Try.ntmps52
  go_wp2
  go_ret
  exact ⟨rfl, rfl⟩
end Go.Proofs.Ytkfpmolplemdlaa.Fl
