/- span.has walked: the binary search over ranges whose ends rise. -/
import Derived.Test.YtebphbnkogianaaRg
import Derived.TacticsInMore
import Derived.LoopNIn
namespace Go.Proofs.Ytebphbnkogianaa.Has
open Go Go.RowKit Go.Proofs.YtebphbnkogianaaW.PrintWords Go.Proofs.Ytebphbnkogianaa.Round Go.Proofs.Ytebphbnkogianaa.Rg
attribute [local go_sem] Oper.semAt_some
set_option linter.unusedVariables false
set_option linter.unusedSimpArgs false
set_option maxHeartbeats 1000000 in
theorem cmp_calls (x : R) (a : Int) (w : World) : Calls Try.prog 38 #[.agg #[.int .i64 x.1, .int .i64 x.2], .int .i64 a] w fun e w' => e = .returned (.int .i64 (if x.2 ≤ a then -1 else 1)) ∧ Below w.heap.size w w' := by
  by_cases h : x.2 ≤ a
  · rw [if_pos h]
    go_enter Try.func38, Try.ntmps38
    go_wp2
    go_ret
    exact ⟨rfl, (Below.refl _ _).alloc (Nat.le_refl _) _⟩
  · rw [if_neg h]
    have hd : decide (x.2 ≤ a) = false := by simpa using h
    go_enter Try.func38, Try.ntmps38
    go_wp2
    go_ret
    exact ⟨rfl, (Below.refl _ _).alloc (Nat.le_refl _) _⟩
/-- The ends rise. -/
def Rise (l : List R) : Prop := l.Pairwise (fun x y => x.2 ≤ y.2)
instance (l : List R) : Decidable (Rise l) := inferInstanceAs (Decidable (List.Pairwise _ _))
/-- How many ranges end up to a byte, where the ends rise. -/
def upto (l : List R) (a : Int) : Nat := (l.takeWhile fun x => decide (x.2 ≤ a)).length
def hasV (l : List R) (a : Int) : Bool := match l[upto l a]? with
  | none => false
  | some x => decide (x.1 ≤ a)
theorem upto_eq {l : List R} {a : Int} {k : Nat} (hk : k ≤ l.length) (h1 : ∀ (j : Nat) x, j < k → l[j]? = some x → x.2 ≤ a) (h2 : ∀ (j : Nat) x, k ≤ j → l[j]? = some x → a < x.2) : upto l a = k := by
  unfold upto
  induction l generalizing k with
  | nil => simp at hk; simp [hk]
  | cons x t ih =>
    cases k with
    | zero =>
      have := h2 0 x (Nat.le_refl _) rfl
      rw [List.takeWhile_cons, if_neg (by simp; omega)]
      rfl
    | succ k =>
      have := h1 0 x (by omega) rfl
      rw [List.takeWhile_cons, if_pos (by simpa using this), List.length_cons, ih (k := k) (by simpa using hk) (fun j y hj hy => h1 (j + 1) y (by omega) hy) (fun j y hj hy => h2 (j + 1) y (by omega) hy)]
theorem rise_le {l : List R} (h : Rise l) {i j : Nat} {x y : R} (hx : l[i]? = some x) (hy : l[j]? = some y) (hij : i ≤ j) : x.2 ≤ y.2 := by
  obtain ⟨hi, rfl⟩ := List.getElem?_eq_some_iff.1 hx
  obtain ⟨hj, rfl⟩ := List.getElem?_eq_some_iff.1 hy
  rcases Nat.lt_or_ge i j with h' | h'
  · exact List.pairwise_iff_getElem.1 h i j hi hj h'
  · obtain rfl : i = j := by omega
    exact Int.le_refl _
def RetS (r : Nat) (w : World) (e : Ending) (w' : World) : Prop := e = .returned (.tuple #[.int .i64 (r : Int), .bool false]) ∧ Below w.heap.size w w'
set_option maxRecDepth 100000 in
set_option maxHeartbeats 4000000 in
theorem search_calls (A : Option Addr) (cap : Nat) (l : List R) (a : Int) (w : World) (hC : Kd.C kR w A l.length l) (hl : l.length ≤ 1000000000000) (hr : Rise l) :
    Calls Try.prog 37 #[.slice A l.length cap, .int .i64 a, .func (.func 38) #[] #[]] w (RetS (upto l a) w) := by
  go_enter Try.func37, Try.ntmps37
  go_wp2
  go_loopw [9, 10] (fun i j wr => ∃ p q : Nat, i = .int .i64 p ∧ j = .int .i64 q ∧ p ≤ q ∧ q ≤ l.length ∧ (Hid (∀ (j : Nat) x, j < p → l[j]? = some x → x.2 ≤ a)) ∧ (Hid (∀ (j : Nat) x, q ≤ j → l[j]? = some x → a < x.2)) ∧ Below w.heap.size w wr) (fun i j _ => (intOf j).toNat - (intOf i).toNat)
  case atStart => exact ⟨0, l.length, rfl, rfl, Nat.zero_le _, Nat.le_refl _, Lib.hid (fun j y hj => absurd hj (Nat.not_lt_zero _)), Lib.hid (fun j y hj hy => absurd (List.getElem?_eq_some_iff.1 hy).1 (by omega)), Below.refl _ _⟩
  case round =>
    obtain ⟨p, q, rfl, rfl, hpq, hq, hlo, hhi, hB⟩ := hrel
    by_cases hlt : p < q
    · obtain ⟨ad, x, rfl, hx, c0, c1⟩ := atR (Kd.C_below hC hB) ((p + q) / 2) (by omega)
      have hcall := cmp_calls x a wr
      have HX := Lib.hid hx
      clear hx
      have ep : (((p + q) / 2 : Nat) : Int) = ((p : Int) + q) / 2 := by omega
      by_cases c : x.2 ≤ a
      · have C := Lib.hid c
        go_wp2
        go_roundw
        case rel =>
          refine ⟨(p + q) / 2 + 1, q, by congr 1 <;> omega, rfl, by omega, hq, Lib.hid (fun j y hj hy => ?_), hhi, hB.alloc hB.size _⟩
          have := rise_le hr hy HX.out (by omega)
          have := C.out
          omega
        case measure => simp [intOf]; omega
      · have C := Lib.hid c
        have hd : decide (x.2 ≤ a) = false := by simpa using c
        go_wp2
        go_roundw
        case rel =>
          refine ⟨p, (p + q) / 2, rfl, by congr 1 <;> omega, by omega, by omega, hlo, Lib.hid (fun j y hj hy => ?_), hB.alloc hB.size _⟩
          have := rise_le hr HX.out hy hj
          have := C.out
          omega
        case measure => simp [intOf]; omega
    · obtain rfl : p = q := by omega
      have hu := upto_eq hq hlo.out hhi.out
      have HU := Lib.hid hu
      by_cases hp : p < l.length
      · obtain ⟨ad, x, rfl, hx, c0, c1⟩ := atR (Kd.C_below hC hB) p hp
        have hxa : ¬ x.2 ≤ a := by have := hhi.out p x (Nat.le_refl _) hx; omega
        have hd : decide (x.2 ≤ a) = false := by simpa using hxa
        clear hx hu
        go_wp2
        go_ret2
        rw [HU.out]
        exact ⟨rfl, hB.alloc hB.size _⟩
      · obtain rfl : p = l.length := by omega
        clear hu
        go_wp2
        go_ret2
        rw [HU.out]
        exact ⟨rfl, hB⟩
set_option maxRecDepth 100000 in
set_option maxHeartbeats 4000000 in
theorem has_calls (A : Option Addr) (cap : Nat) (l : List R) (a : Int) (w : World) (hC : Kd.C kR w A l.length l) (hl : l.length ≤ 1000000000000) (hr : Rise l) :
    Calls Try.prog 27 #[.slice A l.length cap, .int .i64 a] w fun e w' => e = .returned (.bool (hasV l a)) ∧ Below w.heap.size w w' := by
  have hs := search_calls A cap l a w hC hl hr
  have hu : upto l a ≤ l.length := (List.takeWhile_sublist _).length_le
  by_cases hlt : upto l a < l.length
  · obtain ⟨ad, x, rfl, hx, c0, c1⟩ := atR hC (upto l a) hlt
    have hv : hasV l a = decide (x.1 ≤ a) := by unfold hasV; rw [hx]
    rw [hv]
    have hlt0 := World.block_lt_of_cell? w _ c0
    clear hx hv c1
    go_enter Try.func27, Try.ntmps27
    go_wp2_with (go_at_call 37
                 refine hs.mono ?_
                 rintro e w' ⟨rfl, hb2⟩
                 have c0' := (hb2.cell (p := ad.add (upto l a * 2)) hlt0).trans c0)
    go_ret
    exact ⟨rfl, hb2⟩
  · have hv : hasV l a = false := by unfold hasV; rw [List.getElem?_eq_none (by omega)]
    have hd : decide ((upto l a : Int) < (l.length : Int)) = false := by simp; omega
    rw [hv]
    clear hv
    go_enter Try.func27, Try.ntmps27
    go_wp2_with (go_at_call 37
                 refine hs.mono ?_
                 rintro e w' ⟨rfl, hb2⟩)
    go_ret
    exact ⟨rfl, hb2⟩
end Go.Proofs.Ytebphbnkogianaa.Has
