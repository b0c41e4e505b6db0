/- diff.From walked: the edits from the last one on, as an iterator, and the loop over it. No condition but the reach. -/
import Derived.Test.YtefkdfjdlhmknaaProg
import Derived.Test.YtefkdfjdlhmknaaWWords
import Derived.Test.YtefkdfjdlhmknaaRound
import Derived.Shelf.Abstract
import Derived.Shelf.RegionOpen
import Derived.WalkKit
import Derived.OwnWalkIn
import Derived.TacticsInMore
import Derived.LoopNIn
import Derived.LoopIn
import Derived.Lib.Hide
namespace Go.Proofs.Ytefkdfjdlhmknaa.From
open Go Go.RowKit Go.Shelf Go.Proofs.YtefkdfjdlhmknaaW.PrintWords Go.Proofs.Ytefkdfjdlhmknaa.Round
attribute [local go_sem] Oper.semAt_some
set_option linter.unusedVariables false
set_option linter.unusedSimpArgs false

theorem C_iso {α β : Type} {d : Kd α} {f : β → α} {w : World} {A : Option Addr} {n : Nat} {xs : List β} (h : Kd.C (Kd.iso d f) w A n xs) : Kd.C d w A n (xs.map f) := by
  obtain ⟨h1, h2, h3⟩ := h
  refine ⟨by simpa using h1, h2, fun h0 => ?_⟩
  obtain ⟨ad, e, hc⟩ := h3 h0
  refine ⟨ad, e, fun j p hj => ?_⟩
  rw [List.getElem?_map] at hj
  cases hx : xs[j]? with
  | none => rw [hx] at hj; cases hj
  | some x =>
    rw [hx] at hj
    obtain rfl : f x = p := by simpa using hj
    exact hc j x hx

abbrev E := Int × Int × ByteArray
def kE : Kd E := Kd.pair (Kd.int .i64) (Kd.pair (Kd.int .i64) Kd.string)
def cellsE (x : E) : Array Value := #[.int .i64 x.1, .int .i64 x.2.1, .string x.2.2]
theorem kE_open {w : World} {x : E} {cs : List Value} (h : kE.K w x cs) : cs = [.int .i64 x.1, .int .i64 x.2.1, .string x.2.2] := by
  obtain ⟨_, _, rfl, rfl, ⟨_, _, rfl, rfl, rfl⟩⟩ := h
  exact rfl
theorem atE {w : World} {A : Option Addr} {n : Nat} {xs : List E} (h : Kd.C kE w A n xs) (k : Nat) (hk : k < n) :
    ∃ ad x, A = some ad ∧ xs[k]? = some x ∧ w.cell? (ad.add (k * 3)) = some (.int .i64 x.1) ∧ w.cell? ⟨(ad.add (k * 3)).block, (ad.add (k * 3)).off + 1, none⟩ = some (.int .i64 x.2.1) ∧ w.cell? ⟨(ad.add (k * 3)).block, (ad.add (k * 3)).off + 2, none⟩ = some (.string x.2.2) := by
  obtain ⟨h1, h2, h3⟩ := h
  obtain ⟨ad, e, hc⟩ := h3 (by omega)
  have hk' : k < xs.length := by omega
  obtain ⟨c, hl, hK, hcell⟩ := hc k _ (List.getElem?_eq_getElem hk')
  obtain rfl := kE_open hK
  have hc0 : ∀ j u, [Value.int .i64 (xs[k]).1, .int .i64 (xs[k]).2.1, .string (xs[k]).2.2][j]? = some u → w.cell? (ad.add (k * 3 + j)) = some u := hcell
  exact ⟨ad, xs[k], e, List.getElem?_eq_getElem hk', hc0 0 _ rfl, by rw [← add_field _ _ 1 (by omega)]; exact hc0 1 _ rfl, by rw [← add_field _ _ 2 (by omega)]; exact hc0 2 _ rfl⟩

/-- The edits with their places, from the last one on. -/
def back (l : List E) : List (Nat × E) := (l.zipIdx.map fun p => (p.2, p.1)).reverse
theorem back_get (l : List E) (k : Nat) (h : k < l.length) : (back l)[l.length - 1 - k]? = some (k, l[k]) := by
  unfold back
  rw [List.getElem?_reverse (by simp; omega)]
  simp only [List.length_map, List.length_zipIdx]
  have e : l.length - 1 - (l.length - 1 - k) = k := by omega
  rw [e, List.getElem?_map, List.getElem?_zipIdx, List.getElem?_eq_getElem h]
  simp
theorem back_length (l : List E) : (back l).length = l.length := by simp [back]
def encB (x : Nat × E) : Array Value := #[.int .i64 (x.1 : Int), .agg (cellsE x.2)]

theorem take_succ_of {α : Type} {l : List α} {j : Nat} {x : α} (h : l[j]? = some x) : l.take (j + 1) = l.take j ++ [x] := by
  obtain ⟨hj, hx⟩ := List.getElem?_eq_some_iff.1 h
  rw [List.take_succ_eq_append_getElem hj, hx]

set_option maxRecDepth 100000 in
set_option maxHeartbeats 4000000 in
theorem back_stops (n B : Nat) (hn : 1 ≤ n) (A : Option Addr) (cap : Nat) (l : List E) (w0 w : World) (hC : Kd.C kE w0 A l.length l) (hw0 : Below w0.heap.size w0 w) (hBlt : B < w.heap.size) (hB : w.cell? ⟨B, 0, none⟩ = some (.slice A l.length cap)) :
    SeqStopsK Fence.wide n Try.prog 34 #[.pointer (some ⟨B, 0, none⟩)] encB (Keeps2 w0.heap.size B) (fun ys => ys = back l) (fun pre => pre <+: back l) (back l).length w := by
  intro L J Jx W hW hJ hJx hY h0
  have hB' := (hW.cell (p := ⟨B, 0, none⟩) hBlt).trans hB
  have hlen : l.length ≤ 9223372036854775807 := hC.2.1
  have hwW : Below w0.heap.size w0 W := hw0.trans (hW.mono hw0.size)
  clear hw0 hB
  refine callsIn_of_wp Try.func34 rfl trivial ?_ rfl
  simp only [Try.ntmps34, List.size_toArray, List.length_cons, List.length_nil, Nat.reduceAdd, Nat.reduceSub, Array.replicate_succ, Array.replicate_zero, List.push_toArray, List.append_toArray, List.nil_append, List.cons_append]
  gi_wp2
  gi_loopw [3] (fun i wr => ∃ j : Nat, i = .int .i64 ((l.length : Int) - 1 - j) ∧ j ≤ l.length ∧ J ((back l).take j) wr ∧ wr.cell? ⟨B, 0, none⟩ = some (.slice A l.length cap) ∧ Below w0.heap.size w0 wr)
    (fun i _ => (intOf i + 1).toNat)
  case atStart => exact ⟨0, by congr 1; simp, Nat.zero_le _, by simpa using h0, hB', hwW⟩
  case round =>
    obtain ⟨j, rfl, hj, hJs, hc, hb⟩ := hrel
    by_cases hlt : j < l.length
    · obtain ⟨k, hk⟩ : ∃ k, k = l.length - 1 - j := ⟨_, rfl⟩
      have hkl : k < l.length := by omega
      have ek : (l.length : Int) - 1 - (j : Int) = (k : Int) := by omega
      rw [ek]
      have hC' := Kd.C_below hC hb
      obtain ⟨ad, x, rfl, hx, c0, c1, c2⟩ := atE hC' k hkl
      have hbk : (back l)[j]? = some (k, x) := by
        have := back_get l k hkl
        have e : l.length - 1 - k = j := by omega
        rw [e] at this
        rw [this]
        obtain ⟨_, rfl⟩ := List.getElem?_eq_some_iff.1 hx
        rfl
      obtain ⟨fn, tmps, assign, body, hy, hR⟩ := hY _ (k, x) wr hJs (by rw [back_length, List.length_take, back_length]; omega)
      simp only [encB, cellsE] at hy
      have hT := Lib.hid (take_succ_of hbk)
      have EK := Lib.hid ek
      have HK := Lib.hid hk
      clear hbk hx hC' ek hk hY
      gi_wp2
      refine hR.mono ?_
      rintro e W3 (⟨rfl, hJ3, hk3⟩ | ⟨rfl, hJx3⟩)
      · have hc3 := hk3.2 _ hc
        gi_wp2
        go_roundw
        case rel => exact ⟨j + 1, by have := EK.out; congr 1; omega, by omega, by rw [hT.out]; exact hJ3, hc3, hb.trans hk3.1⟩
        case measure => simp [intOf]
      · gi_wp2
        refine bodyPost_ret (results_none rfl _ _ _) rfl ?_
        exact ⟨⟨_, rfl⟩, .inr ⟨_, by rw [← hT.out]; exact List.take_prefix _ _, hJx3⟩⟩
    · obtain rfl : j = l.length := by omega
      have e : (l.length : Int) - 1 - (l.length : Int) = -1 := by omega
      rw [e]
      gi_wp2
      go_end0
      exact ⟨⟨_, rfl⟩, .inl ⟨_, by rw [← back_length l, List.take_length], hJs⟩⟩
theorem back_calls (A : Option Addr) (n c : Nat) (w : World) : Calls Try.prog 26 #[.slice A n c] w fun e w' => e = .returned (.func (.func 34) #[] #[.pointer (some ⟨w.heap.size, 0, none⟩)]) ∧ w.alloc (.cells #[.slice A n c] 25) = w' := by
  go_enter Try.func26, Try.ntmps26
  go_wp2
  go_ret
  exact ⟨rfl, rfl⟩

/-- What a byte was ahead of edits (from the last one on); none: it was put in. -/
def fromR : List E → Int → Option Int
  | [], a => some a
  | e :: t, a => if e.1 < 0 ∨ e.2.1 < 0 then none else if a < e.1 then fromR t a else if wrap64 (a - e.1) < e.2.2.size then none else fromR t (wrap64 (a + wrap64 (e.2.1 - e.2.2.size)))
theorem fromR_app : ∀ (s t : List E) (a : Int), fromR (s ++ t) a = (fromR s a).bind (fromR t)
  | [], t, a => rfl
  | e :: s, t, a => by
    simp only [List.cons_append, fromR]
    split
    · rfl
    · split
      · exact fromR_app s t _
      · split
        · rfl
        · exact fromR_app s t _
def fromV (l : List E) (a : Int) : Int × Bool := match fromR l.reverse a with
  | none => (0, false)
  | some b => (max b 0, decide (0 ≤ b))
theorem back_map (l : List E) : (back l).map (·.2) = l.reverse := by
  unfold back
  rw [List.map_reverse, List.map_map]
  congr 1
  refine List.ext_getElem (by simp) fun i h1 h2 => ?_
  simp
def Res (r : Int × Bool) (w : World) (e : Ending) (w' : World) : Prop := e = .returned (.tuple #[.int .i64 r.1, .bool r.2]) ∧ Below w.heap.size w w'

set_option maxRecDepth 100000 in
set_option maxHeartbeats 4000000 in
theorem from_calls (A : Option Addr) (cap : Nat) (l : List E) (at_ : Int) (w : World) (hC : Kd.C kE w A l.length l) :
    Calls Try.prog 11 #[.slice A l.length cap, .int .i64 at_] w (Res (fromV l at_) w) := by
  refine (callsIn_wide (n := 3)).1 ?_
  have hb26 : Fence.wide.fn 26 := trivial
  have hb34 : Fence.wide.fn 34 := trivial
  refine callsIn_of_wp_marks Try.func11 rfl trivial ?_ rfl
  simp only [Try.ntmps11, List.size_toArray, List.length_cons, List.length_nil, Nat.reduceAdd, Nat.reduceSub, Array.replicate_succ, Array.replicate_zero, List.push_toArray, List.append_toArray, List.nil_append, List.cons_append]
  gi_wp2_with (first | (gi_at_call 26; refine (callsIn_wide.2 (back_calls _ _ _ _)).mono ?_; rintro e w' ⟨rfl, rfl⟩) | go_in)
  obtain ⟨W0, hW0⟩ : ∃ W0, ((((w.alloc (Obj.cells #[Value.int IntKind.i64 at_] 3)).alloc (Obj.cells #[Value.int IntKind.i64 0] 3)).alloc (Obj.cells #[Value.bool false] 4)).alloc (Obj.cells #[Value.slice A l.length cap] 25)) = W0 := ⟨_, rfl⟩
  have bS : Boxed W0 (w.heap.size + 1 + 1 + 1) 25 (.slice A l.length cap) := by
    rw [← hW0]; have := Boxed.new (((w.alloc (Obj.cells #[Value.int IntKind.i64 at_] 3)).alloc (Obj.cells #[Value.int IntKind.i64 0] 3)).alloc (Obj.cells #[Value.bool false] 4)) 25 (.slice A l.length cap); simpa using this
  have bK : Boxed W0 (w.heap.size + 1 + 1) 4 (.bool false) := by
    rw [← hW0]; have := (Boxed.new ((w.alloc (Obj.cells #[Value.int IntKind.i64 at_] 3)).alloc (Obj.cells #[Value.int IntKind.i64 0] 3)) 4 (.bool false)).alloc (Obj.cells #[Value.slice A l.length cap] 25); simpa using this
  have bR : Boxed W0 (w.heap.size + 1) 3 (.int .i64 0) := by
    rw [← hW0]; have := ((Boxed.new (w.alloc (Obj.cells #[Value.int IntKind.i64 at_] 3)) 3 (.int .i64 0)).alloc (Obj.cells #[Value.bool false] 4)).alloc (Obj.cells #[Value.slice A l.length cap] 25); simpa using this
  have bA : Boxed W0 w.heap.size 3 (.int .i64 at_) := by
    rw [← hW0]; exact (((Boxed.new w 3 (.int .i64 at_)).alloc _).alloc _).alloc _
  have hB0 : Below w.heap.size w W0 := by
    rw [← hW0]; exact (((((Below.refl _ w).alloc (Nat.le_refl _) _).alloc (by simp) _).alloc (by simp; omega) _).alloc (by simp; omega) _)
  have hsz : W0.heap.size = w.heap.size + 4 := by rw [← hW0]; simp
  rw [hW0]
  clear hW0
  have hge : w.heap.size + 4 ≤ W0.heap.size := by omega
  clear hsz
  rename_i hK
  have hseq := back_stops 2 (w.heap.size + 1 + 1 + 1) (by omega) A cap l w W0 hC hB0 (by omega) bS.cell
  refine wpIn_rangeFunc_ownH rfl (by omega) (gf := 34) (lb := #[.pointer (some ⟨w.heap.size + 1 + 1 + 1, 0, none⟩)]) rfl hb34 (enters_of Try.func34 (by kernel_rfl) rfl)
    hseq keeps2_t (keeps2_b (by omega) (by omega)) (Below.refl _ _) (fun _ => rfl)
    (fun pre W => (∃ c, fromR (pre.map (·.2)) at_ = some c ∧ Boxed W w.heap.size 3 (.int .i64 c) ∧ Boxed W (w.heap.size + 1) 3 (.int .i64 0) ∧ Boxed W (w.heap.size + 1 + 1) 4 (.bool false) ∧ W0.heap.size ≤ W.heap.size) ∧ Below w.heap.size w W)
    (fun c pre W => (c = .ret ∧ fromR (pre.map (·.2)) at_ = none ∧ Boxed W (w.heap.size + 1) 3 (.int .i64 0) ∧ Boxed W (w.heap.size + 1 + 1) 4 (.bool false)) ∧ Below w.heap.size w W)
    ?hI ?hIx ?h0
    (fun x a' W => ∃ Bx, W0.heap.size ≤ Bx ∧ W.heap[Bx]? = some (.cells (cellsE x.2) 45 (0, 0)) ∧ a' = Act.mk (#[Value.slice A l.length cap, Value.int IntKind.i64 at_, undef,
          Value.pointer (some { block := w.heap.size, off := 0 }),
          Value.pointer (some { block := w.heap.size + 1, off := 0 }),
          Value.pointer (some { block := w.heap.size + 1 + 1, off := 0 }), undef, .pointer (some ⟨Bx, 0, none⟩), Value.slice A l.length cap,
          Value.func (Fn.func 34) #[] #[Value.pointer (some { block := w.heap.size + 1 + 1 + 1, off := 0 })], .int .i64 (x.1 : Int), .agg (cellsE x.2),
          undef, undef, undef, undef, undef, undef, undef, undef, undef, undef, undef, undef, undef, undef,
          undef, undef, undef, undef, undef, undef, undef, undef, undef, undef, undef, undef, undef, undef, undef,
          undef, undef, undef, undef, undef, undef]) []) ?hAx ?assign ?body ?done ?stop
  case hI =>
    refine OwnFrom.and (Own.from (fun s A B row hs hg hr => ?_) _) (ownFrom_below (Nat.le_refl _) (by omega))
    obtain ⟨c, h1, h2, h3, h4, h5⟩ := hs
    exact ⟨c, h1, boxed_own _ _ (fun _ : Unit => _) () A B row h2 hg hr, boxed_own _ _ (fun _ : Unit => _) () A B row h3 hg hr, boxed_own _ _ (fun _ : Unit => _) () A B row h4 hg hr, Nat.le_trans h5 hg.size⟩
  case hIx =>
    intro c
    refine OwnFrom.and (Own.from (fun s A B row hs hg hr => ?_) _) (ownFrom_below (Nat.le_refl _) (by omega))
    obtain ⟨h1, h2, h3, h4⟩ := hs
    exact ⟨h1, h2, boxed_own _ _ (fun _ : Unit => _) () A B row h3 hg hr, boxed_own _ _ (fun _ : Unit => _) () A B row h4 hg hr⟩
  case h0 => exact ⟨⟨at_, rfl, bA, bR, bK, Nat.le_refl _⟩, hB0⟩
  case hAx =>
    rintro x a' s X Y row ⟨Bx, h1, h2, h3⟩ hg hr
    exact ⟨Bx, h1, own_cells1 h2 hg (fun r e => (hr r e).2), h3⟩
  case assign =>
    rintro L pre x W K ⟨⟨c, hc, b1, b2, b3, hs0⟩, hB⟩ hK2
    have hlt := b1.lt
    have hBs := hB.size
    simp only [encB, cellsE]
    gi_wp2
    exact hK2 _ _ ((KeepsOthers.alloc _ _).from _) (keeps2_alloc (keeps2_refl _ _ _) hBs _) ⟨⟨c, hc, b1.alloc _, b2.alloc _, b3.alloc _, by simp; omega⟩, hB.alloc hBs _⟩ ⟨W.heap.size, hs0, World.alloc_heap_new _ _, rfl⟩
  case body =>
    rintro L pre x a' W hL hr ⟨⟨c, hc, b1, b2, b3, hs0⟩, hB⟩ ⟨Bx, hBx, hX, rfl⟩ hpre
    have hne0 : w.heap.size ≠ Bx := by omega
    have c1 := b1.cell
    have f1 := b1.frozen
    have c2 := b2.cell
    have f2 := b2.frozen
    have c3 := b3.cell
    have f3 := b3.frozen
    have x0 : W.cell? ⟨Bx, 0, none⟩ = some (.int .i64 x.2.1) := blk_cell hX 0
    have x1 : W.cell? ⟨Bx, 1, none⟩ = some (.int .i64 x.2.2.1) := blk_cell hX 1
    have x2 : W.cell? ⟨Bx, 2, none⟩ = some (.string x.2.2.2) := blk_cell hX 2
    have hm : ∀ o, fromR ((pre ++ [x]).map (·.2)) at_ = o ↔ fromR [x.2] c = o := fun o => by rw [List.map_append, fromR_app, hc]; rfl
    have hm' := Lib.hid hm
    clear hm
    replace hc := Lib.hid hc
    have leave : ∀ W', W' = (W.setCell ⟨w.heap.size + 1, 0, none⟩ (.int .i64 0)).setCell ⟨w.heap.size + 1 + 1, 0, none⟩ (.bool false) → KeepsFrom W0.heap.size W W' ∧ (Boxed W' (w.heap.size + 1) 3 (.int .i64 0) ∧ Boxed W' (w.heap.size + 1 + 1) 4 (.bool false)) ∧ Below w.heap.size w W' := by
      rintro W' rfl
      exact ⟨((KeepsOthers.setCell _ _ _).trans (KeepsOthers.setCell _ _ _)).from _, ⟨(b2.set _).other (by omega) _, (b3.other (by omega) _).set _⟩, (hB.setCell (p := ⟨w.heap.size + 1, 0, none⟩) (by simp) _).setCell (p := ⟨w.heap.size + 1 + 1, 0, none⟩) (by simp; omega) _⟩
    have leave' := Lib.hid leave
    clear leave
    by_cases h1 : x.2.1 < 0 ∨ x.2.2.1 < 0
    · have hnone : fromR ((pre ++ [x]).map (·.2)) at_ = none := (hm'.out _).2 (by simp only [fromR]; rw [if_pos h1])
      replace hnone := Lib.hid hnone
      rcases h1 with h1 | h1
      · gi_wp2
        obtain ⟨k1, k2, k3⟩ := leave'.out _ rfl
        exact ⟨k1, ⟨rfl, hnone.out, k2⟩, k3⟩
      · by_cases h0 : x.2.1 < 0
        · gi_wp2
          obtain ⟨k1, k2, k3⟩ := leave'.out _ rfl
          exact ⟨k1, ⟨rfl, hnone.out, k2⟩, k3⟩
        · have hd : decide (x.2.1 < 0) = false := by simpa using h0
          gi_wp2
          obtain ⟨k1, k2, k3⟩ := leave'.out _ rfl
          exact ⟨k1, ⟨rfl, hnone.out, k2⟩, k3⟩
    · have n0 : ¬ x.2.1 < 0 := fun h => h1 (.inl h)
      have n1 : ¬ x.2.2.1 < 0 := fun h => h1 (.inr h)
      have d0 : decide (x.2.1 < 0) = false := by simpa using n0
      have d1 : decide (x.2.2.1 < 0) = false := by simpa using n1
      by_cases h2 : c < x.2.1
      · have hsome : fromR ((pre ++ [x]).map (·.2)) at_ = some c := (hm'.out _).2 (by simp only [fromR]; rw [if_neg h1, if_pos h2])
        replace hsome := Lib.hid hsome
        clear h1
        gi_wp2
        exact ⟨KeepsFrom.refl _ _, keeps2_refl _ _ _, ⟨c, hsome.out, b1, b2, b3, hs0⟩, hB⟩
      · by_cases h3 : wrap64 (c - x.2.1) < x.2.2.2.size
        · have hnone : fromR ((pre ++ [x]).map (·.2)) at_ = none := (hm'.out _).2 (by simp only [fromR]; rw [if_neg h1, if_neg h2, if_pos h3])
          replace hnone := Lib.hid hnone
          have d2 : decide (c < x.2.1) = false := by simpa using h2
          clear h1
          gi_wp2
          obtain ⟨k1, k2, k3⟩ := leave'.out _ rfl
          exact ⟨k1, ⟨rfl, hnone.out, k2⟩, k3⟩
        · have hsome : fromR ((pre ++ [x]).map (·.2)) at_ = some (wrap64 (c + wrap64 (x.2.2.1 - x.2.2.2.size))) := (hm'.out _).2 (by simp only [fromR]; rw [if_neg h1, if_neg h2, if_neg h3])
          replace hsome := Lib.hid hsome
          have d2 : decide (c < x.2.1) = false := by simpa using h2
          have d3 : decide (wrap64 (c - x.2.1) < x.2.2.2.size) = false := by simpa using h3
          clear h1
          gi_wp2
          exact ⟨(KeepsOthers.setCell _ _ _).from _, keeps2_set (keeps2_refl _ _ _) (by omega) (by omega) _, ⟨_, hsome.out, b1.set _, b2.other (by omega) _, b3.other (by omega) _, by simpa using hs0⟩, hB.setCell (p := ⟨w.heap.size, 0, none⟩) (by simp) _⟩
  case done =>
    rintro D ys W hD rfl ⟨⟨c, hc, b1, b2, b3, hs0⟩, hB⟩ hK'
    rw [back_map] at hc
    have hv : fromV l at_ = (max c 0, decide (0 ≤ c)) := by unfold fromV; rw [hc]
    have c1 := b1.cell
    have f1 := b1.frozen
    have c2 := b2.cell
    have f2 := b2.frozen
    have c3 := b3.cell
    have f3 := b3.frozen
    replace hv := Lib.hid hv
    clear hc
    gi_wp2
    rename_i hK2
    have HKK := Lib.hid hK2
    refine wpIn_wide.2 ?_
    go_region
    refine HKK.out _ _ ?_
    have hD2 := (((KeepsOthers.setCell W ⟨w.heap.size + 1, 0, none⟩ (.int .i64 (if c < 0 then 0 else c))).trans (KeepsOthers.setCell _ ⟨w.heap.size + 1 + 1, 0, none⟩ (.bool (decide (0 ≤ c))))).trans (KeepsOthers.drew _)).same D _ hK' rfl
    have q2 : Boxed (((W.setCell ⟨w.heap.size + 1, 0, none⟩ (.int .i64 (if c < 0 then 0 else c))).setCell ⟨w.heap.size + 1 + 1, 0, none⟩ (.bool (decide (0 ≤ c)))).drew) (w.heap.size + 1) 3 (.int .i64 (if c < 0 then 0 else c)) := (b2.set _).other (by omega) _
    have q3 : Boxed (((W.setCell ⟨w.heap.size + 1, 0, none⟩ (.int .i64 (if c < 0 then 0 else c))).setCell ⟨w.heap.size + 1 + 1, 0, none⟩ (.bool (decide (0 ≤ c)))).drew) (w.heap.size + 1 + 1) 4 (.bool (decide (0 ≤ c))) := (b3.other (by omega) _).set _
    have hB2 : Below w.heap.size w (((W.setCell ⟨w.heap.size + 1, 0, none⟩ (.int .i64 (if c < 0 then 0 else c))).setCell ⟨w.heap.size + 1 + 1, 0, none⟩ (.bool (decide (0 ≤ c)))).drew) := below_drew ((hB.setCell (p := ⟨w.heap.size + 1, 0, none⟩) (by simp) _).setCell (p := ⟨w.heap.size + 1 + 1, 0, none⟩) (by simp; omega) _)
    clear c1 f1 c2 f2 c3 f3 b1 b2 b3
    revert hD2 q2 q3 hB2
    generalize ((W.setCell ⟨w.heap.size + 1, 0, none⟩ (.int .i64 (if c < 0 then 0 else c))).setCell ⟨w.heap.size + 1 + 1, 0, none⟩ (.bool (decide (0 ≤ c)))).drew = W2
    intro hD2 q2 q3 hB2
    refine wpIn_ret ?_
    refine ⟨by simp, .inl ⟨_, _, rfl, run_takeDeferred hD2, ?_⟩⟩
    have r2 := cell_kept q2.cell (grownBy_putObj' _ D (.deferred none)) (fun r e => by cases e; exact ⟨_, hD2, rfl⟩)
    have r3 := cell_kept q3.cell (grownBy_putObj' _ D (.deferred none)) (fun r e => by cases e; exact ⟨_, hD2, rfl⟩)
    refine ⟨.tuple #[.int .i64 (if c < 0 then 0 else c), .bool (decide (0 ≤ c))], by simp [results, Try.f11, go_sem, r2, r3], ?_, hB2.trans (belowK_b (w := w) (Nat.le_refl _) W2 D _ _ (by omega) hD2 rfl rfl)⟩
    rw [hv.out]
    have e : max c 0 = if c < 0 then 0 else c := by split <;> omega
    rw [e]
  case stop =>
    rintro D c pre W hD hpre ⟨⟨rfl, hn, b2, b3⟩, hB⟩ hK'
    have hv : fromV l at_ = (0, false) := by
      unfold fromV
      obtain ⟨t, ht⟩ := hpre
      have : l.reverse = pre.map (·.2) ++ t.map (·.2) := by rw [← back_map, ← ht, List.map_append]
      rw [this, fromR_app, hn]
      rfl
    have c2 := b2.cell
    have c3 := b3.cell
    replace hv := Lib.hid hv
    gi_wp2
    refine ⟨by simp, .inl ⟨_, _, rfl, run_takeDeferred hK', ?_⟩⟩
    have r2 := cell_kept c2 (grownBy_putObj' _ D (.deferred none)) (fun r e => by cases e; exact ⟨_, hK', rfl⟩)
    have r3 := cell_kept c3 (grownBy_putObj' _ D (.deferred none)) (fun r e => by cases e; exact ⟨_, hK', rfl⟩)
    refine ⟨.tuple #[.int .i64 0, .bool false], by simp [results, Try.f11, go_sem, r2, r3], ?_, hB.trans (belowK_b (w := w) (Nat.le_refl _) W D _ _ (by omega) hK' rfl rfl)⟩
    rw [hv.out]
end Go.Proofs.Ytefkdfjdlhmknaa.From
