/- text.Offset walked: the rows of a text as an iterator, and the loop over it. For a text within the reach. -/
import Derived.Test.YtiipngfhdaceeaaProg
import Derived.Test.YtiipngfhdaceeaaWWords
import Derived.Test.YtiipngfhdaceeaaRound
import Derived.Shelf.Abstract
import Derived.Shelf.RegionOpen
import Derived.WalkKit
import Derived.OwnWalkIn
import Derived.TacticsInMore
import Derived.LoopNIn
import Derived.LoopIn
import Derived.Lib.Bytealg
import Derived.Lib.Hide
import Derived.StillTailTactics
namespace Go.Proofs.Ytiipngfhdaceeaa.Off
open Go Go.RowKit Go.Shelf Go.Proofs.YtiipngfhdaceeaaW.PrintWords Go.Proofs.Ytiipngfhdaceeaa.Round
attribute [local go_sem] Oper.semAt_some
set_option linter.unusedVariables false
set_option linter.unusedSimpArgs false

def rowsFrom (s : List UInt8) : Nat → Nat → List (Int × Int)
  | 0, _ => []
  | f + 1, i => if Lib.indexByte (s.drop i) 10 < 0 then [((i : Int), (s.length : Int))] else ((i : Int), (i : Int) + Lib.indexByte (s.drop i) 10) :: rowsFrom s f (i + (Lib.indexByte (s.drop i) 10).toNat + 1)
def encP (x : Int × Int) : Array Value := #[.int .i64 x.1, .int .i64 x.2]

theorem indexByteString_calls (s : ByteArray) (c : Int) (w : World) :
    Calls Try.prog 31 #[.string s, .int .u8 c] w fun e w' => e = .returned (.int .i64 (Lib.indexByte s.data.toList c.toNat.toUInt8)) ∧ w = w' := by
  go_enter Try.func31, Try.ntmps31
  go_wp2
  rw [run_callFunc_extern Try.func37 (by kernel_rfl) (by kernel_rfl) (by kernel_rfl) (e := Extern.BytealgIndexByte.indexByte) (by kernel_rfl), Lib.run_indexByteString]
  simp only [Result.andThen]
  rw [Oper.upon_value]
  go_wp2
  go_ret
  exact ⟨rfl, rfl⟩

theorem ib_bd (l : List UInt8) : Lib.indexByte l 10 < l.length ∨ l = [] ∧ Lib.indexByte l 10 = -1 := by
  induction l with
  | nil => exact .inr ⟨rfl, rfl⟩
  | cons b l ih =>
    left
    unfold Lib.indexByte
    split
    · simp
    · split
      · simp; omega
      · rcases ih with h | ⟨rfl, h⟩
        · simp only [List.length_cons]; omega
        · simp only [List.length_cons, h]; simp

set_option maxRecDepth 100000 in
set_option maxHeartbeats 2000000 in
theorem rows_stops (n B : Nat) (hn : 1 ≤ n) (s : ByteArray) (hs : s.size ≤ 140737488351232) (w : World) (hBlt : B < w.heap.size) (hB : w.cell? ⟨B, 0, none⟩ = some (.string s)) :
    SeqStopsK Fence.wide n Try.prog 30 #[.pointer (some ⟨B, 0, none⟩)] encP (KeepsCell B) (fun ys => ys = rowsFrom s.data.toList (s.size + 1) 0) (fun pre => pre <+: rowsFrom s.data.toList (s.size + 1) 0) (rowsFrom s.data.toList (s.size + 1) 0).length w := by
  intro l J Jx W hW hJ hJx hY h0
  have hB' := (hW.cell (p := ⟨B, 0, none⟩) hBlt).trans hB
  have h31 : Fence.wide.fn 31 := trivial
  refine callsIn_of_wp Try.func30 rfl trivial ?_ rfl
  simp only [Try.ntmps30, List.size_toArray, List.length_cons, List.length_nil, Nat.reduceAdd, Nat.reduceSub, Array.replicate_succ, Array.replicate_zero, List.push_toArray, List.append_toArray, List.nil_append, List.cons_append]
  gi_wp2
  gi_loopw [3] (fun i wr => ∃ (k f : Nat) (pre : List (Int × Int)), i = .int .i64 k ∧ k ≤ s.size ∧ s.size + 1 ≤ k + f ∧ J pre wr ∧ wr.cell? ⟨B, 0, none⟩ = some (.string s) ∧ Hid (pre ++ rowsFrom s.data.toList f k = rowsFrom s.data.toList (s.size + 1) 0))
    (fun i _ => s.size + 1 - (intOf i).toNat)
  case atStart => exact ⟨0, s.size + 1, [], rfl, Nat.zero_le _, by omega, h0, hB', Lib.hid (by simp)⟩
  case round =>
    obtain ⟨k, f, pre, rfl, hk, hf, hJs, hc, HE⟩ := hrel
    obtain ⟨f, rfl⟩ : ∃ m, f = m + 1 := ⟨f - 1, by omega⟩
    have hlen : (s.data.toList.drop k).length = s.size - k := by rw [List.length_drop, data_length]
    have hge := Lib.indexByte_ge (s.data.toList.drop k) 10
    have hbd := ib_bd (s.data.toList.drop k)
    obtain ⟨r, hr⟩ : ∃ r, Lib.indexByte (s.data.toList.drop k) 10 = r := ⟨_, rfl⟩
    have HC : Calls Try.prog 31 #[.string (s.extract k s.size), .int .u8 10] wr fun e w' => e = .returned (.int .i64 r) ∧ wr = w' := by
      have := indexByteString_calls (s.extract k s.size) 10 wr
      have e : (s.extract k s.size).data.toList = s.data.toList.drop k := by
        rw [ByteArray.data_extract, Array.toList_extract, List.extract_eq_take_drop, List.take_of_length_le (by rw [hlen]; omega)]
      rw [e] at this
      rw [← hr]
      exact this
    by_cases hneg : r < 0
    · have E1 : rowsFrom s.data.toList (f + 1) k = [((k : Int), (s.size : Int))] := by
        simp only [rowsFrom]; rw [hr, if_pos hneg, data_length]
      have hx : pre ++ [((k : Int), (s.size : Int))] = rowsFrom s.data.toList (s.size + 1) 0 := by rw [← E1]; exact HE.out
      obtain ⟨fn, tmps, assign, body, hy, hR⟩ := hY pre ((k : Int), (s.size : Int)) wr hJs (by rw [← hx]; simp)
      simp only [encP] at hy
      rw [hr] at hge hbd
      clear hr E1
      replace hx := Lib.hid hx
      gi_wp2_with (first | (gi_at_call 31; refine (callsIn_wide.2 HC).mono ?_; rintro e w' ⟨rfl, rfl⟩) | go_in)
      refine hR.mono ?_
      rintro e W3 (⟨rfl, hJ3, hk3⟩ | ⟨rfl, hJx3⟩)
      · gi_wp2
        refine bodyPost_ret (results_none rfl _ _ _) rfl ?_
        exact ⟨⟨_, rfl⟩, .inl ⟨_, hx.out, hJ3⟩⟩
      · gi_wp2
        refine bodyPost_ret (results_none rfl _ _ _) rfl ?_
        exact ⟨⟨_, rfl⟩, .inr ⟨_, by rw [← hx.out]; exact List.prefix_refl _, hJx3⟩⟩
    · have hr0 : 0 ≤ r := by omega
      have hkr : (k : Int) + r < s.size := by
        rcases hbd with h | ⟨_, h⟩
        · rw [hlen] at h; omega
        · omega
      have E1 : rowsFrom s.data.toList (f + 1) k = ((k : Int), (k : Int) + r) :: rowsFrom s.data.toList f (k + r.toNat + 1) := by
        simp only [rowsFrom]; rw [hr, if_neg hneg]
      have hx : pre ++ [((k : Int), (k : Int) + r)] ++ rowsFrom s.data.toList f (k + r.toNat + 1) = rowsFrom s.data.toList (s.size + 1) 0 := by
        have := HE.out
        rw [E1] at this
        simpa using this
      obtain ⟨fn, tmps, assign, body, hy, hR⟩ := hY pre ((k : Int), (k : Int) + r) wr hJs (by rw [← hx]; simp)
      simp only [encP] at hy
      clear hr E1 hbd hge HE hlen
      replace hx := Lib.hid hx
      gi_wp2_with (first | (gi_at_call 31; refine (callsIn_wide.2 HC).mono ?_; rintro e w' ⟨rfl, rfl⟩) | go_in)
      refine hR.mono ?_
      rintro e W3 (⟨rfl, hJ3, hk3⟩ | ⟨rfl, hJx3⟩)
      · have hc3 := hk3 _ hc
        gi_wp2
        go_roundw
        case rel => exact ⟨k + r.toNat + 1, f, pre ++ [((k : Int), (k : Int) + r)], by congr 1; omega, by omega, by omega, hJ3, hc3, hx⟩
        case measure => simp [intOf]; omega
      · gi_wp2
        refine bodyPost_ret (results_none rfl _ _ _) rfl ?_
        exact ⟨⟨_, rfl⟩, .inr ⟨_, by rw [← hx.out]; exact List.prefix_append _ _, hJx3⟩⟩

theorem rows_calls (s : ByteArray) (w : World) : Calls Try.prog 25 #[.string s] w fun e w' => e = .returned (.func (.func 30) #[] #[.pointer (some ⟨w.heap.size, 0, none⟩)]) ∧ w.alloc (.cells #[.string s] 9) = w' := by
  go_enter Try.func25, Try.ntmps25
  go_wp2
  go_ret
  exact ⟨rfl, rfl⟩

theorem rows_len (s : List UInt8) : ∀ f i, (rowsFrom s f i).length ≤ f
  | 0, _ => by simp [rowsFrom]
  | f + 1, i => by
    simp only [rowsFrom]
    split
    · simp
    · have := rows_len s f (i + (Lib.indexByte (s.drop i) 10).toNat + 1)
      simp only [List.length_cons]
      omega
theorem rows_bd (s : List UInt8) : ∀ f i, i ≤ s.length → ∀ x ∈ rowsFrom s f i, 0 ≤ x.1 ∧ x.1 ≤ x.2 ∧ x.2 ≤ s.length
  | 0, _, _ => by simp [rowsFrom]
  | f + 1, i, hi => by
    have hbd := ib_bd (s.drop i)
    rw [List.length_drop] at hbd
    simp only [rowsFrom]
    split
    · intro x hx
      simp at hx
      subst hx
      simp
      omega
    · intro x hx
      rcases List.mem_cons.1 hx with rfl | hx
      · simp
        omega
      · exact rows_bd s f _ (by omega) x hx
def offV (l : List (Int × Int)) (n : Nat) (row col : Int) : Int × Int :=
  if 0 ≤ row ∧ row < n then
    (if 0 ≤ col ∧ col ≤ (l.getD row.toNat (0, 0)).2 - (l.getD row.toNat (0, 0)).1 then ((l.getD row.toNat (0, 0)).1 + col, 0) else (0, 13)) else (0, 13)

set_option maxRecDepth 100000 in
set_option maxHeartbeats 2000000 in
theorem offset_calls (s : ByteArray) (hs : s.size ≤ 140737488351232) (row col : Int) (w : World) (L : List (Int × Int)) (hL : rowsFrom s.data.toList (s.size + 1) 0 = L) :
    Calls Try.prog 19 #[.string s, .agg #[.int .i64 row, .int .i64 col]] w fun e w' => (∃ r1 r2, e = .returned (.tuple #[.int .i64 r1, .int .i64 r2]) ∧ (r1, r2) = offV L L.length row col) ∧ Below w.heap.size w w' := by
  replace hL := Lib.hid hL
  refine (callsIn_wide (n := 3)).1 ?_
  have h25 : Fence.wide.fn 25 := trivial
  have h30 : Fence.wide.fn 30 := trivial
  refine callsIn_of_wp_marks Try.func19 rfl trivial ?_ rfl
  simp only [Try.ntmps19, List.size_toArray, List.length_cons, List.length_nil, Nat.reduceAdd, Nat.reduceSub, Array.replicate_succ, Array.replicate_zero, List.push_toArray, List.append_toArray, List.nil_append, List.cons_append]
  gi_wp2
  refine wpIn_wide.2 (wp_scope_straight ((wpIn_wide (n := 3)).1 ?_))
  gi_wp2
  refine wpIn_label ?_
  gi_wp2_with (first | (gi_at_call 25; refine (callsIn_wide.2 (rows_calls _ _)).mono ?_; rintro e w' ⟨rfl, rfl⟩) | go_in)
  obtain ⟨W0, hW0⟩ : ∃ W0, (((((w.alloc (Obj.cells #[Value.int IntKind.i64 row, Value.int IntKind.i64 col] 43)).alloc (Obj.cells #[Value.int IntKind.i64 0] 3)).alloc (Obj.cells #[Value.int IntKind.i64 0] 3)).alloc (Obj.cells #[Value.bool false] 4)).alloc (Obj.cells #[Value.string s] 9)) = W0 := ⟨_, rfl⟩
  have bS : Boxed W0 (w.heap.size + 1 + 1 + 1 + 1) 9 (.string s) := by
    rw [← hW0]; have := Boxed.new ((((w.alloc (Obj.cells #[Value.int IntKind.i64 row, Value.int IntKind.i64 col] 43)).alloc (Obj.cells #[Value.int IntKind.i64 0] 3)).alloc (Obj.cells #[Value.int IntKind.i64 0] 3)).alloc (Obj.cells #[Value.bool false] 4)) 9 (.string s); simpa using this
  have bK : Boxed W0 (w.heap.size + 1 + 1 + 1) 4 (.bool false) := by
    rw [← hW0]; have := (Boxed.new (((w.alloc (Obj.cells #[Value.int IntKind.i64 row, Value.int IntKind.i64 col] 43)).alloc (Obj.cells #[Value.int IntKind.i64 0] 3)).alloc (Obj.cells #[Value.int IntKind.i64 0] 3)) 4 (.bool false)).alloc (Obj.cells #[Value.string s] 9); simpa using this
  have bT : Boxed W0 (w.heap.size + 1 + 1) 3 (.int .i64 0) := by
    rw [← hW0]; have := ((Boxed.new ((w.alloc (Obj.cells #[Value.int IntKind.i64 row, Value.int IntKind.i64 col] 43)).alloc (Obj.cells #[Value.int IntKind.i64 0] 3)) 3 (.int .i64 0)).alloc (Obj.cells #[Value.bool false] 4)).alloc (Obj.cells #[Value.string s] 9); simpa using this
  have bR : Boxed W0 (w.heap.size + 1) 3 (.int .i64 0) := by
    rw [← hW0]; have := (((Boxed.new (w.alloc (Obj.cells #[Value.int IntKind.i64 row, Value.int IntKind.i64 col] 43)) 3 (.int .i64 0)).alloc (Obj.cells #[Value.int IntKind.i64 0] 3)).alloc (Obj.cells #[Value.bool false] 4)).alloc (Obj.cells #[Value.string s] 9); simpa using this
  have bP : W0.heap[w.heap.size]? = some (.cells #[.int .i64 row, .int .i64 col] 43 (0, 0)) := by
    rw [← hW0]; exact blk_alloc (blk_alloc (blk_alloc (blk_alloc (blk_new w _) _) _) _) _
  have hB0 : Below w.heap.size w W0 := by
    rw [← hW0]; exact ((((((Below.refl _ w).alloc (Nat.le_refl _) _).alloc (by simp) _).alloc (by simp; omega) _).alloc (by simp; omega) _).alloc (by simp; omega) _)
  have hsz : W0.heap.size = w.heap.size + 5 := by rw [← hW0]; simp
  rw [hW0]
  clear hW0
  rename_i hK
  have hseq := rows_stops 2 (w.heap.size + 1 + 1 + 1 + 1) (by omega) s hs W0 (by omega) bS.cell
  have hLn : (rowsFrom s.data.toList (s.size + 1) 0).length ≤ s.size + 1 := rows_len _ _ _
  have hLb := rows_bd s.data.toList (s.size + 1) 0 (Nat.zero_le _)
  rw [data_length] at hLb
  rw [hL.out] at hseq hLn hLb
  clear hL
  refine wpIn_rangeFunc_ownG rfl (by omega) (gf := 30) (lb := #[.pointer (some ⟨w.heap.size + 1 + 1 + 1 + 1, 0, none⟩)]) rfl h30 (enters_of Try.func30 (by kernel_rfl) rfl)
    hseq keepsCell_t (keepsCell_b (by omega)) (Below.refl _ _) (fun _ => rfl)
    (fun pre W => (Boxed W (w.heap.size + 1) 3 (.int .i64 pre.length) ∧ Boxed W (w.heap.size + 1 + 1) 3 (.int .i64 0) ∧ Boxed W (w.heap.size + 1 + 1 + 1) 4 (.bool false) ∧ W.heap[w.heap.size]? = some (.cells #[.int .i64 row, .int .i64 col] 43 (0, 0)) ∧ ∀ j : Nat, j < pre.length → (j : Int) ≠ row) ∧ Below w.heap.size w W)
    (fun c pre W => (c = .exit 0 ∧ ∃ ini last, pre = ini ++ [last] ∧ (ini.length : Int) = row ∧ ∃ r b, Boxed W (w.heap.size + 1 + 1) 3 (.int .i64 r) ∧ Boxed W (w.heap.size + 1 + 1 + 1) 4 (.bool b) ∧ r = IntKind.i64.wrap (last.1 + col) ∧ (b = true ↔ 0 ≤ col ∧ col ≤ IntKind.i64.wrap (last.2 - last.1))) ∧ Below w.heap.size w W)
    ?hI ?hIx ?h0
    (fun x => { tmps := #[Value.string s, Value.agg #[Value.int IntKind.i64 row, Value.int IntKind.i64 col], undef,
          Value.pointer (some { block := w.heap.size, off := 0 }), Value.int IntKind.i64 0, Value.int IntKind.i64 0,
          Value.pointer (some { block := w.heap.size + 1, off := 0 }),
          Value.pointer (some { block := w.heap.size + 1 + 1, off := 0 }),
          Value.pointer (some { block := w.heap.size + 1 + 1 + 1, off := 0 }), .int .i64 x.1, .int .i64 x.2, Value.string s,
          Value.func (Fn.func 30) #[] #[Value.pointer (some { block := w.heap.size + 1 + 1 + 1 + 1, off := 0 })], .int .i64 x.1, .int .i64 x.2,
          undef, undef, undef, undef, undef, undef, undef, undef, undef, undef, undef, undef, undef,
          undef, undef, undef, undef, undef, undef, undef, undef, undef, undef, undef], defers := [] }) ?assign ?body ?done ?stop
  case hI =>
    refine OwnFrom.and (Own.from (fun s A B row hs hg hr => ?_) _) (ownFrom_below (Nat.le_refl _) (by omega))
    obtain ⟨h1, h2, h3, h4, h5⟩ := hs
    exact ⟨boxed_own _ _ (fun _ : Unit => _) () A B row h1 hg hr, boxed_own _ _ (fun _ : Unit => _) () A B row h2 hg hr, boxed_own _ _ (fun _ : Unit => _) () A B row h3 hg hr, own_cells1 h4 hg hr, h5⟩
  case hIx =>
    intro c
    refine OwnFrom.and (Own.from (fun s A B row hs hg hr => ?_) _) (ownFrom_below (Nat.le_refl _) (by omega))
    obtain ⟨h1, ini, last, h2, h3, r, b, h4, h5, h6⟩ := hs
    exact ⟨h1, ini, last, h2, h3, r, b, boxed_own _ _ (fun _ : Unit => _) () A B row h4 hg hr, boxed_own _ _ (fun _ : Unit => _) () A B row h5 hg hr, h6⟩
  case h0 => exact ⟨⟨bR, bT, bK, bP, fun j hj => absurd hj (Nat.not_lt_zero _)⟩, hB0⟩
  case assign =>
    intro l x W K hK
    simp only [encP]
    gi_wp2
    exact hK
  case body =>
    rintro l pre x W ⟨⟨b1, b2, b3, b4, hne⟩, hB⟩ hpre
    have c1 := b1.cell
    have f1 := b1.frozen
    have c2 := b2.cell
    have f2 := b2.frozen
    have c3 := b3.cell
    have f3 := b3.frozen
    have p0 : W.cell? ⟨w.heap.size, 0, none⟩ = some (.int .i64 row) := blk_cell b4 0
    have p1 : W.cell? ⟨w.heap.size, 1, none⟩ = some (.int .i64 col) := blk_cell b4 1
    by_cases hrow : (pre.length : Int) = row
    · subst hrow
      have hself : ((pre.length : Int) == (pre.length : Int)) = true := by simp
      by_cases hcol : (0 : Int) ≤ col
      · gi_wp2
        refine wpIn_region_round (by kernel_rfl) (by kernel_rfl) ?_
        change wpAny _ _ _ _ _ _ _ (World.drew _)
        refine wpAny_take (i := 0) (v := ?_) rfl (by kernel_rfl) (by kernel_rfl) (by kernel_rfl) (fun _ _ _ h => h) (Or.inl ⟨by rfl, ?_⟩) ?_
        rotate_left
        · intro w; go_simp; first | done | with_reducible rfl
        refine wpAny_take (i := 1) (v := ?_) rfl (by kernel_rfl) (by kernel_rfl) (by kernel_rfl) (fun _ _ _ h => h) (Or.inl ⟨by rfl, ?_⟩) ?_
        rotate_left
        · intro w; go_simp; first | done | with_reducible rfl
        refine wpAny_take (i := 4) (v := ?_) rfl (by kernel_rfl) (by kernel_rfl) (by kernel_rfl) (fun _ _ _ h => h) (Or.inl ⟨by rfl, ?_⟩) ?_
        rotate_left
        · intro w; go_simp; first | done | with_reducible rfl
        refine wpAny_ready (rs := [2, 5]) (by kernel_rfl) (by simp) ?_
        refine AllReady.cons rfl (fun K hK => ?_) ?_
        · go_simp
          refine hK _ _ ?_
          clear hK K
          refine wpAny_take (i := 3) (v := ?_) rfl (by kernel_rfl) (by kernel_rfl) (by kernel_rfl) (fun _ _ _ h => h) (Or.inl ⟨by rfl, ?_⟩) ?_
          rotate_left
          · intro w; go_simp; first | done | with_reducible rfl
          refine wpAny_ready (rs := [5]) (by kernel_rfl) (by simp) ?_
          refine AllReady.cons rfl (fun K hK => ?_) ?_
          · go_simp
            refine hK _ _ ?_
            clear hK K
            refine wpAny_take (i := 6) (v := ?_) rfl (by kernel_rfl) (by kernel_rfl) (by kernel_rfl) (fun _ _ _ h => h) (Or.inl ⟨by rfl, ?_⟩) ?_
            rotate_left
            · intro w; go_simp; first | done | with_reducible rfl
            refine wpAny_take (i := 7) (v := ?_) rfl (by kernel_rfl) (by kernel_rfl) (by kernel_rfl) (fun _ _ _ h => h) (Or.inl ⟨by rfl, ?_⟩) ?_
            rotate_left
            · intro w; go_simp; first | done | with_reducible rfl
            refine wpAny_take (i := 8) (v := ?_) rfl (by kernel_rfl) (by kernel_rfl) (by kernel_rfl) (fun _ _ _ h => h) (Or.inl ⟨by rfl, ?_⟩) ?_
            rotate_left
            · intro w; go_simp; first | done | with_reducible rfl
            refine wpAny_take (i := 10) (v := ?_) rfl (by kernel_rfl) (by kernel_rfl) (by kernel_rfl) (fun _ _ _ h => h) (Or.inl ⟨by rfl, ?_⟩) ?_
            rotate_left
            · intro w; go_simp; first | done | with_reducible rfl
            refine wpAny_take (i := 11) (v := ?_) rfl (by kernel_rfl) (by kernel_rfl) (by kernel_rfl) (fun _ _ _ h => h) (Or.inl ⟨by rfl, ?_⟩) ?_
            rotate_left
            · intro w; go_simp; first | done | with_reducible rfl
            refine wpAny_take (i := 12) (v := ?_) rfl (by kernel_rfl) (by kernel_rfl) (by kernel_rfl) (fun _ _ _ h => h) (Or.inl ⟨by rfl, ?_⟩) ?_
            rotate_left
            · intro w; go_simp; first | done | with_reducible rfl
            refine wpAny_ready (rs := [9, 15]) (by kernel_rfl) (by simp) ?_
            refine AllReady.cons rfl (fun K hK => ?_) ?_
            · go_simp
              refine hK _ _ ?_
              clear hK K
              refine wpAny_take (i := 13) (v := ?_) rfl (by kernel_rfl) (by kernel_rfl) (by kernel_rfl) (fun _ _ _ h => h) (Or.inl ⟨by rfl, ?_⟩) ?_
              rotate_left
              · intro w; go_simp; first | done | with_reducible rfl
              refine wpAny_take (i := 14) (v := ?_) rfl (by kernel_rfl) (by kernel_rfl) (by kernel_rfl) (fun _ _ _ h => h) (Or.inl ⟨by rfl, ?_⟩) ?_
              rotate_left
              · intro w; go_simp; first | done | with_reducible rfl
              refine wpAny_ready (rs := [15]) (by kernel_rfl) (by simp) ?_
              refine AllReady.cons rfl (fun K hK => ?_) ?_
              · go_simp
                refine hK _ _ ?_
                clear hK K
                refine wpAny_ready (rs := [16]) (by kernel_rfl) (by simp) ?_
                refine AllReady.cons rfl (fun K hK => ?_) ?_
                · go_simp
                  refine hK _ _ ?_
                  clear hK K
                  refine wpAny_done (by kernel_rfl) ?_ _
                  simp only [Qn_normal]
                  gi_wp2
                  exact ⟨(((KeepsOthers.setCell _ _ _).trans (KeepsOthers.setCell _ _ _)).trans (KeepsOthers.drew _)).from _, ⟨rfl, pre, x, rfl, rfl, _, _, (b2.set _).other (by omega) _, (b3.other (by omega) _).set _, rfl, by simp [hcol]⟩, (hB.setCell (p := ⟨w.heap.size + 1 + 1, 0, none⟩) (by simp; omega) _).setCell (p := ⟨w.heap.size + 1 + 1 + 1, 0, none⟩) (by simp; omega) _ |> below_drew⟩
                exact AllReady.nil
              exact AllReady.nil
            refine AllReady.cons rfl (fun K hK => ?_) ?_
            · go_simp
              refine hK _ _ ?_
              clear hK K
              refine wpAny_ready (rs := [9]) (by kernel_rfl) (by simp) ?_
              refine AllReady.cons rfl (fun K hK => ?_) ?_
              · go_simp
                refine hK _ _ ?_
                clear hK K
                refine wpAny_take (i := 13) (v := ?_) rfl (by kernel_rfl) (by kernel_rfl) (by kernel_rfl) (fun _ _ _ h => h) (Or.inl ⟨by rfl, ?_⟩) ?_
                rotate_left
                · intro w; go_simp; first | done | with_reducible rfl
                refine wpAny_take (i := 14) (v := ?_) rfl (by kernel_rfl) (by kernel_rfl) (by kernel_rfl) (fun _ _ _ h => h) (Or.inl ⟨by rfl, ?_⟩) ?_
                rotate_left
                · intro w; go_simp; first | done | with_reducible rfl
                refine wpAny_ready (rs := [16]) (by kernel_rfl) (by simp) ?_
                refine AllReady.cons rfl (fun K hK => ?_) ?_
                · go_simp
                  refine hK _ _ ?_
                  clear hK K
                  refine wpAny_done (by kernel_rfl) ?_ _
                  simp only [Qn_normal]
                  gi_wp2
                  exact ⟨(((KeepsOthers.setCell _ _ _).trans (KeepsOthers.setCell _ _ _)).trans (KeepsOthers.drew _)).from _, ⟨rfl, pre, x, rfl, rfl, _, _, (b2.set _).other (by omega) _, (b3.other (by omega) _).set _, rfl, by simp [hcol]⟩, (hB.setCell (p := ⟨w.heap.size + 1 + 1, 0, none⟩) (by simp; omega) _).setCell (p := ⟨w.heap.size + 1 + 1 + 1, 0, none⟩) (by simp; omega) _ |> below_drew⟩
                exact AllReady.nil
              exact AllReady.nil
            exact AllReady.nil
          exact AllReady.nil
        refine AllReady.cons rfl (fun K hK => ?_) ?_
        · go_simp
          refine hK _ _ ?_
          clear hK K
          refine wpAny_take (i := 6) (v := ?_) rfl (by kernel_rfl) (by kernel_rfl) (by kernel_rfl) (fun _ _ _ h => h) (Or.inl ⟨by rfl, ?_⟩) ?_
          rotate_left
          · intro w; go_simp; first | done | with_reducible rfl
          refine wpAny_take (i := 7) (v := ?_) rfl (by kernel_rfl) (by kernel_rfl) (by kernel_rfl) (fun _ _ _ h => h) (Or.inl ⟨by rfl, ?_⟩) ?_
          rotate_left
          · intro w; go_simp; first | done | with_reducible rfl
          refine wpAny_take (i := 8) (v := ?_) rfl (by kernel_rfl) (by kernel_rfl) (by kernel_rfl) (fun _ _ _ h => h) (Or.inl ⟨by rfl, ?_⟩) ?_
          rotate_left
          · intro w; go_simp; first | done | with_reducible rfl
          refine wpAny_take (i := 10) (v := ?_) rfl (by kernel_rfl) (by kernel_rfl) (by kernel_rfl) (fun _ _ _ h => h) (Or.inl ⟨by rfl, ?_⟩) ?_
          rotate_left
          · intro w; go_simp; first | done | with_reducible rfl
          refine wpAny_take (i := 11) (v := ?_) rfl (by kernel_rfl) (by kernel_rfl) (by kernel_rfl) (fun _ _ _ h => h) (Or.inl ⟨by rfl, ?_⟩) ?_
          rotate_left
          · intro w; go_simp; first | done | with_reducible rfl
          refine wpAny_take (i := 12) (v := ?_) rfl (by kernel_rfl) (by kernel_rfl) (by kernel_rfl) (fun _ _ _ h => h) (Or.inl ⟨by rfl, ?_⟩) ?_
          rotate_left
          · intro w; go_simp; first | done | with_reducible rfl
          refine wpAny_ready (rs := [2, 9]) (by kernel_rfl) (by simp) ?_
          refine AllReady.cons rfl (fun K hK => ?_) ?_
          · go_simp
            refine hK _ _ ?_
            clear hK K
            refine wpAny_take (i := 3) (v := ?_) rfl (by kernel_rfl) (by kernel_rfl) (by kernel_rfl) (fun _ _ _ h => h) (Or.inl ⟨by rfl, ?_⟩) ?_
            rotate_left
            · intro w; go_simp; first | done | with_reducible rfl
            refine wpAny_ready (rs := [9, 15]) (by kernel_rfl) (by simp) ?_
            refine AllReady.cons rfl (fun K hK => ?_) ?_
            · go_simp
              refine hK _ _ ?_
              clear hK K
              refine wpAny_take (i := 13) (v := ?_) rfl (by kernel_rfl) (by kernel_rfl) (by kernel_rfl) (fun _ _ _ h => h) (Or.inl ⟨by rfl, ?_⟩) ?_
              rotate_left
              · intro w; go_simp; first | done | with_reducible rfl
              refine wpAny_take (i := 14) (v := ?_) rfl (by kernel_rfl) (by kernel_rfl) (by kernel_rfl) (fun _ _ _ h => h) (Or.inl ⟨by rfl, ?_⟩) ?_
              rotate_left
              · intro w; go_simp; first | done | with_reducible rfl
              refine wpAny_ready (rs := [15]) (by kernel_rfl) (by simp) ?_
              refine AllReady.cons rfl (fun K hK => ?_) ?_
              · go_simp
                refine hK _ _ ?_
                clear hK K
                refine wpAny_ready (rs := [16]) (by kernel_rfl) (by simp) ?_
                refine AllReady.cons rfl (fun K hK => ?_) ?_
                · go_simp
                  refine hK _ _ ?_
                  clear hK K
                  refine wpAny_done (by kernel_rfl) ?_ _
                  simp only [Qn_normal]
                  gi_wp2
                  exact ⟨(((KeepsOthers.setCell _ _ _).trans (KeepsOthers.setCell _ _ _)).trans (KeepsOthers.drew _)).from _, ⟨rfl, pre, x, rfl, rfl, _, _, (b2.set _).other (by omega) _, (b3.other (by omega) _).set _, rfl, by simp [hcol]⟩, (hB.setCell (p := ⟨w.heap.size + 1 + 1, 0, none⟩) (by simp; omega) _).setCell (p := ⟨w.heap.size + 1 + 1 + 1, 0, none⟩) (by simp; omega) _ |> below_drew⟩
                exact AllReady.nil
              exact AllReady.nil
            refine AllReady.cons rfl (fun K hK => ?_) ?_
            · go_simp
              refine hK _ _ ?_
              clear hK K
              refine wpAny_ready (rs := [9]) (by kernel_rfl) (by simp) ?_
              refine AllReady.cons rfl (fun K hK => ?_) ?_
              · go_simp
                refine hK _ _ ?_
                clear hK K
                refine wpAny_take (i := 13) (v := ?_) rfl (by kernel_rfl) (by kernel_rfl) (by kernel_rfl) (fun _ _ _ h => h) (Or.inl ⟨by rfl, ?_⟩) ?_
                rotate_left
                · intro w; go_simp; first | done | with_reducible rfl
                refine wpAny_take (i := 14) (v := ?_) rfl (by kernel_rfl) (by kernel_rfl) (by kernel_rfl) (fun _ _ _ h => h) (Or.inl ⟨by rfl, ?_⟩) ?_
                rotate_left
                · intro w; go_simp; first | done | with_reducible rfl
                refine wpAny_ready (rs := [16]) (by kernel_rfl) (by simp) ?_
                refine AllReady.cons rfl (fun K hK => ?_) ?_
                · go_simp
                  refine hK _ _ ?_
                  clear hK K
                  refine wpAny_done (by kernel_rfl) ?_ _
                  simp only [Qn_normal]
                  gi_wp2
                  exact ⟨(((KeepsOthers.setCell _ _ _).trans (KeepsOthers.setCell _ _ _)).trans (KeepsOthers.drew _)).from _, ⟨rfl, pre, x, rfl, rfl, _, _, (b2.set _).other (by omega) _, (b3.other (by omega) _).set _, rfl, by simp [hcol]⟩, (hB.setCell (p := ⟨w.heap.size + 1 + 1, 0, none⟩) (by simp; omega) _).setCell (p := ⟨w.heap.size + 1 + 1 + 1, 0, none⟩) (by simp; omega) _ |> below_drew⟩
                exact AllReady.nil
              exact AllReady.nil
            exact AllReady.nil
          refine AllReady.cons rfl (fun K hK => ?_) ?_
          · go_simp
            refine hK _ _ ?_
            clear hK K
            refine wpAny_take (i := 13) (v := ?_) rfl (by kernel_rfl) (by kernel_rfl) (by kernel_rfl) (fun _ _ _ h => h) (Or.inl ⟨by rfl, ?_⟩) ?_
            rotate_left
            · intro w; go_simp; first | done | with_reducible rfl
            refine wpAny_take (i := 14) (v := ?_) rfl (by kernel_rfl) (by kernel_rfl) (by kernel_rfl) (fun _ _ _ h => h) (Or.inl ⟨by rfl, ?_⟩) ?_
            rotate_left
            · intro w; go_simp; first | done | with_reducible rfl
            refine wpAny_ready (rs := [2]) (by kernel_rfl) (by simp) ?_
            refine AllReady.cons rfl (fun K hK => ?_) ?_
            · go_simp
              refine hK _ _ ?_
              clear hK K
              refine wpAny_take (i := 3) (v := ?_) rfl (by kernel_rfl) (by kernel_rfl) (by kernel_rfl) (fun _ _ _ h => h) (Or.inl ⟨by rfl, ?_⟩) ?_
              rotate_left
              · intro w; go_simp; first | done | with_reducible rfl
              refine wpAny_ready (rs := [15]) (by kernel_rfl) (by simp) ?_
              refine AllReady.cons rfl (fun K hK => ?_) ?_
              · go_simp
                refine hK _ _ ?_
                clear hK K
                refine wpAny_ready (rs := [16]) (by kernel_rfl) (by simp) ?_
                refine AllReady.cons rfl (fun K hK => ?_) ?_
                · go_simp
                  refine hK _ _ ?_
                  clear hK K
                  refine wpAny_done (by kernel_rfl) ?_ _
                  simp only [Qn_normal]
                  gi_wp2
                  exact ⟨(((KeepsOthers.setCell _ _ _).trans (KeepsOthers.setCell _ _ _)).trans (KeepsOthers.drew _)).from _, ⟨rfl, pre, x, rfl, rfl, _, _, (b2.set _).other (by omega) _, (b3.other (by omega) _).set _, rfl, by simp [hcol]⟩, (hB.setCell (p := ⟨w.heap.size + 1 + 1, 0, none⟩) (by simp; omega) _).setCell (p := ⟨w.heap.size + 1 + 1 + 1, 0, none⟩) (by simp; omega) _ |> below_drew⟩
                exact AllReady.nil
              exact AllReady.nil
            exact AllReady.nil
          exact AllReady.nil
        exact AllReady.nil
      · have hcd : decide ((0 : Int) ≤ col) = false := by simpa using hcol
        gi_wp2
        refine wpIn_region_round (by kernel_rfl) (by kernel_rfl) ?_
        change wpAny _ _ _ _ _ _ _ (World.drew _)
        refine wpAny_take (i := 0) (v := ?_) rfl (by kernel_rfl) (by kernel_rfl) (by kernel_rfl) (fun _ _ _ h => h) (Or.inl ⟨by rfl, ?_⟩) ?_
        rotate_left
        · intro w; go_simp; first | done | with_reducible rfl
        refine wpAny_take (i := 1) (v := ?_) rfl (by kernel_rfl) (by kernel_rfl) (by kernel_rfl) (fun _ _ _ h => h) (Or.inl ⟨by rfl, ?_⟩) ?_
        rotate_left
        · intro w; go_simp; first | done | with_reducible rfl
        refine wpAny_take (i := 4) (v := ?_) rfl (by kernel_rfl) (by kernel_rfl) (by kernel_rfl) (fun _ _ _ h => h) (Or.inl ⟨by rfl, ?_⟩) ?_
        rotate_left
        · intro w; go_simp; first | done | with_reducible rfl
        refine wpAny_ready (rs := [2, 5]) (by kernel_rfl) (by simp) ?_
        refine AllReady.cons rfl (fun K hK => ?_) ?_
        · go_simp
          refine hK _ _ ?_
          clear hK K
          refine wpAny_take (i := 3) (v := ?_) rfl (by kernel_rfl) (by kernel_rfl) (by kernel_rfl) (fun _ _ _ h => h) (Or.inl ⟨by rfl, ?_⟩) ?_
          rotate_left
          · intro w; go_simp; first | done | with_reducible rfl
          refine wpAny_ready (rs := [5]) (by kernel_rfl) (by simp) ?_
          refine AllReady.cons rfl (fun K hK => ?_) ?_
          · go_simp
            refine hK _ _ ?_
            clear hK K
            refine wpAny_take (i := 6) (v := ?_) rfl (by kernel_rfl) (by kernel_rfl) (by kernel_rfl) (fun _ _ _ h => h) (Or.inl ⟨by rfl, ?_⟩) ?_
            rotate_left
            · intro w; go_simp; first | done | with_reducible rfl
            refine wpAny_take (i := 7) (v := ?_) rfl (by kernel_rfl) (by kernel_rfl) (by kernel_rfl) (fun _ _ _ h => h) (Or.inl ⟨by rfl, ?_⟩) ?_
            rotate_left
            · intro w; go_simp; first | done | with_reducible rfl
            refine wpAny_take (i := 8) (v := undef) rfl (by kernel_rfl) (by kernel_rfl) (by kernel_rfl) (fun _ _ _ h => h) (Or.inr ⟨by kernel_rfl, rfl⟩) ?_
            refine wpAny_take (i := 9) (v := undef) rfl (by kernel_rfl) (by kernel_rfl) (by kernel_rfl) (fun _ _ _ h => h) (Or.inr ⟨by kernel_rfl, rfl⟩) ?_
            refine wpAny_take (i := 10) (v := undef) rfl (by kernel_rfl) (by kernel_rfl) (by kernel_rfl) (fun _ _ _ h => h) (Or.inr ⟨by kernel_rfl, rfl⟩) ?_
            refine wpAny_take (i := 11) (v := undef) rfl (by kernel_rfl) (by kernel_rfl) (by kernel_rfl) (fun _ _ _ h => h) (Or.inr ⟨by kernel_rfl, rfl⟩) ?_
            refine wpAny_take (i := 12) (v := undef) rfl (by kernel_rfl) (by kernel_rfl) (by kernel_rfl) (fun _ _ _ h => h) (Or.inr ⟨by kernel_rfl, rfl⟩) ?_
            refine wpAny_take (i := 13) (v := undef) rfl (by kernel_rfl) (by kernel_rfl) (by kernel_rfl) (fun _ _ _ h => h) (Or.inr ⟨by kernel_rfl, rfl⟩) ?_
            refine wpAny_take (i := 14) (v := ?_) rfl (by kernel_rfl) (by kernel_rfl) (by kernel_rfl) (fun _ _ _ h => h) (Or.inl ⟨by rfl, ?_⟩) ?_
            rotate_left
            · intro w; go_simp; first | done | with_reducible rfl
            refine wpAny_ready (rs := [15]) (by kernel_rfl) (by simp) ?_
            refine AllReady.cons rfl (fun K hK => ?_) ?_
            · go_simp
              refine hK _ _ ?_
              clear hK K
              refine wpAny_ready (rs := [16]) (by kernel_rfl) (by simp) ?_
              refine AllReady.cons rfl (fun K hK => ?_) ?_
              · go_simp
                refine hK _ _ ?_
                clear hK K
                refine wpAny_done (by kernel_rfl) ?_ _
                simp only [Qn_normal]
                gi_wp2
                exact ⟨(((KeepsOthers.setCell _ _ _).trans (KeepsOthers.setCell _ _ _)).trans (KeepsOthers.drew _)).from _, ⟨rfl, pre, x, rfl, rfl, _, _, (b2.set _).other (by omega) _, (b3.other (by omega) _).set _, rfl, ⟨(fun h => by cases h), fun h => absurd h.1 (by omega)⟩⟩, (hB.setCell (p := ⟨w.heap.size + 1 + 1, 0, none⟩) (by simp; omega) _).setCell (p := ⟨w.heap.size + 1 + 1 + 1, 0, none⟩) (by simp; omega) _ |> below_drew⟩
              exact AllReady.nil
            exact AllReady.nil
          exact AllReady.nil
        refine AllReady.cons rfl (fun K hK => ?_) ?_
        · go_simp
          refine hK _ _ ?_
          clear hK K
          refine wpAny_take (i := 6) (v := ?_) rfl (by kernel_rfl) (by kernel_rfl) (by kernel_rfl) (fun _ _ _ h => h) (Or.inl ⟨by rfl, ?_⟩) ?_
          rotate_left
          · intro w; go_simp; first | done | with_reducible rfl
          refine wpAny_take (i := 7) (v := ?_) rfl (by kernel_rfl) (by kernel_rfl) (by kernel_rfl) (fun _ _ _ h => h) (Or.inl ⟨by rfl, ?_⟩) ?_
          rotate_left
          · intro w; go_simp; first | done | with_reducible rfl
          refine wpAny_take (i := 8) (v := undef) rfl (by kernel_rfl) (by kernel_rfl) (by kernel_rfl) (fun _ _ _ h => h) (Or.inr ⟨by kernel_rfl, rfl⟩) ?_
          refine wpAny_take (i := 9) (v := undef) rfl (by kernel_rfl) (by kernel_rfl) (by kernel_rfl) (fun _ _ _ h => h) (Or.inr ⟨by kernel_rfl, rfl⟩) ?_
          refine wpAny_take (i := 10) (v := undef) rfl (by kernel_rfl) (by kernel_rfl) (by kernel_rfl) (fun _ _ _ h => h) (Or.inr ⟨by kernel_rfl, rfl⟩) ?_
          refine wpAny_take (i := 11) (v := undef) rfl (by kernel_rfl) (by kernel_rfl) (by kernel_rfl) (fun _ _ _ h => h) (Or.inr ⟨by kernel_rfl, rfl⟩) ?_
          refine wpAny_take (i := 12) (v := undef) rfl (by kernel_rfl) (by kernel_rfl) (by kernel_rfl) (fun _ _ _ h => h) (Or.inr ⟨by kernel_rfl, rfl⟩) ?_
          refine wpAny_take (i := 13) (v := undef) rfl (by kernel_rfl) (by kernel_rfl) (by kernel_rfl) (fun _ _ _ h => h) (Or.inr ⟨by kernel_rfl, rfl⟩) ?_
          refine wpAny_take (i := 14) (v := ?_) rfl (by kernel_rfl) (by kernel_rfl) (by kernel_rfl) (fun _ _ _ h => h) (Or.inl ⟨by rfl, ?_⟩) ?_
          rotate_left
          · intro w; go_simp; first | done | with_reducible rfl
          refine wpAny_ready (rs := [2]) (by kernel_rfl) (by simp) ?_
          refine AllReady.cons rfl (fun K hK => ?_) ?_
          · go_simp
            refine hK _ _ ?_
            clear hK K
            refine wpAny_take (i := 3) (v := ?_) rfl (by kernel_rfl) (by kernel_rfl) (by kernel_rfl) (fun _ _ _ h => h) (Or.inl ⟨by rfl, ?_⟩) ?_
            rotate_left
            · intro w; go_simp; first | done | with_reducible rfl
            refine wpAny_ready (rs := [15]) (by kernel_rfl) (by simp) ?_
            refine AllReady.cons rfl (fun K hK => ?_) ?_
            · go_simp
              refine hK _ _ ?_
              clear hK K
              refine wpAny_ready (rs := [16]) (by kernel_rfl) (by simp) ?_
              refine AllReady.cons rfl (fun K hK => ?_) ?_
              · go_simp
                refine hK _ _ ?_
                clear hK K
                refine wpAny_done (by kernel_rfl) ?_ _
                simp only [Qn_normal]
                gi_wp2
                exact ⟨(((KeepsOthers.setCell _ _ _).trans (KeepsOthers.setCell _ _ _)).trans (KeepsOthers.drew _)).from _, ⟨rfl, pre, x, rfl, rfl, _, _, (b2.set _).other (by omega) _, (b3.other (by omega) _).set _, rfl, ⟨(fun h => by cases h), fun h => absurd h.1 (by omega)⟩⟩, (hB.setCell (p := ⟨w.heap.size + 1 + 1, 0, none⟩) (by simp; omega) _).setCell (p := ⟨w.heap.size + 1 + 1 + 1, 0, none⟩) (by simp; omega) _ |> below_drew⟩
              exact AllReady.nil
            exact AllReady.nil
          exact AllReady.nil
        exact AllReady.nil
    · have hrf : ((pre.length : Int) == row) = false := by simpa using hrow
      have hl1 : pre.length < 9223372036854775807 := by omega
      gi_wp2
      refine ⟨(KeepsOthers.setCell _ _ _).from _, keepsCell_set (by omega) _, ⟨?_, b2.other (by omega) _, b3.other (by omega) _, block_far b4 (by omega) _, ?_⟩, hB.setCell (p := ⟨w.heap.size + 1, 0, none⟩) (by simp) _⟩
      · have := b1.set (.int .i64 (pre.length + 1))
        simpa using this
      · intro j hj
        simp at hj
        by_cases e : j = pre.length
        · subst e; exact hrow
        · exact hne j (by omega)
  case done =>
    rintro D ys W hD rfl ⟨⟨b1, b2, b3, b4, hne⟩, hB⟩ hK'
    have c3 := b3.cell
    gi_wp2
    rw [Exit.noGoto_ret]
    refine ⟨by simp, .inl ⟨_, _, rfl, run_takeDeferred hK', ?_⟩⟩
    refine ⟨.tuple #[.int .i64 0, .int .i64 13], by simp [results, Try.f19, go_sem], ⟨_, _, rfl, ?_⟩, hB.trans (belowK_b (w := w) (Nat.le_refl _) W D _ _ (by omega) hK' rfl rfl)⟩
    unfold offV
    rw [if_neg]
    rintro ⟨h0, h1⟩
    exact hne row.toNat (by omega) (by omega)
  case stop =>
    rintro D c pre W hD hpre ⟨⟨rfl, ini, last, rfl, hrow, r, b, b2, b3, hr, hb⟩, hB⟩ hK'
    have c2 := b2.cell
    have c3 := b3.cell
    have hm : last ∈ L := hpre.subset (by simp)
    have hl := hLb last hm
    have hget : L.getD ini.length (0, 0) = last := by
      obtain ⟨t, rfl⟩ := hpre
      simp [List.getD]
    have hlen : ini.length < L.length := by
      have := hpre.length_le
      simp at this
      omega
    have e1 : row.toNat = ini.length := by omega
    have ew : ∀ x, IntKind.i64.wrap x = wrap64 x := fun x => by unfold Go.RowKit.wrap64; exact IntKind.wrap_i64 x
    have w1 : wrap64 (last.2 - last.1) = last.2 - last.1 := by unfold wrap64; omega
    cases b with
    | true =>
      have hc := hb.1 rfl
      rw [ew, w1] at hc
      have w2 : r = last.1 + col := by rw [hr, ew]; unfold wrap64; omega
      clear hr hb
      subst w2
      have HW := Lib.hid w1
      clear w1 ew
      gi_wp2
      rw [Exit.noGoto_ret]
      refine ⟨by simp, .inl ⟨_, _, rfl, run_takeDeferred hK', ?_⟩⟩
      refine ⟨.tuple #[.int .i64 (last.1 + col), .int .i64 0], by simp [results, Try.f19, go_sem], ⟨_, _, rfl, ?_⟩, hB.trans (belowK_b (w := w) (Nat.le_refl _) W D _ _ (by omega) hK' rfl rfl)⟩
      unfold offV
      rw [if_pos (by omega), e1, hget, if_pos hc]
    | false =>
      have hc : ¬ (0 ≤ col ∧ col ≤ last.2 - last.1) := by
        intro h
        have := hb.2 (by rw [ew, w1]; exact h)
        cases this
      clear hr hb
      clear w1 ew
      gi_wp2
      rw [Exit.noGoto_ret]
      refine ⟨by simp, .inl ⟨_, _, rfl, run_takeDeferred hK', ?_⟩⟩
      refine ⟨.tuple #[.int .i64 0, .int .i64 13], by simp [results, Try.f19, go_sem], ⟨_, _, rfl, ?_⟩, hB.trans (belowK_b (w := w) (Nat.le_refl _) W D _ _ (by omega) hK' rfl rfl)⟩
      unfold offV
      rw [if_pos (by omega), e1, hget, if_neg hc]
end Go.Proofs.Ytiipngfhdaceeaa.Off
