/- span.borders walked: where one of two sets begins or ends. No condition but the reach. -/
import Derived.Test.YtebphbnkogianaaRg
import Derived.Test.YtebphbnkogianaaRangeG
import Derived.Test.YtebphbnkogianaaLaySC
import Derived.Shelf.Sort.Plain
import Derived.Shelf.Slices.In.SortNone
import Derived.Shelf.Slices.CompactI
import Derived.Shelf.SlicesE.Clone
import Derived.Sort.OwnSortedInts
import Derived.Laws.AppendOwnNone
namespace Go.Proofs.Ytebphbnkogianaa.Brd
open Go Go.RowKit Go.Sort Go.Proofs.YtebphbnkogianaaW.PrintWords Go.Proofs.Ytebphbnkogianaa.Round Go.Proofs.Ytebphbnkogianaa.Rg Go.Proofs.Ytebphbnkogianaa.RangeG
attribute [local go_sem] Oper.semAt_some
set_option linter.unusedVariables false
set_option linter.unusedSimpArgs false
abbrev TI : TypeId := 3
def ints (l : List Int) : List Value := l.map (Value.int .i64)
def sorted (l : List Int) : List Int := l.mergeSort fun x y => decide (x ≤ y)
theorem sort_own (base : Nat) (v : Value) (l : List Int) (w : World) (h : w.ownsRow base TI 1 v l.length (ints l)) (hl : l.length < 4611686018427387904) :
    Calls Try.prog 55 #[v] w fun e w' => e = .returned (.tuple #[]) ∧ w'.ownsRow base TI 1 v l.length (ints (sorted l)) ∧ w.grownBy w' v.ownBlock := by
  have hsl : (sorted l).length = l.length := List.length_mergeSort l
  have hnil : l = [] → ∀ p c, v = .slice p 0 c → Calls Try.prog 55 #[v] w fun e w' => e = .returned (.tuple #[]) ∧ w'.ownsRow base TI 1 v l.length (ints (sorted l)) ∧ w.grownBy w' v.ownBlock := by
    intro hl0 p c hv
    subst hl0
    have hc := Any.slices_Sort_int_none Try.YtebphbnkogianaasortI p c w
    rw [hv] at h ⊢
    refine hc.mono ?_
    rintro e w' ⟨rfl, rfl⟩
    exact ⟨rfl, by simpa [sorted, ints] using h, rfl, rfl, rfl, Nat.le_refl _, fun _ _ _ => rfl⟩
  rcases h.2 with ⟨hv, hn⟩ | ⟨g, cap, cur, hv, hg, hh, hcap, hmax, hsz, htk⟩
  · exact hnil (List.eq_nil_of_length_eq_zero hn) _ _ hv
  · by_cases hl0 : l = []
    · refine hnil hl0 (some ⟨g, 0, none⟩) cap ?_
      rw [hv, hl0]
      rfl
    · have hH := holds_of_blockI (ss := l) hh (by simpa [ints] using htk)
      have hc := Any.slices_Sort_int Try.YtebphbnkogianaasortI g 0 cap l w hH (blk_lt hh) hl
      rw [hv]
      refine hc.mono ?_
      rintro e w' ⟨rfl, n, os, rfl⟩
      exact ⟨rfl, ownsRow_sortedI (ss := l) (ts := sorted l) hsl hg hh hcap hmax hsz, grownBy_sortedI _⟩
theorem compact_own (base : Nat) (v : Value) (l : List Int) (w : World) (h : w.ownsRow base TI 1 v l.length (ints l)) :
    Calls Try.prog 56 #[v] w fun e w' => ∃ v', e = .returned v' ∧ w'.ownsRow base TI 1 v' (Lib.compact l).length (ints (Lib.compact l)) ∧ w.grownBy w' v.ownBlock ∧ (∀ k, v'.ownBlock = some k → v.ownBlock = some k) := by
  have hnil : l = [] → ∀ p c, v = .slice p 0 c → Calls Try.prog 56 #[v] w fun e w' => ∃ v', e = .returned v' ∧ w'.ownsRow base TI 1 v' (Lib.compact l).length (ints (Lib.compact l)) ∧ w.grownBy w' v.ownBlock ∧ (∀ k, v'.ownBlock = some k → v.ownBlock = some k) := by
    intro hl0 p c hv
    subst hl0
    have hc := Any.slices_Compact_int_empty Try.YtebphbnkogianaacompI p c w
    rw [hv] at h ⊢
    refine hc.mono ?_
    rintro e w' ⟨rfl, rfl⟩
    exact ⟨_, rfl, h, ⟨rfl, rfl, rfl, Nat.le_refl _, fun _ _ _ => rfl⟩, fun k hk => hk⟩
  rcases h.2 with ⟨hv, hn⟩ | ⟨g, cap, cur, hv, hg, hh, hcap, hmax, hsz, htk⟩
  · exact hnil (List.eq_nil_of_length_eq_zero hn) _ _ hv
  · by_cases hl0 : l = []
    · refine hnil hl0 (some ⟨g, 0, none⟩) cap ?_
      rw [hv, hl0]
      rfl
    · have hH := holds_of_blockI (ss := l) hh (by simpa [ints] using htk)
      have hc := Any.slices_Compact_int Try.YtebphbnkogianaacompI g 0 cap l w hH (by unfold maxLen at hmax; omega) hcap
      rw [hv]
      refine hc.mono ?_
      rintro e w' ⟨rfl, q, rfl⟩
      have hcl : (Lib.compact l).length ≤ l.length := by
        unfold Lib.compact Lib.compactUpTo
        rw [List.length_map]
        exact Nat.le_trans (List.length_filter_le _ _) (by simp)
      have hw : ∀ d : Array Int, putRow (Value.int .i64) (Sort.ahead w q) g 0 d = grow (putRow (Value.int .i64) (Sort.ahead w q) g 0 d) #[] := fun d => (grow_empty _).symm
      refine ⟨_, rfl, ?_, ?_, fun k hk => hk⟩
      · rw [hw]
        refine ⟨by simp [ints], .inr ⟨g, cap, _, rfl, hg, heap_sortedI _ hh, by omega, hmax, by simp [putCells, hsz], ?_⟩⟩
        have h1 := take_putCellsI cur (Lib.compact l ++ List.replicate (l.length - (Lib.compact l).length) 0) (by simp; omega)
        have h2 := congrArg (List.take (Lib.compact l).length) h1
        rw [List.take_take, Nat.min_eq_left (by simp)] at h2
        rw [Nat.mul_one, h2]
        simp [ints]
      · rw [hw]
        exact grownBy_sortedI _
abbrev TR : TypeId := 34
def encR (x : R) : List Value := [.int .i64 x.1, .int .i64 x.2]
theorem flat_len (l : List R) : (l.flatMap encR).length = l.length * 2 := by
  induction l with
  | nil => rfl
  | cons x t ih => rw [List.flatMap_cons, List.length_append, ih, List.length_cons]; simp [encR]; omega
theorem flat_one (l : List R) : ∀ u ∈ l.flatMap encR, u.oneCell' = true := by
  intro u hu
  obtain ⟨x, _, h⟩ := List.mem_flatMap.1 hu
  simp only [encR, List.mem_cons, List.not_mem_nil, or_false] at h
  rcases h with rfl | rfl <;> rfl
/-- A row of ranges that is read: nil, or from a block's beginning on. -/
def Row (w : World) (A : Option Addr) (l : List R) : Prop := (A = none ∧ l = []) ∨ ∃ g, A = some ⟨g, 0, none⟩ ∧ g < w.heap.size ∧ ∀ (j : Nat) u, (l.flatMap encR)[j]? = some u → w.cell? ⟨g, j, none⟩ = some u
theorem Row.below {w w' : World} {A : Option Addr} {l : List R} (h : Row w A l) (hb : Below w.heap.size w w') : Row w' A l := by
  rcases h with h | ⟨g, hA, hg, hc⟩
  · exact .inl h
  · exact .inr ⟨g, hA, Nat.lt_of_lt_of_le hg hb.size, fun j u hj => (hb.cell (p := ⟨g, j, none⟩) hg).trans (hc j u hj)⟩
theorem infoR : (Try.prog.info? TR).map (fun i => (i.zero, i.size, i.bytes)) = some (some (.agg #[.int .i64 0, .int .i64 0]), 2, 16) := by kernel_rfl
theorem infoI : (Try.prog.info? TI).map (fun i => (i.zero, i.size, i.bytes)) = some (some (.int .i64 0), 1, 8) := by kernel_rfl
theorem clone_own (A : Option Addr) (c : Nat) (l : List R) (w : World) (h : Row w A l) (hl : l.length ≤ 1000000000) :
    Calls Try.prog 54 #[.slice A l.length c] w fun e w' => ∃ v, e = .returned v ∧ w'.ownsRow w.heap.size TR 2 v l.length (l.flatMap encR) ∧ Below w.heap.size w w' := by
  rcases h with ⟨rfl, rfl⟩ | ⟨g, rfl, hg, hc⟩
  · refine (AnyE.slices_Clone_nil Try.YtebphbnkogianaacloneR 0 c w).mono ?_
    rintro e w' ⟨rfl, rfl⟩
    exact ⟨_, rfl, World.ownsRow_nil _ _ _ _, Below.refl _ _⟩
  · obtain ⟨i0, hi, hz0, hz1, hz2⟩ := info_parts infoR
    refine (AnyE.slices_Clone Try.YtebphbnkogianaacloneR i0 (.agg #[.int .i64 0, .int .i64 0]) 2 16 hi hz0 hz1 hz2 rfl (by decide) Try.sizeOf34 g 0 l.length c (l.flatMap encR) w (flat_len l) (by unfold maxLen; omega) (by omega) (fun j u hj => by rw [Nat.zero_add]; exact hc j u hj) (flat_one l)).mono ?_
    rintro e w' ⟨v, rfl, h1, _, h2⟩
    exact ⟨v, rfl, h1, h2⟩
/-- 'append(s, x...)', s of the call's own, x a row that is read. -/
theorem append_row {w : World} {ops : Array Oper} {rest : List Oper} {o : Oper} {a : Act} {Q : Exit → Act → World → Prop} (hgd : o.guard = none) (s x : Operand)
    (ho : o.op = .call { callee := .builtin .append, args := #[s, x], argTypes := #[22, 22] })
    (base : Nat) (v : Value) (n : Nat) (xs : List Value) (hs : a.eval s = v) (hown : w.ownsRow base TR 2 v n xs)
    (A : Option Addr) (c : Nat) (l : List R) (hx : a.eval x = .slice A l.length c) (hc : A = none → c = 0) (hrow : Row w A l) (hn : n + l.length ≤ 2000000000) (hbase : base ≤ w.heap.size)
    (h : ∀ v' w', w'.ownsRow base TR 2 v' (n + l.length) (xs ++ l.flatMap encR) → w.grownBy w' v.ownBlock → wpList Try.prog ops Q rest (a.put o.dst v') w') : wpList Try.prog ops Q (o :: rest) a w := by
  obtain ⟨i0, hi, hz0, hz1, hz2⟩ := info_parts infoR
  rcases hrow with ⟨rfl, rfl⟩ | ⟨g, rfl, hg, hcell⟩
  · rw [hc rfl] at hx
    refine wpList_append_own_none hgd s x 22 ho base TR i0 2 Try.underlying22 hi v n xs hs hown hx (h _ _ ?_ ⟨rfl, rfl, rfl, Nat.le_refl _, fun _ _ _ => rfl⟩)
    simpa using hown
  · exact wpList_append_own w hgd s x 22 ho base TR i0 (.agg #[.int .i64 0, .int .i64 0]) 2 16 Try.underlying22 hi hz0 hz1 hz2 rfl (by decide) v n xs hs hown ⟨g, 0, none⟩ l.length c (l.flatMap encR) hx (flat_len l)
      (fun j u hj => by rw [add_plain]; simpa using hcell j u hj) (flat_one l) (by unfold maxLen; omega) (by omega) hbase fun v' w' h1 h2 _ => h v' w' h1 h2
def ends (l : List R) : List Int := l.flatMap fun x => [x.1, x.2]
def bds (l : List R) : List Int := Lib.compact (sorted (ends l))
set_option maxRecDepth 100000 in
set_option maxHeartbeats 4000000 in
theorem borders_calls (A0 A1 : Option Addr) (c0 c1 : Nat) (l0 l1 : List R) (w : World) (hl0 : l0.length ≤ 1000000000) (hl1 : l1.length ≤ 1000000000) (hc1 : A1 = none → c1 = 0) (h0 : Row w A0 l0) (h1 : Row w A1 l1) :
    Calls Try.prog 42 #[.slice A0 l0.length c0, .slice A1 l1.length c1] w fun e w' => e = .returned (.func (.func 57) #[] #[.pointer (some ⟨w.heap.size, 0, none⟩)]) ∧ Below w.heap.size w w' ∧
      ∃ v, Boxed w' w.heap.size 75 v ∧ w'.ownsRow (w.heap.size + 1) TI 1 v (bds (l0 ++ l1)).length (ints (bds (l0 ++ l1))) := by
  have hb0 : Below w.heap.size w (w.alloc (.cells #[.slice none 0 0] 75)) := (Below.refl _ _).alloc (Nat.le_refl _) _
  have hcl := clone_own A0 c0 l0 (w.alloc (.cells #[.slice none 0 0] 75)) (h0.below hb0) hl0
  have h1' := h1.below hb0
  go_enter Try.func42, Try.ntmps42
  go_wp2_with (go_at_call 54; refine hcl.mono ?_)
  rintro e w1 ⟨v1, rfl, hv1, hB1⟩
  have hs1 : w.heap.size + 1 ≤ w1.heap.size := by have := hB1.size; simpa using this
  have hv1' : w1.ownsRow (w.heap.size + 1) TR 2 v1 l0.length (l0.flatMap encR) := by simpa using hv1
  have h1'' := h1'.below hB1
  go_wp2_with (at_builtin; refine append_row rfl _ _ rfl (w.heap.size + 1) _ _ _ rfl hv1' A1 c1 l1 rfl hc1 h1'' (by omega) hs1 ?_)
  intro v2 w2 hv2 hg2
  have hL1 : w1.heap.size ≤ w2.heap.size := hg2.size
  obtain ⟨A2, c2, rfl, hrd⟩ : ∃ A2 c2, v2 = .slice A2 (l0.length + l1.length) c2 ∧ ∀ (k : Nat) x, (l0 ++ l1)[k]? = some x → ∃ ad, A2 = some ad ∧ ∀ W : World, (∀ g, w.heap.size + 1 ≤ g → g < w2.heap.size → W.heap[g]? = w2.heap[g]?) →
      W.cell? (ad.add (k * 2)) = some (.int .i64 x.1) ∧ W.cell? ⟨(ad.add (k * 2)).block, (ad.add (k * 2)).off + 1, none⟩ = some (.int .i64 x.2) := by
    rcases hv2.2 with ⟨hv, hn⟩ | ⟨g, cap, cur, hv, hg, hh, hcap, hmax, hsz, htk⟩
    · refine ⟨none, 0, by rw [hv, hn], fun k x hx => ?_⟩
      have := (List.getElem?_eq_some_iff.1 hx).1
      rw [List.length_append] at this
      omega
    · refine ⟨_, cap, hv, fun k x hx => ⟨_, rfl, fun W hW => ?_⟩⟩
      have hcell : ∀ j u, ((l0 ++ l1).flatMap encR)[j]? = some u → W.cell? ⟨g, j, none⟩ = some u := by
        intro j u hj
        have hj' := (List.getElem?_eq_some_iff.1 hj).1
        rw [List.flatMap_append, ← htk, List.getElem?_take_of_lt (by rw [flat_len, List.length_append] at hj'; omega), Array.getElem?_toList] at hj
        have := (hW g hg (blk_lt hh)).trans hh
        simp only [World.cell?, this]
        simpa using hj
      have hkx : ∀ j u, (encR x)[j]? = some u → ((l0 ++ l1).flatMap encR)[k * 2 + j]? = some u := by
        intro j u hj
        obtain ⟨hk, hx'⟩ := List.getElem?_eq_some_iff.1 hx
        have e : (l0 ++ l1) = (l0 ++ l1).take k ++ x :: (l0 ++ l1).drop (k + 1) := by
          rw [← hx', ← List.drop_eq_getElem_cons hk, List.take_append_drop]
        have hjl := (List.getElem?_eq_some_iff.1 hj).1
        rw [e, List.flatMap_append, List.flatMap_cons, List.getElem?_append_right (by rw [flat_len, List.length_take]; omega), flat_len, List.length_take, Nat.min_eq_left (by omega), Nat.add_sub_cancel_left, List.getElem?_append_left hjl]
        exact hj
      refine ⟨?_, ?_⟩
      · rw [add_plain]
        simpa using hcell _ _ (hkx 0 _ rfl)
      · rw [add_plain]
        simpa using hcell _ _ (hkx 1 _ rfl)
  have bx2 : Boxed w2 w.heap.size 75 (.slice none 0 0) := by
    have b0 : Boxed (w.alloc (.cells #[.slice none 0 0] 75)) w.heap.size 75 (.slice none 0 0) := Boxed.new w _ _
    have b1 : w1.heap[w.heap.size]? = some (.cells #[.slice none 0 0] 75 (0, 0)) := (hB1.block w.heap.size (by simp)).trans b0
    refine (hg2.block w.heap.size (by omega) ?_).trans b1
    intro e'
    rcases hv1'.2 with ⟨hv, _⟩ | ⟨g, cap, cur, hv, hg, _⟩
    · rw [hv] at e'; simp [Value.ownBlock] at e'
    · rw [hv] at e'; simp [Value.ownBlock] at e'; omega
  have hb2 : Below w.heap.size w w2 := by
    refine (hb0.trans (hB1.mono (by simp))).grown hg2 (by omega) fun k hk => ?_
    rcases hv1'.2 with ⟨hv, _⟩ | ⟨g, cap, cur, hv, hg, _⟩
    · rw [hv] at hk; simp [Value.ownBlock] at hk
    · rw [hv] at hk; simp [Value.ownBlock] at hk; omega
  clear hv2 hg2 hv1 hv1' hB1 hcl h1' h1'' hb0
  have hsz2 : w.heap.size + 1 ≤ w2.heap.size := by omega
  have HR := Lib.hid hrd
  clear hrd
  obtain ⟨i0, hi, hz0, hz1, hz2⟩ := info_parts infoI
  go_wp2
  go_loopw [13] (fun i wr => ∃ k : Nat, i = .int .i64 k ∧ k ≤ l0.length + l1.length ∧ Below w.heap.size w wr ∧ w2.heap.size ≤ wr.heap.size ∧ Hid (∀ g, w.heap.size + 1 ≤ g → g < w2.heap.size → wr.heap[g]? = w2.heap[g]?) ∧ ∃ vv, Boxed wr w.heap.size 75 vv ∧ wr.ownsRow w2.heap.size TI 1 vv (k * 2) (ints (ends ((l0 ++ l1).take k)))) (fun i _ => l0.length + l1.length - (intOf i).toNat)
  case atStart => exact ⟨0, rfl, Nat.zero_le _, hb2, Nat.le_refl _, Lib.hid (fun _ _ _ => rfl), _, bx2, World.ownsRow_nil _ _ _ _⟩
  case round =>
    obtain ⟨k, rfl, hk, hB, hLr, hsame, vv, hbx, hrow⟩ := hrel
    by_cases hlt : k < l0.length + l1.length
    · have hx : (l0 ++ l1)[k]? = some ((l0 ++ l1)[k]'(by rw [List.length_append]; exact hlt)) := List.getElem?_eq_getElem _
      obtain ⟨x, hx⟩ : ∃ x, (l0 ++ l1)[k]? = some x := ⟨_, hx⟩
      obtain ⟨ad, rfl, hc⟩ := HR.out k x hx
      obtain ⟨c0', c1'⟩ := hc wr hsame.out
      clear hc
      have HX := Lib.hid hx
      clear hx
      have hbx1 := hbx.alloc (.cells #[.int .i64 x.1, .int .i64 x.2] 34)
      have hrow1 := hrow.alloc (.cells #[.int .i64 x.1, .int .i64 x.2] 34)
      have cv := hbx1.cell
      have hcells : ∀ (j : Nat) (u : Value), [Value.int .i64 x.1, .int .i64 x.2][j]? = some u → ((wr.alloc (.cells #[.int .i64 x.1, .int .i64 x.2] 34)).alloc (.cells #[.int .i64 x.1, .int .i64 x.2] 3)).cell? ((⟨wr.heap.size + 1, 0, none⟩ : Addr).add j) = some u := by
        intro j u hj
        have h := blk_cell (blk_new (wr.alloc (.cells #[.int .i64 x.1, .int .i64 x.2] 34)) (.cells #[.int .i64 x.1, .int .i64 x.2] 3)) j
        rw [add_plain]
        have e : (wr.alloc (.cells #[.int .i64 x.1, .int .i64 x.2] 34)).heap.size = wr.heap.size + 1 := by simp
        rw [e] at h
        rw [h, ← hj]
        simp
      have one : ∀ u ∈ [Value.int .i64 x.1, .int .i64 x.2], u.oneCell' = true := by
        intro u hu
        simp at hu
        rcases hu with rfl | rfl <;> rfl
      have HC := Lib.hid hcells
      have H1 := Lib.hid one
      clear hcells one
      have maxl : maxLen = 9223372036854775807 := rfl
      have HM := Lib.hid maxl
      clear maxl
      go_wp2_with (at_builtin; refine wpList_append_own _ rfl _ _ 75 rfl w2.heap.size TI i0 (.int .i64 0) 1 8 Try.underlying75 hi hz0 hz1 hz2 rfl (by decide) _ _ _ rfl (hrow1.alloc _) ⟨wr.heap.size + 1, 0, none⟩ 2 2 [.int .i64 x.1, .int .i64 x.2] rfl rfl HC.out H1.out (by have := HM.out; omega) (by omega) (by simp; omega) ?_)
      intro v' w3 hown' hgrow _
      obtain ⟨g', cap', rfl⟩ := ownsRow_succ hown'
      obtain ⟨hv1, hv2, hr2, hk2, hb2'⟩ := append_step (n₀ := w.heap.size) (Ls := []) hbx1 (by omega) hrow1 (by simp; omega) hown' hgrow (by omega) (fun b hb => nomatch hb)
      have hkeep : Hid (∀ g, w.heap.size + 1 ≤ g → g < w2.heap.size → (w3.setCell ⟨w.heap.size, 0, none⟩ (.slice (some ⟨g', 0, none⟩) (k * 2 + 2) cap')).heap[g]? = w2.heap[g]?) := Lib.hid fun g hg1 hg2 => by
        refine (Below.heap_setCell w3 ⟨w.heap.size, 0, none⟩ _ g (by simp; omega)).trans ((hgrow.block g (by simp; omega) ?_).trans ?_)
        · intro e'
          have := own_base hrow g e'.symm
          omega
        · rw [Below.heap_alloc _ _ g (by simp; omega), Below.heap_alloc _ _ g (by omega)]
          exact hsame.out g hg1 hg2
      have hB4 : Below w.heap.size w (w3.setCell ⟨w.heap.size, 0, none⟩ (.slice (some ⟨g', 0, none⟩) (k * 2 + 2) cap')) := (hB.alloc hB.size _).trans hb2'.1
      have hc3 := hv1.cell
      have hf3 := hv1.frozen
      have hsz4 := hk2.1
      have htk : ends ((l0 ++ l1).take (k + 1)) = ends ((l0 ++ l1).take k) ++ [x.1, x.2] := by
        obtain ⟨hj, he⟩ := List.getElem?_eq_some_iff.1 HX.out
        unfold ends
        rw [List.take_succ_eq_append_getElem hj, he, List.flatMap_append]
        simp
      have hr3 : (w3.setCell ⟨w.heap.size, 0, none⟩ (.slice (some ⟨g', 0, none⟩) (k * 2 + 2) cap')).ownsRow w2.heap.size TI 1 (.slice (some ⟨g', 0, none⟩) (k * 2 + 2) cap') ((k + 1) * 2) (ints (ends ((l0 ++ l1).take (k + 1)))) := by
        rw [htk, show (k + 1) * 2 = k * 2 + 2 by omega]
        simpa [ints] using hr2
      clear hgrow hown' hr2 htk cv hbx1 hrow1 hv1
      go_wp2
      go_roundw
      case rel => exact ⟨k + 1, by first | rfl | (congr 1; omega), by omega, hB4, by simp at hsz4 ⊢; omega, hkeep, _, hv2, hr3⟩
      case measure => simp [intOf]; omega
    · obtain rfl : k = l0.length + l1.length := by omega
      rw [List.take_of_length_le (by rw [List.length_append]; omega)] at hrow
      have hE : (ends (l0 ++ l1)).length = (l0.length + l1.length) * 2 := by
        have : ∀ l : List R, (ends l).length = l.length * 2 := by
          intro l
          induction l with
          | nil => rfl
          | cons x t ih => show ([x.1, x.2] ++ ends t).length = _; rw [List.length_append, ih, List.length_cons]; simp; omega
        rw [this, List.length_append]
      rw [← hE] at hrow
      have hso := sort_own w2.heap.size vv (ends (l0 ++ l1)) wr hrow (by omega)
      have hne : some w.heap.size ≠ vv.ownBlock := fun e' => by have := own_base hrow _ e'.symm; omega
      have cv := hbx.cell
      have hob := fun k hk => own_base hrow k hk
      clear hE
      go_wp2_with (go_at_call 55; refine hso.mono ?_)
      rintro e w5 ⟨rfl, hr5, hg5⟩
      have hbx5 := hbx.kept hg5 hne
      have hl5 : (ends (l0 ++ l1)).length = (sorted (ends (l0 ++ l1))).length := (List.length_mergeSort _).symm
      rw [hl5] at hr5
      have hco := compact_own w2.heap.size vv (sorted (ends (l0 ++ l1))) w5 hr5
      have hB5 : Below w.heap.size w w5 := hB.grown hg5 hB.size (fun k hk => by have := hob k hk; omega)
      have cv5 := hbx5.cell
      clear hl5 hso cv hrow
      go_wp2_with (go_at_call 56; refine hco.mono ?_)
      rintro e w6 ⟨v6, rfl, hr6, hg6, ho6⟩
      obtain ⟨A6, n6, c6, rfl⟩ : ∃ A6 n6 c6, v6 = .slice A6 n6 c6 := by
        rcases hr6.2 with ⟨hv, _⟩ | ⟨g, cap, cur, hv, _⟩
        · exact ⟨_, _, _, hv⟩
        · exact ⟨_, _, _, hv⟩
      have hbx6 := hbx5.kept hg6 hne
      have hB6 : Below w.heap.size w w6 := hB5.grown hg6 hB5.size (fun k hk => by have := hob k hk; omega)
      have cv6 := hbx6.cell
      have cf6 := hbx6.frozen
      clear hco cv5
      go_wp2
      go_ret
      refine ⟨rfl, hB6.setCell (p := ⟨w.heap.size, 0, none⟩) (Nat.le_refl _) _, _, hbx6.set _, ?_⟩
      have hne6 : (Value.slice A6 n6 c6).ownBlock ≠ some w.heap.size := fun e' => hne (ho6 _ e').symm
      exact own_weaken (hr6.kept (grownBy_setCell' w6 w.heap.size _) (.inr hne6)) (by omega)
end Go.Proofs.Ytebphbnkogianaa.Brd
