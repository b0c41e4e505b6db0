/- Sorted and compacted rows of numbers of the call's own; slices.Sorted. No condition but the reach. -/
import Derived.Test.YtkfpmolplemdlaaBegun
import Derived.Test.YtkfpmolplemdlaaLaySC
import Derived.Shelf.Sort.Plain
import Derived.Shelf.Slices.In.SortNone
import Derived.Shelf.Slices.CompactI
import Derived.Sort.OwnSortedInts
import Derived.Laws.AppendOwnNone
namespace Go.Proofs.Ytkfpmolplemdlaa.Srt
open Go Go.RowKit Go.Shelf Go.Maps Go.Sort Go.Proofs.YtkfpmolplemdlaaW.PrintWords Go.Proofs.YtkfpmolplemdlaaW.PrintLast Go.Proofs.Ytkfpmolplemdlaa.Round Go.Proofs.Ytkfpmolplemdlaa.RangeG Go.Proofs.Ytkfpmolplemdlaa.RangeH Go.Proofs.Ytkfpmolplemdlaa.Fl Go.Proofs.Ytkfpmolplemdlaa.Grow Go.Proofs.Ytkfpmolplemdlaa.Seqs Go.Proofs.Ytkfpmolplemdlaa.MSet Go.Proofs.Ytkfpmolplemdlaa.Ahd
attribute [local go_sem] Oper.semAt_some
set_option linter.unusedVariables false
set_option linter.unusedSimpArgs false
def nums (l : List Int) : List Value := l.map (Value.int .i64)
def sorted (l : List Int) : List Int := l.mergeSort fun x y => decide (x ≤ y)
theorem sort_own (base : Nat) (v : Value) (l : List Int) (w : World) (h : w.ownsRow base TI 1 v l.length (nums l)) (hl : l.length < 4611686018427387904) :
    Calls Try.prog 58 #[v] w fun e w' => e = .returned (.tuple #[]) ∧ w'.ownsRow base TI 1 v l.length (nums (sorted l)) ∧ w.grownBy w' v.ownBlock := by
  have hsl : (sorted l).length = l.length := List.length_mergeSort l
  have hnil : l = [] → ∀ p c, v = .slice p 0 c → Calls Try.prog 58 #[v] w fun e w' => e = .returned (.tuple #[]) ∧ w'.ownsRow base TI 1 v l.length (nums (sorted l)) ∧ w.grownBy w' v.ownBlock := by
    intro hl0 p c hv
    subst hl0
    have hc := Any.slices_Sort_int_none Try.YtkfpmolplemdlaasortI p c w
    rw [hv] at h ⊢
    refine hc.mono ?_
    rintro e w' ⟨rfl, rfl⟩
    exact ⟨rfl, by simpa [sorted, nums] using h, rfl, rfl, rfl, Nat.le_refl _, fun _ _ _ => rfl⟩
  rcases h.2 with ⟨hv, hn⟩ | ⟨g, cap, cur, hv, hg, hh, hcap, hmax, hsz, htk⟩
  · exact hnil (List.eq_nil_of_length_eq_zero hn) _ _ hv
  · by_cases hl0 : l = []
    · refine hnil hl0 (some ⟨g, 0, none⟩) cap ?_
      rw [hv, hl0]
      rfl
    · have hH := holds_of_blockI (ss := l) hh (by simpa [nums] using htk)
      have hc := Any.slices_Sort_int Try.YtkfpmolplemdlaasortI g 0 cap l w hH (blk_lt hh) hl
      rw [hv]
      refine hc.mono ?_
      rintro e w' ⟨rfl, n, os, rfl⟩
      exact ⟨rfl, ownsRow_sortedI (ss := l) (ts := sorted l) hsl hg hh hcap hmax hsz, grownBy_sortedI _⟩
theorem compact_own (base : Nat) (v : Value) (l : List Int) (w : World) (h : w.ownsRow base TI 1 v l.length (nums l)) :
    Calls Try.prog 44 #[v] w fun e w' => ∃ v', e = .returned v' ∧ w'.ownsRow base TI 1 v' (Lib.compact l).length (nums (Lib.compact l)) ∧ w.grownBy w' v.ownBlock ∧ (∀ k, v'.ownBlock = some k → v.ownBlock = some k) := by
  have hnil : l = [] → ∀ p c, v = .slice p 0 c → Calls Try.prog 44 #[v] w fun e w' => ∃ v', e = .returned v' ∧ w'.ownsRow base TI 1 v' (Lib.compact l).length (nums (Lib.compact l)) ∧ w.grownBy w' v.ownBlock ∧ (∀ k, v'.ownBlock = some k → v.ownBlock = some k) := by
    intro hl0 p c hv
    subst hl0
    have hc := Any.slices_Compact_int_empty Try.YtkfpmolplemdlaacompI p c w
    rw [hv] at h ⊢
    refine hc.mono ?_
    rintro e w' ⟨rfl, rfl⟩
    exact ⟨_, rfl, h, ⟨rfl, rfl, rfl, Nat.le_refl _, fun _ _ _ => rfl⟩, fun k hk => hk⟩
  rcases h.2 with ⟨hv, hn⟩ | ⟨g, cap, cur, hv, hg, hh, hcap, hmax, hsz, htk⟩
  · exact hnil (List.eq_nil_of_length_eq_zero hn) _ _ hv
  · by_cases hl0 : l = []
    · refine hnil hl0 (some ⟨g, 0, none⟩) cap ?_
      rw [hv, hl0]
      rfl
    · have hH := holds_of_blockI (ss := l) hh (by simpa [nums] using htk)
      have hc := Any.slices_Compact_int Try.YtkfpmolplemdlaacompI g 0 cap l w hH (by unfold maxLen at hmax; omega) hcap
      rw [hv]
      refine hc.mono ?_
      rintro e w' ⟨rfl, q, rfl⟩
      have hcl : (Lib.compact l).length ≤ l.length := by
        unfold Lib.compact Lib.compactUpTo
        rw [List.length_map]
        exact Nat.le_trans (List.length_filter_le _ _) (by simp)
      have hw : ∀ d : Array Int, putRow (Value.int .i64) (Sort.ahead w q) g 0 d = grow (putRow (Value.int .i64) (Sort.ahead w q) g 0 d) #[] := fun d => (grow_empty _).symm
      refine ⟨_, rfl, ?_, ?_, fun k hk => hk⟩
      · rw [hw]
        refine ⟨by simp [nums], .inr ⟨g, cap, _, rfl, hg, heap_sortedI _ hh, by omega, hmax, by simp [putCells, hsz], ?_⟩⟩
        have h1 := take_putCellsI cur (Lib.compact l ++ List.replicate (l.length - (Lib.compact l).length) 0) (by simp; omega)
        have h2 := congrArg (List.take (Lib.compact l).length) h1
        rw [List.take_take, Nat.min_eq_left (by simp)] at h2
        rw [Nat.mul_one, h2]
        simp [nums]
      · rw [hw]
        exact grownBy_sortedI _
end Go.Proofs.Ytkfpmolplemdlaa.Srt
