/- span.borders' iterator walked: the pieces between borders. No condition. -/
import Derived.Test.YtebphbnkogianaaBrd
import Derived.Shelf.Abstract
import Derived.Shelf.RegionOpen
import Derived.OwnWalkIn
import Derived.TacticsInMore
import Derived.LoopNIn
import Derived.LoopIn
import Derived.Lib.Hide
namespace Go.Proofs.Ytebphbnkogianaa.Gap
open Go Go.RowKit Go.Shelf Go.Proofs.YtebphbnkogianaaW.PrintWords Go.Proofs.Ytebphbnkogianaa.Round Go.Proofs.Ytebphbnkogianaa.Rg Go.Proofs.Ytebphbnkogianaa.RangeG Go.Proofs.Ytebphbnkogianaa.Brd
attribute [local go_sem] Oper.semAt_some
set_option linter.unusedVariables false
set_option linter.unusedSimpArgs false
def gaps (l : List Int) : List R := l.zip l.tail
def encG (x : R) : Array Value := #[.agg #[.int .i64 x.1, .int .i64 x.2]]
theorem gaps_len (l : List Int) : (gaps l).length = l.length - 1 := by simp [gaps]
theorem gaps_at {l : List Int} {j : Nat} (h : j < (gaps l).length) : ∃ x y, l[j]? = some x ∧ l[j + 1]? = some y ∧ (gaps l)[j]? = some (x, y) := by
  rw [gaps_len] at h
  refine ⟨l[j], l[j + 1], List.getElem?_eq_getElem _, List.getElem?_eq_getElem _, ?_⟩
  rw [List.getElem?_eq_getElem (by rw [gaps_len]; omega)]
  simp [gaps]
theorem take_succ_of {α : Type} {l : List α} {j : Nat} {x : α} (h : l[j]? = some x) : l.take (j + 1) = l.take j ++ [x] := by
  obtain ⟨hj, hx⟩ := List.getElem?_eq_some_iff.1 h
  rw [List.take_succ_eq_append_getElem hj, hx]
set_option maxRecDepth 100000 in
set_option maxHeartbeats 4000000 in
theorem gaps_stops (n B g : Nat) (hn : 1 ≤ n) (A : Option Addr) (cap : Nat) (l : List Int) (cs : Array Value) (w0 w : World) (hw0 : Below w0.heap.size w0 w) (hl : l.length ≤ 1000000000000)
    (hB : w.heap[B]? = some (.cells #[.slice A l.length cap] 75 (0, 0))) (hg : l ≠ [] → A = some ⟨g, 0, none⟩ ∧ w.heap[g]? = some (.cells cs TI (0, 0)) ∧ ∀ (j : Nat) x, l[j]? = some x → cs[j]? = some (.int .i64 x)) :
    SeqG n Try.prog 57 #[.pointer (some ⟨B, 0, none⟩)] encG (KeepL w0.heap.size [B, g]) (fun _ => False)
      (fun ys => ys = gaps l) (fun pre => pre <+: gaps l) (gaps l).length w := by
  intro L J Jx W hW hJ hJx hY h0
  have hBW := hW.same B _ hB (fun h => h) (.inr rfl)
  have hwW : Below w0.heap.size w0 W := below_turn hw0 hW (Nat.le_refl _) hw0.size (fun k h => h.elim)
  have hgW : l ≠ [] → A = some ⟨g, 0, none⟩ ∧ W.heap[g]? = some (.cells cs TI (0, 0)) ∧ ∀ (j : Nat) x, l[j]? = some x → cs[j]? = some (.int .i64 x) := fun h => ⟨(hg h).1, hW.same g _ (hg h).2.1 (fun h => h) (.inr rfl), (hg h).2.2⟩
  have HG := Lib.hid hgW
  clear hW hw0 hB hg hgW
  refine callsIn_of_wp Try.func57 rfl trivial ?_ rfl
  simp only [Try.ntmps57, List.size_toArray, List.length_cons, List.length_nil, Nat.reduceAdd, Nat.reduceSub, Array.replicate_succ, Array.replicate_zero, List.push_toArray, List.append_toArray, List.nil_append, List.cons_append]
  gi_wp2
  gi_loopw [3] (fun i wr => ∃ j : Nat, i = .int .i64 ((j : Int) + 1) ∧ j ≤ (gaps l).length ∧ J ((gaps l).take j) wr ∧ wr.heap[B]? = some (.cells #[.slice A l.length cap] 75 (0, 0)) ∧ Hid (l ≠ [] → wr.heap[g]? = some (.cells cs TI (0, 0))) ∧ Below w0.heap.size w0 wr)
    (fun i _ => (gaps l).length + 1 - (intOf i).toNat)
  case atStart => exact ⟨0, rfl, Nat.zero_le _, by simpa using h0, hBW, Lib.hid (fun h => (HG.out h).2.1), hwW⟩
  case round =>
    obtain ⟨j, rfl, hj, hJs, hb, hgr, hbl⟩ := hrel
    have cb := blk_cell hb 0
    simp only [List.getElem?_toArray, List.getElem?_cons_zero] at cb
    by_cases hlt : j < (gaps l).length
    · obtain ⟨x, y, hx, hy0, hxy⟩ := gaps_at hlt
      have hne : l ≠ [] := fun e => by rw [e] at hx; cases hx
      obtain ⟨rfl, _, hcs⟩ := HG.out hne
      have hlt2 : (j : Int) + 1 < (l.length : Int) := by have := gaps_len l; omega
      have cx : wr.drew.cell? ⟨g, j, none⟩ = some (.int .i64 x) := by
        have := blk_cell (hgr.out hne) j
        rw [hcs j x hx] at this
        exact this
      have cy : wr.drew.cell? ⟨g, j + 1, none⟩ = some (.int .i64 y) := by
        have := blk_cell (hgr.out hne) (j + 1)
        rw [hcs (j + 1) y hy0] at this
        exact this
      have cb' : wr.drew.cell? ⟨B, 0, none⟩ = some (.slice (some ⟨g, 0, none⟩) l.length cap) := cb
      obtain ⟨fn, tmps, assign, body, hy, hR⟩ := hY _ (x, y) wr.drew (hJ _ _ _ hJs Turn.drew) (by rw [List.length_take]; omega)
      simp only [encG] at hy
      have hT := Lib.hid (take_succ_of hxy)
      clear hxy hx hy0 hcs hY
      have ew : IntKind.i64.wrap (j : Int) = (j : Int) := by
        have : l.length ≤ 1000000000000 := hl
        have e := IntKind.wrap_i64 (j : Int)
        unfold wrap64 at *
        omega
      have p1 : (0 : Int) ≤ (j : Int) + 1 := by omega
      have p2 : (j : Int) < (l.length : Int) := by omega
      gi_wp2
      rename_i hK2
      have HKK := Lib.hid hK2
      clear hK2
      refine wpIn_region_any (by kernel_rfl) ?_
      change wpAnyIn _ _ _ _ _ _ _ _ _ (World.drew _)
      refine wpAnyIn_take (i := 0) (v := ?_) rfl rfl (by kernel_rfl) (by kernel_rfl) (by kernel_rfl) (fun _ _ _ h => h) ⟨Or.inl ⟨by rfl, ?_⟩, fun _ => rfl⟩ ?_
      rotate_left
      · intro w; go_simp; first | done | with_reducible rfl
      refine wpAnyIn_take (i := 2) (v := ?_) rfl rfl (by kernel_rfl) (by kernel_rfl) (by kernel_rfl) (fun _ _ _ h => h) ⟨Or.inl ⟨by rfl, ?_⟩, fun _ => rfl⟩ ?_
      rotate_left
      · intro w; go_simp; first | done | with_reducible rfl
      refine wpAnyIn_take (i := 3) (v := ?_) rfl rfl (by kernel_rfl) (by kernel_rfl) (by kernel_rfl) (fun _ _ _ h => h) ⟨Or.inl ⟨by rfl, ?_⟩, fun _ => rfl⟩ ?_
      rotate_left
      · intro w; go_simp; first | done | with_reducible rfl
      refine wpAnyIn_take (i := 7) (v := ?_) rfl rfl (by kernel_rfl) (by kernel_rfl) (by kernel_rfl) (fun _ _ _ h => h) ⟨Or.inl ⟨by rfl, ?_⟩, fun _ => rfl⟩ ?_
      rotate_left
      · intro w; go_simp; first | done | with_reducible rfl
      refine wpAnyIn_ready (rs := [1, 6]) (by kernel_rfl) (by simp) ?_
      refine AllReadyIn.cons rfl (fun K hK => ?_) ?_
      · go_simp
        refine hK _ _ ?_
        clear hK K
        refine wpAnyIn_take (i := 4) (v := ?_) rfl rfl (by kernel_rfl) (by kernel_rfl) (by kernel_rfl) (fun _ _ _ h => h) ⟨Or.inl ⟨by rfl, ?_⟩, fun _ => rfl⟩ ?_
        rotate_left
        · intro w; go_simp; first | done | with_reducible rfl
        refine wpAnyIn_ready (rs := [5, 6]) (by kernel_rfl) (by simp) ?_
        refine AllReadyIn.cons rfl (fun K hK => ?_) ?_
        · go_simp
          refine hK _ _ ?_
          clear hK K
          refine wpAnyIn_ready (rs := [6]) (by kernel_rfl) (by simp) ?_
          refine AllReadyIn.cons rfl (fun K hK => ?_) ?_
          · go_simp
            refine hK _ _ ?_
            clear hK K
            refine wpAnyIn_take (i := 8) (v := ?_) rfl rfl (by kernel_rfl) (by kernel_rfl) (by kernel_rfl) (fun _ _ _ h => h) ⟨Or.inl ⟨by rfl, ?_⟩, fun _ => rfl⟩ ?_
            rotate_left
            · intro w; go_simp; first | done | with_reducible rfl
            refine wpAnyIn_ready (rs := [9]) (by kernel_rfl) (by simp) ?_
            refine AllReadyIn.cons rfl (fun K hK => ?_) ?_
            · go_simp
              refine hK _ _ ?_
              clear hK K
              refine wpAnyIn_take (i := 10) (v := ?_) rfl rfl (by kernel_rfl) (by kernel_rfl) (by kernel_rfl) (fun _ _ _ h => h) ⟨Or.inl ⟨by rfl, ?_⟩, fun _ => rfl⟩ ?_
              rotate_left
              · intro w; go_simp; first | done | with_reducible rfl
              refine wpAnyIn_ready (rs := [11]) (by kernel_rfl) (by simp) ?_
              refine AllReadyIn.cons rfl (fun K hK => ?_) ?_
              · go_simp
                refine hR.mono ?_
                rintro e W3 (⟨rfl, hJ3, hk3⟩ | ⟨rfl, hJx3⟩)
                · refine hK _ _ ?_
                  clear hK K
                  refine wpAnyIn_take (i := 12) (v := ?_) rfl rfl (by kernel_rfl) (by kernel_rfl) (by kernel_rfl) (fun _ _ _ h => h) ⟨Or.inl ⟨by rfl, ?_⟩, fun _ => rfl⟩ ?_
                  rotate_left
                  · intro w; go_simp; first | done | with_reducible rfl
                  refine wpAnyIn_done (by kernel_rfl) ?_ _
                  refine HKK.out _ _ ?_
                  have hb3 : W3.heap[B]? = some (.cells #[.slice (some ⟨g, 0, none⟩) l.length cap] 75 (0, 0)) := (hk3.2 B (by simp) (blk_lt hb)).trans hb
                  have hg3 : Hid (l ≠ [] → W3.heap[g]? = some (.cells cs TI (0, 0))) := Lib.hid fun h => (hk3.2 g (by simp) (blk_lt (hgr.out h))).trans (hgr.out h)
                  have hbl3 : Below w0.heap.size w0 W3 := (below_drew hbl).trans hk3.1
                  clear hk3 hR hy
                  gi_wp2
                  go_roundw
                  case rel => exact ⟨j + 1, by first | rfl | (congr 1; omega), by omega, by rw [hT.out]; exact hJ3, hb3, hg3, hbl3⟩
                  case measure => simp [intOf]; omega
                · refine hK _ _ ?_
                  clear hK K
                  refine wpAnyIn_take (i := 12) (v := ?_) rfl rfl (by kernel_rfl) (by kernel_rfl) (by kernel_rfl) (fun _ _ _ h => h) ⟨Or.inl ⟨by rfl, ?_⟩, fun _ => rfl⟩ ?_
                  rotate_left
                  · intro w; go_simp; first | done | with_reducible rfl
                  refine wpAnyIn_done (by kernel_rfl) ?_ _
                  refine HKK.out _ _ ?_
                  clear hR hy
                  gi_wp2
                  refine bodyPost_ret (results_none rfl _ _ _) rfl ?_
                  exact ⟨⟨_, rfl⟩, .inr ⟨_, by rw [← hT.out]; exact List.take_prefix _ _, hJx3⟩⟩
              exact AllReadyIn.nil
            exact AllReadyIn.nil
          exact AllReadyIn.nil
        refine AllReadyIn.cons rfl (fun K hK => ?_) ?_
        · go_simp
          refine hK _ _ ?_
          clear hK K
          refine wpAnyIn_take (i := 8) (v := ?_) rfl rfl (by kernel_rfl) (by kernel_rfl) (by kernel_rfl) (fun _ _ _ h => h) ⟨Or.inl ⟨by rfl, ?_⟩, fun _ => rfl⟩ ?_
          rotate_left
          · intro w; go_simp; first | done | with_reducible rfl
          refine wpAnyIn_ready (rs := [5, 9]) (by kernel_rfl) (by simp) ?_
          refine AllReadyIn.cons rfl (fun K hK => ?_) ?_
          · go_simp
            refine hK _ _ ?_
            clear hK K
            refine wpAnyIn_ready (rs := [9]) (by kernel_rfl) (by simp) ?_
            refine AllReadyIn.cons rfl (fun K hK => ?_) ?_
            · go_simp
              refine hK _ _ ?_
              clear hK K
              refine wpAnyIn_take (i := 10) (v := ?_) rfl rfl (by kernel_rfl) (by kernel_rfl) (by kernel_rfl) (fun _ _ _ h => h) ⟨Or.inl ⟨by rfl, ?_⟩, fun _ => rfl⟩ ?_
              rotate_left
              · intro w; go_simp; first | done | with_reducible rfl
              refine wpAnyIn_ready (rs := [11]) (by kernel_rfl) (by simp) ?_
              refine AllReadyIn.cons rfl (fun K hK => ?_) ?_
              · go_simp
                refine hR.mono ?_
                rintro e W3 (⟨rfl, hJ3, hk3⟩ | ⟨rfl, hJx3⟩)
                · refine hK _ _ ?_
                  clear hK K
                  refine wpAnyIn_take (i := 12) (v := ?_) rfl rfl (by kernel_rfl) (by kernel_rfl) (by kernel_rfl) (fun _ _ _ h => h) ⟨Or.inl ⟨by rfl, ?_⟩, fun _ => rfl⟩ ?_
                  rotate_left
                  · intro w; go_simp; first | done | with_reducible rfl
                  refine wpAnyIn_done (by kernel_rfl) ?_ _
                  refine HKK.out _ _ ?_
                  have hb3 : W3.heap[B]? = some (.cells #[.slice (some ⟨g, 0, none⟩) l.length cap] 75 (0, 0)) := (hk3.2 B (by simp) (blk_lt hb)).trans hb
                  have hg3 : Hid (l ≠ [] → W3.heap[g]? = some (.cells cs TI (0, 0))) := Lib.hid fun h => (hk3.2 g (by simp) (blk_lt (hgr.out h))).trans (hgr.out h)
                  have hbl3 : Below w0.heap.size w0 W3 := (below_drew hbl).trans hk3.1
                  clear hk3 hR hy
                  gi_wp2
                  go_roundw
                  case rel => exact ⟨j + 1, by first | rfl | (congr 1; omega), by omega, by rw [hT.out]; exact hJ3, hb3, hg3, hbl3⟩
                  case measure => simp [intOf]; omega
                · refine hK _ _ ?_
                  clear hK K
                  refine wpAnyIn_take (i := 12) (v := ?_) rfl rfl (by kernel_rfl) (by kernel_rfl) (by kernel_rfl) (fun _ _ _ h => h) ⟨Or.inl ⟨by rfl, ?_⟩, fun _ => rfl⟩ ?_
                  rotate_left
                  · intro w; go_simp; first | done | with_reducible rfl
                  refine wpAnyIn_done (by kernel_rfl) ?_ _
                  refine HKK.out _ _ ?_
                  clear hR hy
                  gi_wp2
                  refine bodyPost_ret (results_none rfl _ _ _) rfl ?_
                  exact ⟨⟨_, rfl⟩, .inr ⟨_, by rw [← hT.out]; exact List.take_prefix _ _, hJx3⟩⟩
              exact AllReadyIn.nil
            exact AllReadyIn.nil
          refine AllReadyIn.cons rfl (fun K hK => ?_) ?_
          · go_simp
            refine hK _ _ ?_
            clear hK K
            refine wpAnyIn_ready (rs := [5]) (by kernel_rfl) (by simp) ?_
            refine AllReadyIn.cons rfl (fun K hK => ?_) ?_
            · go_simp
              refine hK _ _ ?_
              clear hK K
              refine wpAnyIn_take (i := 10) (v := ?_) rfl rfl (by kernel_rfl) (by kernel_rfl) (by kernel_rfl) (fun _ _ _ h => h) ⟨Or.inl ⟨by rfl, ?_⟩, fun _ => rfl⟩ ?_
              rotate_left
              · intro w; go_simp; first | done | with_reducible rfl
              refine wpAnyIn_ready (rs := [11]) (by kernel_rfl) (by simp) ?_
              refine AllReadyIn.cons rfl (fun K hK => ?_) ?_
              · go_simp
                refine hR.mono ?_
                rintro e W3 (⟨rfl, hJ3, hk3⟩ | ⟨rfl, hJx3⟩)
                · refine hK _ _ ?_
                  clear hK K
                  refine wpAnyIn_take (i := 12) (v := ?_) rfl rfl (by kernel_rfl) (by kernel_rfl) (by kernel_rfl) (fun _ _ _ h => h) ⟨Or.inl ⟨by rfl, ?_⟩, fun _ => rfl⟩ ?_
                  rotate_left
                  · intro w; go_simp; first | done | with_reducible rfl
                  refine wpAnyIn_done (by kernel_rfl) ?_ _
                  refine HKK.out _ _ ?_
                  have hb3 : W3.heap[B]? = some (.cells #[.slice (some ⟨g, 0, none⟩) l.length cap] 75 (0, 0)) := (hk3.2 B (by simp) (blk_lt hb)).trans hb
                  have hg3 : Hid (l ≠ [] → W3.heap[g]? = some (.cells cs TI (0, 0))) := Lib.hid fun h => (hk3.2 g (by simp) (blk_lt (hgr.out h))).trans (hgr.out h)
                  have hbl3 : Below w0.heap.size w0 W3 := (below_drew hbl).trans hk3.1
                  clear hk3 hR hy
                  gi_wp2
                  go_roundw
                  case rel => exact ⟨j + 1, by first | rfl | (congr 1; omega), by omega, by rw [hT.out]; exact hJ3, hb3, hg3, hbl3⟩
                  case measure => simp [intOf]; omega
                · refine hK _ _ ?_
                  clear hK K
                  refine wpAnyIn_take (i := 12) (v := ?_) rfl rfl (by kernel_rfl) (by kernel_rfl) (by kernel_rfl) (fun _ _ _ h => h) ⟨Or.inl ⟨by rfl, ?_⟩, fun _ => rfl⟩ ?_
                  rotate_left
                  · intro w; go_simp; first | done | with_reducible rfl
                  refine wpAnyIn_done (by kernel_rfl) ?_ _
                  refine HKK.out _ _ ?_
                  clear hR hy
                  gi_wp2
                  refine bodyPost_ret (results_none rfl _ _ _) rfl ?_
                  exact ⟨⟨_, rfl⟩, .inr ⟨_, by rw [← hT.out]; exact List.take_prefix _ _, hJx3⟩⟩
              exact AllReadyIn.nil
            exact AllReadyIn.nil
          exact AllReadyIn.nil
        exact AllReadyIn.nil
      refine AllReadyIn.cons rfl (fun K hK => ?_) ?_
      · go_simp
        refine hK _ _ ?_
        clear hK K
        refine wpAnyIn_take (i := 8) (v := ?_) rfl rfl (by kernel_rfl) (by kernel_rfl) (by kernel_rfl) (fun _ _ _ h => h) ⟨Or.inl ⟨by rfl, ?_⟩, fun _ => rfl⟩ ?_
        rotate_left
        · intro w; go_simp; first | done | with_reducible rfl
        refine wpAnyIn_ready (rs := [1, 9]) (by kernel_rfl) (by simp) ?_
        refine AllReadyIn.cons rfl (fun K hK => ?_) ?_
        · go_simp
          refine hK _ _ ?_
          clear hK K
          refine wpAnyIn_take (i := 4) (v := ?_) rfl rfl (by kernel_rfl) (by kernel_rfl) (by kernel_rfl) (fun _ _ _ h => h) ⟨Or.inl ⟨by rfl, ?_⟩, fun _ => rfl⟩ ?_
          rotate_left
          · intro w; go_simp; first | done | with_reducible rfl
          refine wpAnyIn_ready (rs := [5, 9]) (by kernel_rfl) (by simp) ?_
          refine AllReadyIn.cons rfl (fun K hK => ?_) ?_
          · go_simp
            refine hK _ _ ?_
            clear hK K
            refine wpAnyIn_ready (rs := [9]) (by kernel_rfl) (by simp) ?_
            refine AllReadyIn.cons rfl (fun K hK => ?_) ?_
            · go_simp
              refine hK _ _ ?_
              clear hK K
              refine wpAnyIn_take (i := 10) (v := ?_) rfl rfl (by kernel_rfl) (by kernel_rfl) (by kernel_rfl) (fun _ _ _ h => h) ⟨Or.inl ⟨by rfl, ?_⟩, fun _ => rfl⟩ ?_
              rotate_left
              · intro w; go_simp; first | done | with_reducible rfl
              refine wpAnyIn_ready (rs := [11]) (by kernel_rfl) (by simp) ?_
              refine AllReadyIn.cons rfl (fun K hK => ?_) ?_
              · go_simp
                refine hR.mono ?_
                rintro e W3 (⟨rfl, hJ3, hk3⟩ | ⟨rfl, hJx3⟩)
                · refine hK _ _ ?_
                  clear hK K
                  refine wpAnyIn_take (i := 12) (v := ?_) rfl rfl (by kernel_rfl) (by kernel_rfl) (by kernel_rfl) (fun _ _ _ h => h) ⟨Or.inl ⟨by rfl, ?_⟩, fun _ => rfl⟩ ?_
                  rotate_left
                  · intro w; go_simp; first | done | with_reducible rfl
                  refine wpAnyIn_done (by kernel_rfl) ?_ _
                  refine HKK.out _ _ ?_
                  have hb3 : W3.heap[B]? = some (.cells #[.slice (some ⟨g, 0, none⟩) l.length cap] 75 (0, 0)) := (hk3.2 B (by simp) (blk_lt hb)).trans hb
                  have hg3 : Hid (l ≠ [] → W3.heap[g]? = some (.cells cs TI (0, 0))) := Lib.hid fun h => (hk3.2 g (by simp) (blk_lt (hgr.out h))).trans (hgr.out h)
                  have hbl3 : Below w0.heap.size w0 W3 := (below_drew hbl).trans hk3.1
                  clear hk3 hR hy
                  gi_wp2
                  go_roundw
                  case rel => exact ⟨j + 1, by first | rfl | (congr 1; omega), by omega, by rw [hT.out]; exact hJ3, hb3, hg3, hbl3⟩
                  case measure => simp [intOf]; omega
                · refine hK _ _ ?_
                  clear hK K
                  refine wpAnyIn_take (i := 12) (v := ?_) rfl rfl (by kernel_rfl) (by kernel_rfl) (by kernel_rfl) (fun _ _ _ h => h) ⟨Or.inl ⟨by rfl, ?_⟩, fun _ => rfl⟩ ?_
                  rotate_left
                  · intro w; go_simp; first | done | with_reducible rfl
                  refine wpAnyIn_done (by kernel_rfl) ?_ _
                  refine HKK.out _ _ ?_
                  clear hR hy
                  gi_wp2
                  refine bodyPost_ret (results_none rfl _ _ _) rfl ?_
                  exact ⟨⟨_, rfl⟩, .inr ⟨_, by rw [← hT.out]; exact List.take_prefix _ _, hJx3⟩⟩
              exact AllReadyIn.nil
            exact AllReadyIn.nil
          refine AllReadyIn.cons rfl (fun K hK => ?_) ?_
          · go_simp
            refine hK _ _ ?_
            clear hK K
            refine wpAnyIn_ready (rs := [5]) (by kernel_rfl) (by simp) ?_
            refine AllReadyIn.cons rfl (fun K hK => ?_) ?_
            · go_simp
              refine hK _ _ ?_
              clear hK K
              refine wpAnyIn_take (i := 10) (v := ?_) rfl rfl (by kernel_rfl) (by kernel_rfl) (by kernel_rfl) (fun _ _ _ h => h) ⟨Or.inl ⟨by rfl, ?_⟩, fun _ => rfl⟩ ?_
              rotate_left
              · intro w; go_simp; first | done | with_reducible rfl
              refine wpAnyIn_ready (rs := [11]) (by kernel_rfl) (by simp) ?_
              refine AllReadyIn.cons rfl (fun K hK => ?_) ?_
              · go_simp
                refine hR.mono ?_
                rintro e W3 (⟨rfl, hJ3, hk3⟩ | ⟨rfl, hJx3⟩)
                · refine hK _ _ ?_
                  clear hK K
                  refine wpAnyIn_take (i := 12) (v := ?_) rfl rfl (by kernel_rfl) (by kernel_rfl) (by kernel_rfl) (fun _ _ _ h => h) ⟨Or.inl ⟨by rfl, ?_⟩, fun _ => rfl⟩ ?_
                  rotate_left
                  · intro w; go_simp; first | done | with_reducible rfl
                  refine wpAnyIn_done (by kernel_rfl) ?_ _
                  refine HKK.out _ _ ?_
                  have hb3 : W3.heap[B]? = some (.cells #[.slice (some ⟨g, 0, none⟩) l.length cap] 75 (0, 0)) := (hk3.2 B (by simp) (blk_lt hb)).trans hb
                  have hg3 : Hid (l ≠ [] → W3.heap[g]? = some (.cells cs TI (0, 0))) := Lib.hid fun h => (hk3.2 g (by simp) (blk_lt (hgr.out h))).trans (hgr.out h)
                  have hbl3 : Below w0.heap.size w0 W3 := (below_drew hbl).trans hk3.1
                  clear hk3 hR hy
                  gi_wp2
                  go_roundw
                  case rel => exact ⟨j + 1, by first | rfl | (congr 1; omega), by omega, by rw [hT.out]; exact hJ3, hb3, hg3, hbl3⟩
                  case measure => simp [intOf]; omega
                · refine hK _ _ ?_
                  clear hK K
                  refine wpAnyIn_take (i := 12) (v := ?_) rfl rfl (by kernel_rfl) (by kernel_rfl) (by kernel_rfl) (fun _ _ _ h => h) ⟨Or.inl ⟨by rfl, ?_⟩, fun _ => rfl⟩ ?_
                  rotate_left
                  · intro w; go_simp; first | done | with_reducible rfl
                  refine wpAnyIn_done (by kernel_rfl) ?_ _
                  refine HKK.out _ _ ?_
                  clear hR hy
                  gi_wp2
                  refine bodyPost_ret (results_none rfl _ _ _) rfl ?_
                  exact ⟨⟨_, rfl⟩, .inr ⟨_, by rw [← hT.out]; exact List.take_prefix _ _, hJx3⟩⟩
              exact AllReadyIn.nil
            exact AllReadyIn.nil
          exact AllReadyIn.nil
        refine AllReadyIn.cons rfl (fun K hK => ?_) ?_
        · go_simp
          refine hK _ _ ?_
          clear hK K
          refine wpAnyIn_ready (rs := [1]) (by kernel_rfl) (by simp) ?_
          refine AllReadyIn.cons rfl (fun K hK => ?_) ?_
          · go_simp
            refine hK _ _ ?_
            clear hK K
            refine wpAnyIn_take (i := 4) (v := ?_) rfl rfl (by kernel_rfl) (by kernel_rfl) (by kernel_rfl) (fun _ _ _ h => h) ⟨Or.inl ⟨by rfl, ?_⟩, fun _ => rfl⟩ ?_
            rotate_left
            · intro w; go_simp; first | done | with_reducible rfl
            refine wpAnyIn_ready (rs := [5]) (by kernel_rfl) (by simp) ?_
            refine AllReadyIn.cons rfl (fun K hK => ?_) ?_
            · go_simp
              refine hK _ _ ?_
              clear hK K
              refine wpAnyIn_take (i := 10) (v := ?_) rfl rfl (by kernel_rfl) (by kernel_rfl) (by kernel_rfl) (fun _ _ _ h => h) ⟨Or.inl ⟨by rfl, ?_⟩, fun _ => rfl⟩ ?_
              rotate_left
              · intro w; go_simp; first | done | with_reducible rfl
              refine wpAnyIn_ready (rs := [11]) (by kernel_rfl) (by simp) ?_
              refine AllReadyIn.cons rfl (fun K hK => ?_) ?_
              · go_simp
                refine hR.mono ?_
                rintro e W3 (⟨rfl, hJ3, hk3⟩ | ⟨rfl, hJx3⟩)
                · refine hK _ _ ?_
                  clear hK K
                  refine wpAnyIn_take (i := 12) (v := ?_) rfl rfl (by kernel_rfl) (by kernel_rfl) (by kernel_rfl) (fun _ _ _ h => h) ⟨Or.inl ⟨by rfl, ?_⟩, fun _ => rfl⟩ ?_
                  rotate_left
                  · intro w; go_simp; first | done | with_reducible rfl
                  refine wpAnyIn_done (by kernel_rfl) ?_ _
                  refine HKK.out _ _ ?_
                  have hb3 : W3.heap[B]? = some (.cells #[.slice (some ⟨g, 0, none⟩) l.length cap] 75 (0, 0)) := (hk3.2 B (by simp) (blk_lt hb)).trans hb
                  have hg3 : Hid (l ≠ [] → W3.heap[g]? = some (.cells cs TI (0, 0))) := Lib.hid fun h => (hk3.2 g (by simp) (blk_lt (hgr.out h))).trans (hgr.out h)
                  have hbl3 : Below w0.heap.size w0 W3 := (below_drew hbl).trans hk3.1
                  clear hk3 hR hy
                  gi_wp2
                  go_roundw
                  case rel => exact ⟨j + 1, by first | rfl | (congr 1; omega), by omega, by rw [hT.out]; exact hJ3, hb3, hg3, hbl3⟩
                  case measure => simp [intOf]; omega
                · refine hK _ _ ?_
                  clear hK K
                  refine wpAnyIn_take (i := 12) (v := ?_) rfl rfl (by kernel_rfl) (by kernel_rfl) (by kernel_rfl) (fun _ _ _ h => h) ⟨Or.inl ⟨by rfl, ?_⟩, fun _ => rfl⟩ ?_
                  rotate_left
                  · intro w; go_simp; first | done | with_reducible rfl
                  refine wpAnyIn_done (by kernel_rfl) ?_ _
                  refine HKK.out _ _ ?_
                  clear hR hy
                  gi_wp2
                  refine bodyPost_ret (results_none rfl _ _ _) rfl ?_
                  exact ⟨⟨_, rfl⟩, .inr ⟨_, by rw [← hT.out]; exact List.take_prefix _ _, hJx3⟩⟩
              exact AllReadyIn.nil
            exact AllReadyIn.nil
          exact AllReadyIn.nil
        exact AllReadyIn.nil
      exact AllReadyIn.nil
    · have hj2 : j = (gaps l).length := by omega
      have h2 : ¬ ((j : Int) + 1 < (l.length : Int)) := by have := gaps_len l; omega
      have hd : decide ((j : Int) + 1 < (l.length : Int)) = false := decide_eq_false h2
      rw [hj2, List.take_length] at hJs
      have HJ := Lib.hid hj2
      clear hj2
      gi_wp2
      go_end0
      exact ⟨⟨_, rfl⟩, .inl hJs⟩
end Go.Proofs.Ytebphbnkogianaa.Gap
