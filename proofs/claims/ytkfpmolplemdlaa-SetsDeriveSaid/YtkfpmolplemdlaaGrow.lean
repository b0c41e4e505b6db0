/- sets.grow walked: over all productions till nothing changes. Over any change that a state of the call's own bears. -/
import Derived.Test.YtkfpmolplemdlaaFl
namespace Go.Proofs.Ytkfpmolplemdlaa.Grow
open Go Go.RowKit Go.Shelf Go.Proofs.YtkfpmolplemdlaaW.PrintWords Go.Proofs.Ytkfpmolplemdlaa.Round Go.Proofs.Ytkfpmolplemdlaa.RangeG Go.Proofs.Ytkfpmolplemdlaa.Fl
attribute [local go_sem] Oper.semAt_some
set_option linter.unusedVariables false
set_option linter.unusedSimpArgs false
section
variable {σ : Type}
def roundV (step : σ → P → σ × Bool) (s : σ × Bool) (p : P) : σ × Bool := ((step s.1 p).1, s.2 || (step s.1 p).2)
def roundsV (step : σ → P → σ × Bool) (ps : List P) (s : σ) : σ × Bool := ps.foldl (roundV step) (s, false)
def growV (step : σ → P → σ × Bool) (ps : List P) : Nat → σ → Option σ
  | 0, _ => none
  | k + 1, s => if (roundsV step ps s).2 = true then growV step ps k (roundsV step ps s).1 else some (roundsV step ps s).1
/-- The mark that a range over a function leaves among the deferred calls. -/
def mark (D : Nat) : Deferred := { target := .collected D, args := #[] }
theorem leaves_marks {F : Fence} {n : Nat} {Pr : Program} {fn : Func} {tmps : Array Value} {R : Ending → World → Prop} {L : Nat} : ∀ (Ds : List Nat) (w : World), Ds.Nodup → (∀ D ∈ Ds, L ≤ D ∧ w.heap[D]? = some (.deferred (some []))) →
    (∀ w', Turn L (fun _ => False) w w' → LeavesIn F n Pr fn tmps R [] .returning w') → LeavesInM F n Pr fn tmps R (Ds.map mark) .returning w
  | [], w, _, _, h => h w (Turn.refl _ _ _)
  | D :: Ds, w, hn, hd, h => by
    obtain ⟨hn1, hn2⟩ := List.nodup_cons.1 hn
    obtain ⟨h1, h2⟩ := hd D (by simp)
    refine ⟨by simp, .inl ⟨_, _, rfl, run_takeDeferred h2, ?_⟩⟩
    refine leaves_marks Ds _ hn2 (fun E hE => ?_) (fun w' ht => h w' ((Turn.putObj _ h2 h1 rfl).trans ht))
    obtain ⟨g1, g2⟩ := hd E (by simp [hE])
    exact ⟨g1, (World.putObj_heap_other (fun e => hn1 (by rw [← e]; exact hE))).trans g2⟩
set_option maxRecDepth 100000 in
set_option maxHeartbeats 4000000 in
theorem grow_calls (fc : Nat) (lb : Array Value) (hen : ∀ args w, (callFunc fc args).run Try.prog w = .ok (.enter fc args) w) (u w : World) (A0 A1 A2 : Option Addr) (n0 n1 c0 c1 c2 : Nat) (ps : List P)
    (T : Nat → Prop) (hT : ∀ k, T k → u.heap.size ≤ k ∧ k < w.heap.size) (hu : Below u.heap.size u w) (hC : Kd.C kP u A2 ps.length ps)
    (St : σ → World → Prop) (hSt : ∀ s W W', Turn w.heap.size (fun k => w.heap.size ≤ k) W W' → St s W → St s W') (step : σ → P → σ × Bool)
    (hch : ∀ (x : V u ps) s W, w.heap.size ≤ W.heap.size → Below u.heap.size u W → St s W → Calls Try.prog fc (encV x ++ lb) W fun e W' => e = .returned (.bool (step s x.p).2) ∧ St (step s x.p).1 W' ∧ Turn W.heap.size T W W')
    (k : Nat) (s0 s1 : σ) (h0 : St s0 w) (h : growV step ps k s0 = some s1) :
    Calls Try.prog 34 #[.agg #[.slice A0 n0 c0, .slice A1 n1 c1, .slice A2 ps.length c2], .func (.func fc) #[] lb] w fun e W' => e = .returned (.tuple #[]) ∧ St s1 W' ∧ Turn w.heap.size T w W' := by
  refine (callsIn_wide (n := 3)).1 ?_
  refine callsIn_of_wp_marks Try.func34 rfl trivial ?_ rfl
  simp only [Try.ntmps34, List.size_toArray, List.length_cons, List.length_nil, Nat.reduceAdd, Nat.reduceSub, Array.replicate_succ, Array.replicate_zero, List.push_toArray, List.append_toArray, List.nil_append, List.cons_append]
  gi_wp2
  refine wpIn_wide.2 (wp_scope_straight ((wpIn_wide (n := 3)).1 ?_))
  gi_wp2
  refine wpIn_label ?_
  gi_wp2
  obtain ⟨I, hI⟩ : ∃ I : Nat → Act → World → Prop, I = fun k a W => ∃ (s : σ) (Ds : List Nat) (x4 x5 x6 x7 x8 x9 x10 x11 x12 x13 x14 : Value),
      a = Act.mk #[.agg #[.slice A0 n0 c0, .slice A1 n1 c1, .slice A2 ps.length c2], .func (.func fc) #[] lb, .pointer (some ⟨w.heap.size, 0, none⟩), .pointer (some ⟨w.heap.size + 1, 0, none⟩), x4, x5, x6, x7, x8, x9, x10, x11, x12, x13, x14] (Ds.map mark) ∧
      St s W ∧ growV step ps k s = some s1 ∧ W.heap[w.heap.size]? = some (.cells #[.slice A0 n0 c0, .slice A1 n1 c1, .slice A2 ps.length c2] TF (0, 0)) ∧ Boxed W (w.heap.size + 1) 71 (.func (.func fc) #[] lb) ∧
      Turn w.heap.size T w W ∧ Ds.Nodup ∧ (∀ D ∈ Ds, w.heap.size + 2 ≤ D ∧ W.heap[D]? = some (.deferred (some []))) ∧ w.heap.size + 2 ≤ W.heap.size := ⟨_, rfl⟩
  refine loopIn I k ?_ ?_
  · rw [hI]
    refine ⟨s0, [], _, _, _, _, _, _, _, _, _, _, _, rfl, ?_, h, ?_, ?_, ?_, List.nodup_nil, (fun _ h => nomatch h), ?_⟩
    · exact hSt _ _ _ ((Turn.alloc _).trans (Turn.alloc _)) h0
    · have := blk_alloc (blk_new w (Obj.cells #[.slice A0 n0 c0, .slice A1 n1 c1, .slice A2 ps.length c2] TF)) (Obj.cells #[.func (.func fc) #[] lb] 71); simpa using this
    · have := Boxed.new (w.alloc (Obj.cells #[.slice A0 n0 c0, .slice A1 n1 c1, .slice A2 ps.length c2] TF)) 71 (.func (.func fc) #[] lb); simpa using this
    · exact (Turn.alloc _).trans (Turn.alloc _)
    · simp
  · intro k a W hi
    rw [hI] at hi
    obtain ⟨s, Ds, x4, x5, x6, x7, x8, x9, x10, x11, x12, x13, x14, rfl, hS, hg, hB2, hB3, ht, hnd, hDs, hsz⟩ := hi
    have c2' : W.cell? ⟨w.heap.size, 2, none⟩ = some (.slice A2 ps.length c2) := blk_cell hB2 2
    have hv := fun W => values_calls A2 ps.length c2 W
    have hl := blk_lt hB2
    have h52 : Fence.wide.fn 52 := trivial
    gi_wp2_with (gi_at_call 52; refine (callsIn_wide.2 (hv _)).mono ?_; rintro e w' ⟨rfl, rfl⟩)
    obtain ⟨W0, hW0⟩ : ∃ W0, ((W.alloc (Obj.cells #[Value.bool false] 4)).alloc (Obj.cells #[.slice A2 ps.length c2] 23)) = W0 := ⟨_, rfl⟩
    have tW : ∀ L T', Turn L T' W W0 := fun L T' => by rw [← hW0]; exact (Turn.alloc _).trans (Turn.alloc _)
    have sz0 : W0.heap.size = W.heap.size + 2 := by rw [← hW0]; simp
    have bC : Boxed W0 W.heap.size 4 (.bool false) := by rw [← hW0]; exact (Boxed.new W _ _).alloc _
    have bV : W0.heap[W.heap.size + 1]? = some (.cells #[.slice A2 ps.length c2] 23 (0, 0)) := by
      rw [← hW0]; have := blk_new (W.alloc (Obj.cells #[Value.bool false] 4)) (Obj.cells #[.slice A2 ps.length c2] 23); simpa using this
    have gB2 := cells_turn hB2 (tW w.heap.size (fun _ => False)) (fun h => h)
    have gB3 := Boxed.turn hB3 (tW w.heap.size (fun _ => False)) (fun h => h)
    have gS := hSt _ _ _ (tW _ _) hS
    have gT : Turn w.heap.size T w W0 := ht.trans (tW _ _)
    have toB : ∀ X, Turn w.heap.size T w X → Below u.heap.size u X := fun X h => below_turn hu h (Nat.le_refl _) hu.size (fun k hk => (hT k hk).1)
    have gD : ∀ D ∈ Ds, w.heap.size + 2 ≤ D ∧ D < W0.heap.size ∧ W0.heap[D]? = some (.deferred (some [])) := fun D hD => ⟨(hDs D hD).1, by have := blk_lt (hDs D hD).2; omega, (tW (D + 1) (fun _ => False)).same D _ (hDs D hD).2 (fun h => h) (.inl (by omega))⟩
    rw [hW0]
    clear hW0 hB2 hB3 hS ht hDs c2' hv hl tW
    have hseq := values_stops 2 (W.heap.size + 1) (by omega) A2 c2 ps u W0 hC (toB _ gT) bV
    refine rangeG (gf := 62) (lb := #[.pointer (some ⟨W.heap.size + 1, 0, none⟩)]) rfl (enters_of Try.func62 (by kernel_rfl) rfl)
      hseq (fun k hk => hk.elim) keepL_t (keepL_b (toB _ gT).size (fun b hb => nomatch hb)) (Turn.refl _ _ _) (fun _ => rfl)
      (fun pre X => (∃ q : σ × Bool, pre.foldl (fun q x => roundV step q x.p) (s, false) = q ∧ St q.1 X ∧ Boxed X W.heap.size 4 (.bool q.2)) ∧ X.heap[w.heap.size]? = some (.cells #[.slice A0 n0 c0, .slice A1 n1 c1, .slice A2 ps.length c2] TF (0, 0)) ∧ Boxed X (w.heap.size + 1) 71 (.func (.func fc) #[] lb) ∧
        Turn w.heap.size T w X ∧ (∀ D ∈ Ds, X.heap[D]? = some (.deferred (some []))) ∧ W0.heap.size ≤ X.heap.size)
      (fun c pre X => False)
      ?hI ?hIx ?h0
      (fun x a' X => ∃ Bx, W0.heap.size ≤ Bx ∧ X.heap[Bx]? = some (.cells #[.int .i64 x.1.1.1, .slice x.1.2.1 x.1.1.2.1.length x.1.2.2, .int .i64 x.1.1.2.2] TP (0, 0)) ∧ a' = Act.mk #[.agg #[.slice A0 n0 c0, .slice A1 n1 c1, .slice A2 ps.length c2], .func (.func fc) #[] lb, .pointer (some ⟨w.heap.size, 0, none⟩), .pointer (some ⟨w.heap.size + 1, 0, none⟩), .pointer (some ⟨W.heap.size, 0, none⟩), .pointer (some ⟨Bx, 0, none⟩), .pointer (some ⟨w.heap.size, 2, none⟩), .slice A2 ps.length c2, .func (.func 62) #[] #[.pointer (some ⟨W.heap.size + 1, 0, none⟩)],
        .agg #[.int .i64 x.1.1.1, .slice x.1.2.1 x.1.1.2.1.length x.1.2.2, .int .i64 x.1.1.2.2], x10, x11, x12, x13, x14] []) ?hAx ?assign ?body ?done ?stop
    case hI =>
      rintro pre X X' ⟨⟨q, g1, g2, g3⟩, g4, g5, g6, g7, g8⟩ h2
      exact ⟨⟨q, g1, hSt _ _ _ (h2.mono (by omega) (fun _ h => h.elim)) g2, Boxed.turn g3 h2 (fun h => h)⟩, cells_turn g4 h2 (fun h => h), Boxed.turn g5 h2 (fun h => h), g6.trans (h2.mono (by omega) (fun _ h => h.elim)), fun D hD => h2.same D _ (g7 D hD) (fun h => h) (.inl (gD D hD).2.1), Nat.le_trans g8 h2.size⟩
    case hIx => exact fun c s X X' h _ => h
    case h0 => exact ⟨⟨_, rfl, gS, bC⟩, gB2, gB3, gT, fun D hD => (gD D hD).2.2, Nat.le_refl _⟩
    case hAx =>
      rintro x a' s' X Y ⟨Bx, h1, h2, h3⟩ h4
      exact ⟨Bx, h1, cells_turn h2 h4 (fun h => h), h3⟩
    case assign =>
      rintro l pre x X K ⟨⟨q, g1, g2, g3⟩, g4, g5, g6, g7, g8⟩ hK2
      simp only [encV]
      gi_wp2
      refine hK2 _ _ ((KeepsOthers.alloc _ _).from _) (keepL_alloc (keepL_refl _ _ _) (by have := (toB _ g6).size; omega) _) ⟨⟨q, g1, hSt _ _ _ (Turn.alloc _) g2, g3.alloc _⟩, cells_turn g4 (Turn.alloc (L := 0) (T := fun _ => False) _) (fun h => h), g5.alloc _, g6.trans (Turn.alloc _), fun D hD => blk_alloc (g7 D hD) _, by simp; omega⟩ ⟨X.heap.size, g8, blk_new _ _, rfl⟩
    case body =>
      rintro l pre x a' X hl hr ⟨⟨q, g1, g2, g3⟩, g4, g5, g6, g7, g8⟩ ⟨Bx, hBx, hX, rfl⟩ hpre
      have hcall := hch x q.1 X (by omega) (toB _ g6) g2
      simp only [encV] at hcall
      have f3 := g5.cell
      have b0 : X.cell? ⟨Bx, 0, none⟩ = some (.int .i64 x.1.1.1) := blk_cell hX 0
      have b1 : X.cell? ⟨Bx, 1, none⟩ = some (.slice x.1.2.1 x.1.1.2.1.length x.1.2.2) := blk_cell hX 1
      have b2 : X.cell? ⟨Bx, 2, none⟩ = some (.int .i64 x.1.1.2.2) := blk_cell hX 2
      have hN : Fence.wide.fn fc := trivial
      have h1n : 1 ≤ 3 - 1 - 1 := by omega
      have e1 : (pre ++ [x]).foldl (fun q x => roundV step q x.p) (s, false) = ((step q.1 x.p).1, q.2 || (step q.1 x.p).2) := by rw [List.foldl_append, g1]; rfl
      have HE := Lib.hid e1
      have HG := Lib.hid g1
      clear e1 g1
      obtain ⟨bv, hbv⟩ : ∃ bv, (step q.1 x.p).2 = bv := ⟨_, rfl⟩
      rw [hbv] at hcall
      have HB := Lib.hid hbv
      clear hbv
      have fin : ∀ X' : World, Turn X.heap.size T X X' → KeepsFrom W0.heap.size X X' ∧ KeepL u.heap.size [] X X' ∧ X'.heap[w.heap.size]? = some (.cells #[.slice A0 n0 c0, .slice A1 n1 c1, .slice A2 ps.length c2] TF (0, 0)) ∧ Boxed X' (w.heap.size + 1) 71 (.func (.func fc) #[] lb) ∧ Turn w.heap.size T w X' ∧ (∀ D ∈ Ds, X'.heap[D]? = some (.deferred (some []))) ∧ W0.heap.size ≤ X'.heap.size ∧ Boxed X' W.heap.size 4 (.bool q.2) := by
        intro X' h2
        refine ⟨⟨h2.size, fun j o hj ho _ => h2.same j o ho (fun e => by have := (hT j e).2; omega) (.inl (blk_lt ho))⟩, ⟨below_turn (Below.refl _ X) h2 (by have := (toB _ g6).size; omega) (by have := (toB _ g6).size; omega) (fun j hj => (hT j hj).1), fun b hb => nomatch hb⟩, cells_turn g4 h2 (fun e => by have := (hT _ e).2; omega), Boxed.turn g5 h2 (fun e => by have := (hT _ e).2; omega), g6.trans (h2.mono (by omega) (fun _ h => h)),
          fun D hD => h2.same D _ (g7 D hD) (fun e => by have := (hT D e).2; have := (gD D hD).1; omega) (.inl (blk_lt (g7 D hD))), Nat.le_trans g8 h2.size, Boxed.turn g3 h2 (fun e => by have := (hT _ e).2; omega)⟩
      have FN := Lib.hid fin
      clear fin
      cases bv with
      | false =>
        gi_wp2
        refine (CallsIn.inRound l (callsIn_wide.2 hcall)).mono ?_
        rintro e X' ⟨rfl, hS', ht'⟩
        gi_wp2
        obtain ⟨k1, k2, k3, k4, k5, k6, k7, k8⟩ := FN.out _ ht'
        refine ⟨k1, k2, ⟨_, HE.out, hS', ?_⟩, k3, k4, k5, k6, k7⟩
        rw [HB.out, Bool.or_false]
        exact k8
      | true =>
        gi_wp2
        refine (CallsIn.inRound l (callsIn_wide.2 hcall)).mono ?_
        rintro e X' ⟨rfl, hS', ht'⟩
        obtain ⟨k1, k2, k3, k4, k5, k6, k7, k8⟩ := FN.out _ ht'
        have cC := k8.cell
        have fC := k8.frozen
        gi_wp2
        have st1 : Turn w.heap.size (fun k => w.heap.size ≤ k) X' (X'.setCell ⟨W.heap.size, 0, none⟩ (.bool true)) := Turn.setCell _ _ (by show _ ≤ W.heap.size; omega)
        have st2 : Turn w.heap.size (fun k => k = W.heap.size) X' (X'.setCell ⟨W.heap.size, 0, none⟩ (.bool true)) := Turn.setCell _ _ rfl
        refine ⟨k1.trans ((KeepsOthers.setCell _ _ _).from _), keepL_set k2 (a := ⟨W.heap.size, 0, none⟩) (by have := hu.size; show _ ≤ W.heap.size; omega) (fun h => nomatch h) _, ⟨_, HE.out, hSt _ _ _ st1 hS', ?_⟩, cells_turn k3 st2 (by omega), Boxed.turn k4 st2 (by omega), ?_, fun D hD => ?_, by have := st2.size; omega⟩
        · rw [HB.out, Bool.or_true]
          exact k8.set _
        · refine ⟨k5.os, k5.tape, k5.output, Nat.le_trans k5.size st2.size, fun j o hj hT' hc => ?_⟩
          exact (Below.heap_setCell X' ⟨W.heap.size, 0, none⟩ _ j (by have := blk_lt hj; show j ≠ W.heap.size; omega)).trans (k5.same j o hj hT' hc)
        · refine (Below.heap_setCell X' ⟨W.heap.size, 0, none⟩ _ D ?_).trans (k6 D hD)
          intro e
          have e' : D = W.heap.size := e
          have := k6 D hD
          rw [e', k8] at this
          cases this
    case done =>
      rintro D ys X hD hS ⟨⟨q, g1, g2, g3⟩, g4, g5, g6, g7, g8⟩ hK'
      have fm : ∀ (l : List (V u ps)) z, l.foldl (fun q x => roundV step q x.p) z = (l.map V.p).foldl (roundV step) z := fun l z => List.foldl_map.symm
      have e : q = roundsV step ps s := by rw [← g1, fm, hS]; rfl
      clear g1 hS
      obtain ⟨m, rfl⟩ : ∃ m, k = m + 1 := by
        cases k with
        | zero => cases hg
        | succ m => exact ⟨m, rfl⟩
      rw [growV] at hg
      rw [← e] at hg
      have cC := g3.cell
      have HI := Lib.hid hI
      have hDn : D ∉ Ds := fun h => by have := (gD D h).2.1; omega
      clear hI e
      obtain ⟨q1, qb⟩ := q
      cases qb with
      | false =>
        simp only [Bool.false_eq_true, if_false] at hg
        obtain rfl := Option.some.inj hg
        gi_wp2
        refine leaves_marks (L := w.heap.size + 2) (D :: Ds) X (List.nodup_cons.2 ⟨hDn, hnd⟩) (fun E hE => ?_) (fun w' ht' => ⟨_, results_none rfl _ _ _, rfl, hSt _ _ _ (ht'.mono (by omega) (fun _ h => h.elim)) g2, g6.trans (ht'.mono (by omega) (fun _ h => h.elim))⟩)
        rcases List.mem_cons.1 hE with rfl | hE
        · exact ⟨by omega, hK'⟩
        · exact ⟨(gD E hE).1, g7 E hE⟩
      | true =>
        simp only [if_true] at hg
        gi_wp2
        refine ⟨m, by omega, ?_⟩
        rw [HI.out]
        refine ⟨q1, D :: Ds, _, _, _, _, _, _, _, _, _, _, _, rfl, g2, hg, g4, g5, g6, List.nodup_cons.2 ⟨hDn, hnd⟩, fun E hE => ?_, by omega⟩
        rcases List.mem_cons.1 hE with rfl | hE
        · exact ⟨by omega, hK'⟩
        · exact ⟨(gD E hE).1, g7 E hE⟩
    case stop => exact fun D c pre X hD hp h => h.elim
end
end Go.Proofs.Ytkfpmolplemdlaa.Grow
