/- (sets.set).add walked: a set takes in what an iterator hands out. No condition but the reach. -/
import Derived.Test.YtkfpmolplemdlaaMSet
namespace Go.Proofs.Ytkfpmolplemdlaa.Add
open Go Go.RowKit Go.Shelf Go.Maps Go.Proofs.YtkfpmolplemdlaaW.PrintWords Go.Proofs.Ytkfpmolplemdlaa.Round Go.Proofs.Ytkfpmolplemdlaa.RangeG Go.Proofs.Ytkfpmolplemdlaa.Fl Go.Proofs.Ytkfpmolplemdlaa.Seqs Go.Proofs.Ytkfpmolplemdlaa.MSet
attribute [local go_sem] Oper.semAt_some
set_option linter.unusedVariables false
set_option linter.unusedSimpArgs false
theorem vals_app (a : List I64) (x : I64) (S : List Int) : unionV S (vals (a ++ [x])) = putV (unionV S (vals a)) x.1 := by simp [vals, unionV, List.foldl_append]
set_option maxRecDepth 100000 in
set_option maxHeartbeats 4000000 in
theorem add_calls (gf : Nat) (lb : Array Value) (heg : ∀ args w, (callFunc gf args).run Try.prog w = .ok (.enter gf args) w) (w : World) (n₀ : Nat) (Ls : List Nat) (b : Nat) (S : List Int) (xs : List I64) (Sp : List I64 → Prop) (N : Nat) (hN : S.length + N ≤ 1000000000000)
    (hn0 : n₀ ≤ b) (hLs : ∀ c, c ∈ Ls → c < w.heap.size ∧ c ≠ b) (hS : SetAt b S w) (hseq : SeqG 2 Try.prog gf lb encX (KeepL n₀ Ls) (fun _ => False) (fun ys => ys = xs) Sp N w) :
    Calls Try.prog 39 #[.map (some b), .func (.func gf) #[] lb] w fun e w' => e = .returned (.bool (decide ((unionV S (vals xs)).length > S.length))) ∧ SetAt b (unionV S (vals xs)) w' ∧ Turn w.heap.size (fun k => k = b) w w' := by
  refine (callsIn_wide (n := 3)).1 ?_
  refine callsIn_of_wp_marks Try.func39 rfl trivial ?_ rfl
  simp only [Try.ntmps39, List.size_toArray, List.length_cons, List.length_nil, Nat.reduceAdd, Nat.reduceSub, Array.replicate_succ, Array.replicate_zero, List.push_toArray, List.append_toArray, List.nil_append, List.cons_append]
  have hbw := hS.lt
  obtain ⟨W0, hW0⟩ : ∃ W0, w.alloc (Obj.cells #[.map (some b)] 62) = W0 := ⟨_, rfl⟩
  have tW : ∀ L T', Turn L T' w W0 := fun L T' => by rw [← hW0]; exact Turn.alloc _
  have hS0 : SetAt b S W0 := hS.turn (tW w.heap.size (fun _ => False)) (fun h => h) hbw
  have bm : Boxed W0 w.heap.size 62 (.map (some b)) := by rw [← hW0]; exact Boxed.new w _ _
  have sz0 : W0.heap.size = w.heap.size + 1 := by rw [← hW0]; simp
  have cb := bm.cell
  obtain ⟨r1, r2, D, hown, hsz, hhas⟩ := hS0
  gi_wp2_with (first
    | (gi_at_len; refine wpListIn_len_own _ rfl _ _ rfl TI TB Try.underlying62 _ b S.length D rfl hown ?_)
    | gi_in)
  refine rangeG (gf := gf) (lb := lb) rfl heg hseq (fun k hk => hk.elim) keepL_t (keepL_b (by omega) (fun c hc => by have := (hLs c hc).1; omega)) (tW _ _) (fun _ => rfl)
    (fun pre X => SetAt b (unionV S (vals pre)) X ∧ Boxed X w.heap.size 62 (.map (some b)) ∧ pre.length ≤ N ∧ W0.heap.size ≤ X.heap.size ∧ Turn w.heap.size (fun k => k = b) w X)
    (fun c pre X => False)
    ?hI ?hIx ?h0
    (fun x a' X => a' = Act.mk #[.map (some b), .func (.func gf) #[] lb, .pointer (some ⟨w.heap.size, 0, none⟩), undef, .bool false, .int .i64 (S.length : Int), .int .i64 x.1, .map (some b), .int .i64 (S.length : Int), .func (.func gf) #[] lb, .int .i64 x.1, undef, undef, undef, undef, undef, undef] []) ?hAx ?assign ?body ?done ?stop
  case hI =>
    rintro pre X X' ⟨h1, h2, h3, h4, h5⟩ ht
    exact ⟨h1.turn ht (fun h => h) (by omega), Boxed.turn h2 ht (fun h => h), h3, Nat.le_trans h4 ht.size, h5.trans (ht.mono (by omega) (fun _ h => h.elim))⟩
  case hIx => exact fun c s X X' h _ => h
  case h0 => exact ⟨⟨r1, r2, D, hown, hsz, hhas⟩, bm, Nat.zero_le _, Nat.le_refl _, tW _ _⟩
  case hAx => exact fun x a' s X Y h _ => h
  case assign =>
    rintro l pre x X K hI hK2
    simp only [encX]
    gi_wp2
    exact hK2 _ _ (KeepsFrom.refl _ _) (keepL_refl _ _ _) hI rfl
  case body =>
    rintro l pre x a' X hl hr ⟨h1, h2, h3, h4, h5⟩ rfl hpre
    have cv := h2.cell
    obtain ⟨q1, q2, D', hown', hsz', hhas'⟩ := h1
    have hlen := unionV_len (vals pre) r1
    have hvl : (vals pre).length = pre.length := by simp [vals]
    have maxl : maxLen = 9223372036854775807 := rfl
    have hbX := hown'.lt
    gi_wp2_with (first
      | (gi_at_mapUpdate; refine wpListIn_mapUpdate_own _ rfl _ _ _ 62 rfl TI TB law Try.underlying62 _ b _ _ rfl hown' (by omega) _ _ _ rfl rfl (Maps.keyOf_int_mk Try.underlying3 x.2) _ [] (plainElem_bool Try.underlying4 true) ?_; intro w1 hown1 hgrow1)
      | gi_in)
    have ht1 : Turn w.heap.size (fun k => k = b) X w1 := Turn.grown hgrow1 (fun k e => by cases e; exact .inl rfl)
    refine ⟨KeepsFrom.of_grownBy hgrow1 (fun j e => by cases e; omega), keepL_grown (keepL_refl _ _ _) (by omega) hgrow1 (fun k e => by cases e; exact ⟨hn0, fun hc => (hLs _ hc).2 rfl⟩), ?_, Boxed.turn h2 ht1 (by omega), by simp; omega, Nat.le_trans h4 ht1.size, h5.trans ht1⟩
    rw [vals_app]
    exact SetAt.put q1 q2 hsz' hhas' hown' x.1 x.2 hown1
  case done =>
    rintro D0 ys X hD rfl ⟨h1, h2, h3, h4, h5⟩ hK'
    have cv := h2.cell
    obtain ⟨q1, q2, D', hown', hsz', hhas'⟩ := h1
    gi_wp2_with (first
      | (gi_at_len; refine wpListIn_len_own _ rfl _ _ rfl TI TB Try.underlying62 _ b _ _ rfl hown' ?_)
      | gi_in)
    have tp : ∀ L T, L ≤ D0 → Turn L T X (X.putObj D0 (.deferred none)) := fun L T h => Turn.putObj _ hK' h rfl
    have s1 : SetAt b (unionV S (vals ys)) X := ⟨q1, q2, D', hown', hsz', hhas'⟩
    refine ⟨by simp, .inl ⟨_, _, rfl, run_takeDeferred hK', ?_⟩⟩
    exact ⟨_, results_tmp rfl _ _ _, rfl, s1.turn (tp w.heap.size (fun _ => False) (by omega)) (fun h => h) hbw, h5.trans (tp _ _ (by omega))⟩
  case stop => exact fun D c pre W hD hp h => h.elim
end Go.Proofs.Ytkfpmolplemdlaa.Add
