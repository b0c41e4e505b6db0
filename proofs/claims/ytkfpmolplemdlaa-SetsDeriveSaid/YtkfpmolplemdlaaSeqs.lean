/- Iterators of numbers, and what collects them: slices.Values, slices.AppendSeq, slices.Collect. No condition but the reach. -/
import Derived.Test.YtkfpmolplemdlaaFl
import Derived.Test.YtkfpmolplemdlaaRangeH
import Derived.Maps.AppendAt
namespace Go.Proofs.Ytkfpmolplemdlaa.Seqs
open Go Go.RowKit Go.Shelf Go.Proofs.YtkfpmolplemdlaaW.PrintWords Go.Proofs.Ytkfpmolplemdlaa.Round Go.Proofs.Ytkfpmolplemdlaa.RangeG Go.Proofs.Ytkfpmolplemdlaa.Fl Go.Proofs.Ytkfpmolplemdlaa.RangeH
attribute [local go_sem] Oper.semAt_some
set_option linter.unusedVariables false
set_option linter.unusedSimpArgs false
abbrev TI : TypeId := 3
/-- A number of Go's int. -/
abbrev I64 := { x : Int // (Lit.int .i64 x).wf = true }
def encX (x : I64) : Array Value := #[.int .i64 x.1]
def vals (xs : List I64) : List Int := xs.map (·.1)
def ints (xs : List I64) : List Value := xs.map fun x => .int .i64 x.1
/-- All cells stay but numbers and variables of rows of numbers. -/
def KeepT (W W' : World) : Prop := ∀ (k : Nat) cs t fr, W.heap[k]? = some (.cells cs t fr) → t ≠ TI → t ≠ 26 → W'.heap[k]? = some (.cells cs t fr)
theorem keepT_refl (W : World) : KeepT W W := fun _ _ _ _ h _ _ => h
theorem keepT_t {A B C : World} (h : KeepT A B) (k : KeepT B C) : KeepT A C := fun i cs t fr hi h1 h2 => k i cs t fr (h i cs t fr hi h1 h2) h1 h2
theorem keepT_b (W : World) (l : Nat) (o o' : Obj) (h : W.heap[l]? = some o) (h1 : o.isCells = false) : KeepT W (W.putObj l o') := fun k cs t fr hk _ _ => (World.putObj_heap_other (fun e => by subst e; rw [hk] at h; cases h; cases h1)).trans hk
theorem keepT_alloc (W : World) (o : Obj) : KeepT W (W.alloc o) := fun k cs t fr hk _ _ => blk_alloc hk o
theorem keepT_grown {W W' : World} {row : Option Nat} (hg : W.grownBy W' row) (hr : ∀ k, row = some k → ∃ cs t fr, W.heap[k]? = some (.cells cs t fr) ∧ (t = TI ∨ t = 26)) : KeepT W W' := fun k cs t fr hk h1 h2 =>
  (hg.block k (blk_lt hk) (fun e => by
    obtain ⟨cs', t', fr', h3, h4⟩ := hr k e.symm
    rw [hk] at h3
    cases h3
    exact h4.elim h1 h2)).trans hk
theorem keepT_set {W : World} {B : Nat} {v : Value} {t : TypeId} (hB : Boxed W B t v) (ht : t = TI ∨ t = 26) (u : Value) : KeepT W (W.setCell ⟨B, 0, none⟩ u) := fun k cs t' fr hk h1 h2 =>
  (Below.heap_setCell W ⟨B, 0, none⟩ u k (fun e => by
    have e' : k = B := e
    rw [e', hB] at hk
    cases hk
    exact ht.elim h1 h2)).trans hk
/-- What a round of a loop over an iterator keeps. -/
def KeepW (n₀ : Nat) (L : List Nat) (W W' : World) : Prop := KeepL n₀ L W W' ∧ KeepsWalks W W' ∧ KeepT W W'
theorem keepW_refl (n₀ : Nat) (L : List Nat) (W : World) : KeepW n₀ L W W := ⟨keepL_refl _ _ _, KeepsWalks.refl _, keepT_refl _⟩
theorem keepW_t {n₀ : Nat} {L : List Nat} {A B C : World} (h : KeepW n₀ L A B) (k : KeepW n₀ L B C) : KeepW n₀ L A C := ⟨keepL_t h.1 k.1, walksK_t h.2.1 k.2.1, keepT_t h.2.2 k.2.2⟩
theorem keepW_b {n₀ : Nat} {L : List Nat} {w : World} (hn : n₀ ≤ w.heap.size) (hL : ∀ b, b ∈ L → b < w.heap.size) (W : World) (l : Nat) (o o' : Obj) (hl : w.heap.size ≤ l) (h : W.heap[l]? = some o) (h1 : o.isCells = false) (h2 : o.isWalk = false) : KeepW n₀ L W (W.putObj l o') :=
  ⟨keepL_b hn hL W l o o' hl h h1 h2, walksK_b (w := w) W l o o' hl h h1 h2, keepT_b W l o o' h h1⟩
/-- What a round of a loop with its record at l keeps. -/
def KeepH (n₀ : Nat) (l : Nat) (W W' : World) : Prop := KeepW n₀ [] W W' ∧ Behind l W W'
theorem keepH_t {n₀ l : Nat} {A B C : World} (h : KeepH n₀ l A B) (k : KeepH n₀ l B C) : KeepH n₀ l A C := ⟨keepW_t h.1 k.1, behind_t h.2 k.2⟩
theorem keepH_b {n₀ : Nat} {w : World} (hn : n₀ ≤ w.heap.size) (W : World) (o o' : Obj) (h : W.heap[w.heap.size + 1]? = some o) (h1 : o.isCells = false) (h2 : o.isWalk = false) : KeepH n₀ (w.heap.size + 1) W (W.putObj (w.heap.size + 1) o') :=
  ⟨keepW_b (L := []) hn (fun b hb => by cases hb) W _ o o' (by omega) h h1 h2, behind_b _ W o o' h⟩
theorem keepH_refl (n₀ l : Nat) (W : World) : KeepH n₀ l W W := ⟨keepW_refl _ _ _, behind_refl _ _⟩
theorem infoI : (Try.prog.info? TI).map (fun i => (i.zero, i.size, i.bytes)) = some (some (.int .i64 0), 1, 8) := by kernel_rfl
set_option maxRecDepth 100000 in
set_option maxHeartbeats 4000000 in
theorem append_calls (gf : Nat) (lb : Array Value) (heg : ∀ args w, (callFunc gf args).run Try.prog w = .ok (.enter gf args) w) (w : World)
    (S Sp : List I64 → Prop) (N : Nat) (hN : N ≤ 1000000000000) (hseq : SeqH 2 Try.prog gf lb encX (KeepH w.heap.size) S Sp N w) :
    Calls Try.prog 53 #[.slice none 0 0, .func (.func gf) #[] lb] w fun e w' => ∃ v xs, e = .returned v ∧ S xs ∧ xs.length ≤ N ∧ w'.ownsRow w.heap.size TI 1 v xs.length (ints xs) ∧ Below w.heap.size w w' := by
  refine (callsIn_wide (n := 3)).1 ?_
  refine callsIn_of_wp_marks Try.func53 rfl trivial ?_ rfl
  simp only [Try.ntmps53, List.size_toArray, List.length_cons, List.length_nil, Nat.reduceAdd, Nat.reduceSub, Array.replicate_succ, Array.replicate_zero, List.push_toArray, List.append_toArray, List.nil_append, List.cons_append]
  gi_wp2
  obtain ⟨W0, hW0⟩ : ∃ W0, w.alloc (Obj.cells #[.slice none 0 0] 26) = W0 := ⟨_, rfl⟩
  have bv : Boxed W0 w.heap.size 26 (.slice none 0 0) := by rw [← hW0]; exact Boxed.new w _ _
  have tW : ∀ L T', Turn L T' w W0 := fun L T' => by rw [← hW0]; exact Turn.alloc _
  have hB0 : Below w.heap.size w W0 := by rw [← hW0]; exact (Below.refl _ _).alloc (Nat.le_refl _) _
  have sz0 : W0.heap.size = w.heap.size + 1 := by rw [← hW0]; simp
  rw [hW0]
  clear hW0
  obtain ⟨i0, hi, hz0, hz1, hz2⟩ := info_parts infoI
  refine rangeH (gf := gf) (lb := lb) rfl heg hseq keepH_t (keepH_b (by omega)) (tW _ _) (fun _ => rfl)
    (fun pre X => (∃ v, Boxed X w.heap.size 26 v ∧ X.ownsRow W0.heap.size TI 1 v pre.length (ints pre)) ∧ pre.length ≤ N ∧ W0.heap.size ≤ X.heap.size ∧ Below w.heap.size w X)
    (fun c pre X => False)
    ?hI ?hIx ?h0
    (fun x a' X => a' = Act.mk #[.slice none 0 0, .func (.func gf) #[] lb, .pointer (some ⟨w.heap.size, 0, none⟩), undef, .slice none 0 0, .int .i64 x.1, .func (.func gf) #[] lb, .int .i64 x.1, undef, undef, undef, undef, undef] []) ?hAx ?assign ?body ?done ?stop
  case hI =>
    rintro pre X X' ⟨⟨v, h1, h2⟩, h3, h4, h5⟩ ht
    exact ⟨⟨v, Boxed.turn h1 ht (fun h => h), row_turn h2 ht (fun _ _ h => h)⟩, h3, Nat.le_trans h4 ht.size, below_turn h5 ht (Nat.le_refl _) (by omega) (fun k hk => hk.elim)⟩
  case hIx => exact fun c s X X' h _ => h
  case h0 => exact ⟨⟨_, bv, World.ownsRow_nil _ _ _ _⟩, Nat.zero_le _, Nat.le_refl _, hB0⟩
  case hAx => exact fun x a' s X Y h _ => h
  case assign =>
    rintro l pre x X K ⟨⟨v, h1, h2⟩, h3, h4, h5⟩ hK2
    simp only [encX]
    gi_wp2
    exact hK2 _ _ (KeepsFrom.refl _ _) (keepH_refl _ _ _) ⟨⟨v, h1, h2⟩, h3, h4, h5⟩ rfl
  case body =>
    rintro l pre x a' X hl hr ⟨⟨v, h1, h2⟩, h3, h4, h5⟩ rfl hpre
    have cv := h1.cell
    have one : ∀ u ∈ [Value.int .i64 x.1], u.oneCell' = true := by
      intro u hu
      simp at hu
      rw [hu]
      rfl
    have H1 := Lib.hid one
    clear one
    have maxl : maxLen = 9223372036854775807 := rfl
    have HM := Lib.hid maxl
    clear maxl
    have il : (ints pre).length = pre.length := by simp [ints]
    gi_wp2_with (gi_at_builtin; refine wpListIn_append_own _ rfl _ _ 26 rfl W0.heap.size TI i0 (.int .i64 0) 1 8 Try.underlying26 hi hz0 hz1 hz2 rfl (by decide) _ _ _ rfl (h2.alloc _) ⟨X.heap.size, 0, none⟩ 1 1 [.int .i64 x.1] rfl rfl (cell_one_new _ _ _) H1.out (by have := HM.out; omega) (by omega) (by simp; omega) ?_; intro v' w1 hown' hgrow _; obtain ⟨g', cap', rfl⟩ := ownsRow_succ hown'; obtain ⟨hv1, hv2, hr2, hk2, hb2⟩ := append_step (n₀ := w.heap.size) (Ls := []) h1 (by omega) h2 h4 hown' hgrow (by omega) (fun b hb => nomatch hb); have hc1 := hv1.cell; have hf1 := hv1.frozen)
    have e2 : ints (pre ++ [x]) = ints pre ++ [.int .i64 x.1] := by simp [ints]
    have e3 : (pre ++ [x]).length = pre.length + 1 := by simp
    refine ⟨hk2, ⟨⟨hb2, ((KeepsWalks.alloc X _).trans (KeepsWalks.of_grownBy hgrow (fun j o hj ho => ?_))).trans (KeepsWalks.setCell _ _ _), keepT_t (keepT_t (keepT_alloc X _) (keepT_grown hgrow (fun j hj => ?_))) (keepT_set hv1 (.inr rfl) _)⟩, behind_from hk2 (by omega)⟩, ⟨_, hv2, ?_⟩, by omega, Nat.le_trans h4 hb2.1.size, h5.trans hb2.1⟩
    · replace hj : v.ownBlock = some j := hj
      rcases h2.2 with ⟨hv, _⟩ | ⟨g, cap, cur, hv, hg, hh, _⟩
      · rw [hv] at hj; simp [Value.ownBlock] at hj
      · rw [hv] at hj
        obtain rfl : g = j := by simpa [Value.ownBlock] using hj
        rw [blk_alloc hh _] at ho
        cases ho
        rfl
    · replace hj : v.ownBlock = some j := hj
      rcases h2.2 with ⟨hv, _⟩ | ⟨g, cap, cur, hv, hg, hh, _⟩
      · rw [hv] at hj; simp [Value.ownBlock] at hj
      · rw [hv] at hj
        obtain rfl : g = j := by simpa [Value.ownBlock] using hj
        exact ⟨_, _, _, blk_alloc hh _, .inl rfl⟩
    · rw [e2, e3]
      exact hr2
  case done =>
    rintro D ys X hD hS ⟨⟨v, h1, h2⟩, h3, h4, h5⟩ hK'
    have cv := h1.cell
    have HS := Lib.hid hS
    clear hS
    gi_wp2
    refine ⟨by simp, .inl ⟨_, _, rfl, run_takeDeferred hK', ?_⟩⟩
    refine ⟨_, results_tmp rfl _ _ _, v, ys, rfl, HS.out, h3, ?_, h5.trans (belowK_b (w := w) (Nat.le_refl _) X D _ _ (by omega) hK' rfl rfl)⟩
    exact own_weaken (ownsRow_putObj h2 _ hK' rfl) (by omega)
  case stop => exact fun D c pre W hD hp h => h.elim
set_option maxHeartbeats 1000000 in
theorem collect_calls (gf : Nat) (lb : Array Value) (heg : ∀ args w, (callFunc gf args).run Try.prog w = .ok (.enter gf args) w) (w : World)
    (S Sp : List I64 → Prop) (N : Nat) (hN : N ≤ 1000000000000) (hseq : SeqH 2 Try.prog gf lb encX (KeepH w.heap.size) S Sp N w) :
    Calls Try.prog 36 #[.func (.func gf) #[] lb] w fun e w' => ∃ v xs, e = .returned v ∧ S xs ∧ xs.length ≤ N ∧ w'.ownsRow w.heap.size TI 1 v xs.length (ints xs) ∧ Below w.heap.size w w' := by
  have hc := append_calls gf lb heg w S Sp N hN hseq
  go_enter Try.func36, Try.ntmps36
  go_wp2_with (go_at_call 53; refine hc.mono ?_; rintro e w' ⟨v, xs, rfl, h1, h2, h3, h4⟩)
  go_ret
  exact ⟨v, xs, rfl, h1, h2, h3, h4⟩
/-- Nothing. -/
theorem none_stops (n : Nat) (n₀ : Nat) (Ls : List Nat) (N : Nat) (w : World) : SeqG n Try.prog 49 #[] encX (KeepW n₀ Ls) (fun _ => False) (fun ys => ys = []) (fun pre => pre = []) N w := by
  intro L J Jx W hW hJ hJx hY h0
  refine callsIn_of_wp Try.func49 rfl trivial ?_ rfl
  simp only [Try.ntmps49, List.size_toArray, List.length_cons, List.length_nil, Nat.reduceAdd, Nat.reduceSub, Array.replicate_succ, Array.replicate_zero, List.push_toArray, List.append_toArray, List.nil_append, List.cons_append]
  gi_wp2
  go_end0
  exact ⟨⟨_, rfl⟩, .inl ⟨[], rfl, h0⟩⟩
/-- A row of numbers that is read. -/
def RowI (w : World) (A : Option Addr) (xs : List I64) : Prop := xs ≠ [] → ∃ ad : Addr, A = some ad ∧ ∀ (j : Nat) x, xs[j]? = some x → w.cell? (ad.add j) = some (.int .i64 x.1)
theorem RowI.below {w w' : World} {A : Option Addr} {xs : List I64} (h : RowI w A xs) (hb : Below w.heap.size w w') : RowI w' A xs := fun hne => by
  obtain ⟨ad, h1, h3⟩ := h hne
  exact ⟨ad, h1, fun j x hx => pw_cell_below hb (h3 j x hx)⟩
theorem rowI_own {w : World} {base n : Nat} {v : Value} {xs : List I64} (h : w.ownsRow base TI 1 v n (ints xs)) : ∃ A c, v = .slice A xs.length c ∧ RowI w A xs := by
  have hl : n = xs.length := by have := h.1; simp [ints] at this; omega
  subst hl
  rcases h.2 with ⟨hv, hn⟩ | ⟨g, cap, cur, hv, hg, hh, hcap, hmax, hsz, htk⟩
  · exact ⟨none, 0, by rw [hv, hn], fun hne => absurd (List.eq_nil_of_length_eq_zero hn) hne⟩
  · refine ⟨_, cap, hv, fun _ => ⟨⟨g, 0, none⟩, rfl, fun j x hx => ?_⟩⟩
    have hj := (List.getElem?_eq_some_iff.1 hx).1
    rw [add_plain, blk_cell hh j]
    have : (ints xs)[j]? = some (.int .i64 x.1) := by unfold ints; rw [List.getElem?_map, hx]; rfl
    rw [← htk, List.getElem?_take_of_lt (by omega), Array.getElem?_toList] at this
    exact this
set_option maxRecDepth 100000 in
set_option maxHeartbeats 4000000 in
theorem ivals_stops (n B : Nat) (hn : 1 ≤ n) (A : Option Addr) (cap : Nat) (xs : List I64) (u w : World) (hl : xs.length ≤ 1000000000000) (hR : RowI u A xs) (hw0 : Below u.heap.size u w) (hB : w.heap[B]? = some (.cells #[.slice A xs.length cap] 26 (0, 0))) :
    SeqG n Try.prog 57 #[.pointer (some ⟨B, 0, none⟩)] encX (KeepL u.heap.size []) (fun _ => False) (fun ys => ys = xs) (fun pre => pre <+: xs) xs.length w := by
  intro L J Jx W hW hJ hJx hY h0
  have hBW := hW.same B _ hB (fun h => h) (.inr rfl)
  have hwW : Below u.heap.size u W := below_turn hw0 hW (Nat.le_refl _) hw0.size (fun k h => h.elim)
  have cB : W.cell? ⟨B, 0, none⟩ = some (.slice A xs.length cap) := blk_cell hBW 0
  clear hw0 hB hW hBW
  refine callsIn_of_wp Try.func57 rfl trivial ?_ rfl
  simp only [Try.ntmps57, List.size_toArray, List.length_cons, List.length_nil, Nat.reduceAdd, Nat.reduceSub, Array.replicate_succ, Array.replicate_zero, List.push_toArray, List.append_toArray, List.nil_append, List.cons_append]
  gi_wp2
  gi_loopw [7] (fun i wr => ∃ (j : Nat), i = .int .i64 (j : Int) ∧ j ≤ xs.length ∧ J (xs.take j) wr ∧ Below u.heap.size u wr) (fun i _ => xs.length - (intOf i).toNat)
  case atStart => exact ⟨0, rfl, Nat.zero_le _, h0, hwW⟩
  case round =>
    obtain ⟨j, rfl, hj, hJs, hb⟩ := hrel
    by_cases hlt : j < xs.length
    · obtain ⟨ad, rfl, hc⟩ := hR (fun e => by rw [e] at hlt; simp at hlt)
      have hx := List.getElem?_eq_getElem hlt
      generalize xs[j] = x at hx
      have f0 := pw_cell_below hb (hc j x hx)
      obtain ⟨fn, tmps, assign, body, hy, hR⟩ := hY (xs.take j) x _ hJs (by rw [List.length_take]; omega)
      simp only [encX] at hy
      have HT := Lib.hid (take_succ_of hx)
      clear hx hY hc
      gi_wp2
      refine hR.mono ?_
      rintro e W3 (⟨rfl, hJ3, hk3⟩ | ⟨rfl, hJx3⟩)
      · gi_wp2
        go_roundw
        case rel => exact ⟨j + 1, by first | rfl | go_num, by omega, by rw [HT.out]; exact hJ3, hb.trans hk3.1⟩
        case measure => simp [intOf]; omega
      · gi_wp2
        refine bodyPost_ret (results_none rfl _ _ _) rfl ?_
        exact ⟨⟨_, rfl⟩, .inr ⟨_, by rw [← HT.out]; exact List.take_prefix _ _, hJx3⟩⟩
    · obtain rfl : j = xs.length := by omega
      gi_wp2
      go_end0
      exact ⟨⟨_, rfl⟩, .inl ⟨_, List.take_length, hJs⟩⟩
set_option maxRecDepth 100000 in
set_option maxHeartbeats 4000000 in
/-- The same over a row of the call's own that lies in a block to be kept. -/
theorem gvals_stops (n B g : Nat) (hn : 1 ≤ n) (A : Option Addr) (cap : Nat) (xs : List I64) (cs : Array Value) (w0 w : World) (hw0 : Below w0.heap.size w0 w) (hl : xs.length ≤ 1000000000000)
    (hB : w.heap[B]? = some (.cells #[.slice A xs.length cap] 26 (0, 0))) (hg : xs ≠ [] → A = some ⟨g, 0, none⟩ ∧ w.heap[g]? = some (.cells cs TI (0, 0)) ∧ ∀ (j : Nat) (x : I64), xs[j]? = some x → cs[j]? = some (.int .i64 x.1)) :
    SeqG n Try.prog 57 #[.pointer (some ⟨B, 0, none⟩)] encX (KeepL w0.heap.size [g]) (fun _ => False) (fun ys => ys = xs) (fun pre => pre <+: xs) xs.length w := by
  intro L J Jx W hW hJ hJx hY h0
  have hBW := hW.same B _ hB (fun h => h) (.inr rfl)
  have hwW : Below w0.heap.size w0 W := below_turn hw0 hW (Nat.le_refl _) hw0.size (fun k h => h.elim)
  have hgW : xs ≠ [] → A = some ⟨g, 0, none⟩ ∧ W.heap[g]? = some (.cells cs TI (0, 0)) ∧ ∀ (j : Nat) (x : I64), xs[j]? = some x → cs[j]? = some (.int .i64 x.1) := fun h => ⟨(hg h).1, hW.same g _ (hg h).2.1 (fun h => h) (.inr rfl), (hg h).2.2⟩
  have cB : W.cell? ⟨B, 0, none⟩ = some (.slice A xs.length cap) := blk_cell hBW 0
  have HG := Lib.hid hgW
  clear hw0 hB hW hBW hg hgW
  refine callsIn_of_wp Try.func57 rfl trivial ?_ rfl
  simp only [Try.ntmps57, List.size_toArray, List.length_cons, List.length_nil, Nat.reduceAdd, Nat.reduceSub, Array.replicate_succ, Array.replicate_zero, List.push_toArray, List.append_toArray, List.nil_append, List.cons_append]
  gi_wp2
  gi_loopw [7] (fun i wr => ∃ (j : Nat), i = .int .i64 (j : Int) ∧ j ≤ xs.length ∧ J (xs.take j) wr ∧ Hid (xs ≠ [] → wr.heap[g]? = some (.cells cs TI (0, 0)))) (fun i _ => xs.length - (intOf i).toNat)
  case atStart => exact ⟨0, rfl, Nat.zero_le _, h0, Lib.hid (fun h => (HG.out h).2.1)⟩
  case round =>
    obtain ⟨j, rfl, hj, hJs, hgr⟩ := hrel
    by_cases hlt : j < xs.length
    · have hne : xs ≠ [] := fun e => by rw [e] at hlt; simp at hlt
      obtain ⟨rfl, _, hcs⟩ := HG.out hne
      have hx := List.getElem?_eq_getElem hlt
      generalize xs[j] = x at hx
      have f0 : wr.cell? ⟨g, j, none⟩ = some (.int .i64 x.1) := by
        rw [blk_cell (hgr.out hne) j]
        exact hcs j x hx
      obtain ⟨fn, tmps, assign, body, hy, hR⟩ := hY (xs.take j) x _ hJs (by rw [List.length_take]; omega)
      simp only [encX] at hy
      have HT := Lib.hid (take_succ_of hx)
      have HN := Lib.hid hne
      clear hx hY hcs hne
      gi_wp2
      refine hR.mono ?_
      rintro e W3 (⟨rfl, hJ3, hk3⟩ | ⟨rfl, hJx3⟩)
      · have hg3 : Hid (xs ≠ [] → W3.heap[g]? = some (.cells cs TI (0, 0))) := Lib.hid fun h => (hk3.2 g (by simp) (blk_lt (hgr.out h))).trans (hgr.out h)
        gi_wp2
        go_roundw
        case rel => exact ⟨j + 1, by first | rfl | go_num, by omega, by rw [HT.out]; exact hJ3, hg3⟩
        case measure => simp [intOf]; omega
      · gi_wp2
        refine bodyPost_ret (results_none rfl _ _ _) rfl ?_
        exact ⟨⟨_, rfl⟩, .inr ⟨_, by rw [← HT.out]; exact List.take_prefix _ _, hJx3⟩⟩
    · obtain rfl : j = xs.length := by omega
      gi_wp2
      go_end0
      exact ⟨⟨_, rfl⟩, .inl ⟨_, List.take_length, hJs⟩⟩
theorem ivals_calls (A : Option Addr) (n c : Nat) (w : World) : Calls Try.prog 40 #[.slice A n c] w fun e w' => e = .returned (.func (.func 57) #[] #[.pointer (some ⟨w.heap.size, 0, none⟩)]) ∧ w.alloc (.cells #[.slice A n c] 26) = w' := by
  go_enter Try.func40, Try.ntmps40
  go_wp2
  go_ret
  exact ⟨rfl, rfl⟩
end Go.Proofs.Ytkfpmolplemdlaa.Seqs
