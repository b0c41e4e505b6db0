/- sets.begin walked: what can begin, of each symbol. Over productions whose symbols are there. -/
import Derived.Test.YtkfpmolplemdlaaAhd
namespace Go.Proofs.Ytkfpmolplemdlaa.Begin
open Go Go.RowKit Go.Shelf Go.Maps Go.Proofs.YtkfpmolplemdlaaW.PrintWords Go.Proofs.YtkfpmolplemdlaaW.PrintLast Go.Proofs.Ytkfpmolplemdlaa.Round Go.Proofs.Ytkfpmolplemdlaa.RangeG Go.Proofs.Ytkfpmolplemdlaa.RangeH Go.Proofs.Ytkfpmolplemdlaa.Fl Go.Proofs.Ytkfpmolplemdlaa.Grow Go.Proofs.Ytkfpmolplemdlaa.Seqs Go.Proofs.Ytkfpmolplemdlaa.MSet Go.Proofs.Ytkfpmolplemdlaa.Add Go.Proofs.Ytkfpmolplemdlaa.Deri Go.Proofs.Ytkfpmolplemdlaa.Ahd
attribute [local go_sem] Oper.semAt_some
set_option linter.unusedVariables false
set_option linter.unusedSimpArgs false
/-- What items can begin with, with those behind, as a rising row. -/
def ahV (N : Nat) (em : List Bool) (Ss : List (List Int)) : List I → List Int → List Int
  | [], B => B
  | i :: t, B => if 0 ≤ i.1 ∧ i.1 < N then (if at_ em i.1 = true then unionV (ahV N em Ss t B) (Ss.getD i.1.toNat []) else Ss.getD i.1.toNat []) else ahV N em Ss t B
theorem ahV_mem (N : Nat) (em : List Bool) (Ss : List (List Int)) (B : List Int) (x : Int) : ∀ l : List I, x ∈ ahV N em Ss l B ↔ AhM N em Ss l (· ∈ B) x
  | [] => Iff.rfl
  | i :: t => by
    simp only [ahV, AhM]
    split
    · split
      · rename_i h
        rw [unionV_mem, ahV_mem N em Ss B x t]
        simp [h]
      · rename_i h
        simp [h]
    · exact ahV_mem N em Ss B x t
def Bd (Ss : List (List Int)) : Prop := ∀ S ∈ Ss, ∀ x ∈ S, 0 ≤ x ∧ x < 1000000
theorem rises_len : ∀ {S : List Int} (lo : Int), Rises S → (∀ x ∈ S, lo ≤ x ∧ x < 1000000) → lo ≤ 1000000 → (S.length : Int) ≤ 1000000 - lo
  | [], lo, _, _, h => by simp; omega
  | a :: t, lo, h, hb, _ => by
    obtain ⟨h1, h2⟩ := List.pairwise_cons.1 h
    have ha := hb a (by simp)
    have := rises_len (S := t) (a + 1) h2 (fun x hx => ⟨by have := h1 x hx; omega, (hb x (by simp [hx])).2⟩) (by omega)
    rw [List.length_cons]
    omega
theorem bd_len {Ss : List (List Int)} (h : Bd Ss) (hr : ∀ S ∈ Ss, Rises S) : ∀ S ∈ Ss, S.length ≤ 1000000 := fun S hS => by
  have := rises_len 0 (hr S hS) (h S hS) (by omega)
  omega
theorem fs_rises {G : Geo} {em : List Bool} {Ss : List (List Int)} {W : World} (h : Fs G em Ss W) : ∀ S ∈ Ss, Rises S := fun S hS => by
  obtain ⟨i, hi, rfl⟩ := List.mem_iff_getElem.1 hS
  obtain ⟨b, S', hb, hS', hA, _⟩ := h.bm i (by rw [← h.ssl]; exact hi)
  rw [List.getElem?_eq_getElem hi] at hS'
  cases hS'
  exact hA.1
/-- One production's turn: the sets, whether one has grown. -/
def stepF (N : Nat) (em : List Bool) (Ss : List (List Int)) (p : P) : List (List Int) × Bool :=
  (Ss.set p.1.toNat (unionV (Ss.getD p.1.toNat []) (ahV N em Ss p.2.1 [])), decide ((unionV (Ss.getD p.1.toNat []) (ahV N em Ss p.2.1 [])).length > (Ss.getD p.1.toNat []).length))
theorem own_g {w : World} {base n : Nat} {v : Value} {xs : List I64} (h : w.ownsRow base TI 1 v n (ints xs)) : ∃ A c, v = .slice A xs.length c ∧ ∃ (g : Nat) (cs : Array Value), xs ≠ [] → A = some ⟨g, 0, none⟩ ∧ base ≤ g ∧ w.heap[g]? = some (.cells cs TI (0, 0)) ∧ ∀ (j : Nat) (x : I64), xs[j]? = some x → cs[j]? = some (.int .i64 x.1) := by
  have hl : n = xs.length := by have := h.1; simp [ints] at this; omega
  subst hl
  rcases h.2 with ⟨hv, hn⟩ | ⟨g, cap, cur, hv, hg, hh, hcap, hmax, hsz, htk⟩
  · exact ⟨none, 0, by rw [hv, hn], 0, #[], fun hne => absurd (List.eq_nil_of_length_eq_zero hn) hne⟩
  · refine ⟨_, cap, hv, g, cur, fun _ => ⟨rfl, hg, hh, fun j x hx => ?_⟩⟩
    have hj := (List.getElem?_eq_some_iff.1 hx).1
    have : (ints xs)[j]? = some (.int .i64 x.1) := by unfold ints; rw [List.getElem?_map, hx]; rfl
    rw [← htk, List.getElem?_take_of_lt (by omega), Array.getElem?_toList] at this
    exact this
set_option maxRecDepth 100000 in
set_option maxHeartbeats 4000000 in
/-- Values of a row of the call's own, taken into a set. -/
theorem addrow_calls (w u : World) (v : Value) (n base : Nat) (xs : List I64) (b : Nat) (S : List Int) (hS : SetAt b S w) (ho : w.ownsRow base TI 1 v n (ints xs)) (hb : b < base) (hub : u.heap.size ≤ b) (hu : Below u.heap.size u w) (hl : S.length + xs.length ≤ 1000000000000) :
    ∃ A c, v = .slice A xs.length c ∧ Calls Try.prog 39 #[.map (some b), .func (.func 57) #[] #[.pointer (some ⟨w.heap.size, 0, none⟩)]] (w.alloc (.cells #[v] 26)) fun e w' => e = .returned (.bool (decide ((unionV S (vals xs)).length > S.length))) ∧ SetAt b (unionV S (vals xs)) w' ∧ Turn w.heap.size (fun k => k = b) w w' := by
  obtain ⟨A, c, rfl, g, cs, hg⟩ := own_g ho
  refine ⟨A, c, rfl, ?_⟩
  obtain ⟨W, hW⟩ : ∃ W, w.alloc (.cells #[.slice A xs.length c] 26) = W := ⟨_, rfl⟩
  have hB : W.heap[w.heap.size]? = some (.cells #[.slice A xs.length c] 26 (0, 0)) := by rw [← hW]; exact blk_new w _
  have hlt := hS.lt
  have tW : ∀ L T, Turn L T w W := fun L T => by rw [← hW]; exact Turn.alloc _
  have hS' : SetAt b S W := hS.turn (tW w.heap.size (fun _ => False)) (fun h => h) hlt
  have hu' : Below u.heap.size u W := by rw [← hW]; exact hu.alloc hu.size _
  have szW : W.heap.size = w.heap.size + 1 := by rw [← hW]; simp
  obtain ⟨g', hg'1, hg'2, hg'3⟩ : ∃ g', g' < W.heap.size ∧ g' ≠ b ∧ (xs ≠ [] → A = some ⟨g', 0, none⟩ ∧ W.heap[g']? = some (.cells cs TI (0, 0)) ∧ ∀ (j : Nat) (x : I64), xs[j]? = some x → cs[j]? = some (.int .i64 x.1)) := by
    by_cases hx : xs = []
    · exact ⟨w.heap.size, by omega, by omega, fun h => absurd hx h⟩
    · obtain ⟨h1, h2, h3, h4⟩ := hg hx
      exact ⟨g, by have := blk_lt h3; omega, by omega, fun _ => ⟨h1, cells_turn h3 (tW 0 (fun _ => False)) (fun h => h), h4⟩⟩
  have hseq := gvals_stops 2 w.heap.size g' (by omega) A c xs cs u W hu' (by omega) hB hg'3
  have ha := add_calls 57 #[.pointer (some ⟨w.heap.size, 0, none⟩)] (enters_of Try.func57 (by kernel_rfl) rfl) W u.heap.size [g'] b S xs _ xs.length hl hub (fun d hd => by simp at hd; subst hd; exact ⟨hg'1, hg'2⟩) hS' hseq
  rw [hW]
  refine ha.mono ?_
  rintro e w' ⟨h1, h2, h3⟩
  exact ⟨h1, h2, (tW _ _).trans (h3.mono (by omega) (fun _ h => h))⟩
set_option maxRecDepth 100000 in
set_option maxHeartbeats 4000000 in
theorem change_calls (G : Geo) (em : List Bool) (Ss : List (List Int)) (BX : Nat) (u W : World) (p : P) (A : Option Addr) (c : Nat) (hF : Fs G em Ss W) (hBd : Bd Ss) (hX : Boxed W BX 56 (.pointer (some ⟨G.X, 0, none⟩))) (hok : PrOk G.N p) (hc : p.2.1.length ≤ c) (hp : p.2.1.length ≤ 1000) (hC : Kd.C kI u A p.2.1.length p.2.1) (hu : Below u.heap.size u W) (hub : ∀ b ∈ G.bs, u.heap.size ≤ b) :
    Calls Try.prog 48 #[.agg #[.int .i64 p.1, .slice A p.2.1.length c, .int .i64 p.2.2], .pointer (some ⟨BX, 0, none⟩)] W fun e W' => ∃ b, G.bs[p.1.toNat]? = some b ∧ e = .returned (.bool (stepF G.N em Ss p).2) ∧ SetAt b (unionV (Ss.getD p.1.toNat []) (ahV G.N em Ss p.2.1 [])) W' ∧ Turn W.heap.size (fun k => k = b) W W' := by
  obtain ⟨W0, hW0⟩ : ∃ W0, W.alloc (.cells #[.int .i64 p.1, .slice A p.2.1.length c, .int .i64 p.2.2] TP) = W0 := ⟨_, rfl⟩
  have hB0 : Below W.heap.size W W0 := by rw [← hW0]; exact (Below.refl _ _).alloc (Nat.le_refl _) _
  have sz0 : W0.heap.size = W.heap.size + 1 := by rw [← hW0]; simp
  have hF0 := hF.below hB0
  have q0 := hok.1
  have q1 := hok.2.1
  obtain ⟨b, Sb, hbs, hSs, hSA, cm⟩ := hF0.bm p.1.toNat (by omega)
  have hgd : Ss.getD p.1.toNat [] = Sb := by rw [List.getD_eq_getElem?_getD, hSs]; rfl
  have hub' := hub b (List.mem_of_getElem? hbs)
  have hlb : b < W.heap.size := by
    obtain ⟨b', S', h1, h2, h3, _⟩ := hF.bm p.1.toNat (by omega)
    rw [h1] at hbs
    cases hbs
    exact h3.lt
  have hpb : W0.heap[W.heap.size]? = some (.cells #[.int .i64 p.1, .slice A p.2.1.length c, .int .i64 p.2.2] TP (0, 0)) := by rw [← hW0]; exact blk_new W _
  have hu0 : Below u.heap.size u W0 := hu.trans (hB0.mono hu.size)
  have hHeld : W0.drew.cell? ⟨BX, 0, none⟩ = some (.pointer (some ⟨G.X, 0, none⟩)) ∧ W0.drew.cell? ⟨G.X, 4, none⟩ = some (.slice (some ⟨G.gr, 0, none⟩) G.N G.cr) ∧ W0.drew.cell? ⟨W.heap.size, 0, none⟩ = some (.int .i64 p.1) ∧ W0.drew.cell? ⟨W.heap.size, 1, none⟩ = some (.slice A p.2.1.length c) ∧ W0.drew.cell? ⟨G.gr, p.1.toNat, none⟩ = some (.map (some b)) :=
    ⟨(hB0.cell (p := ⟨BX, 0, none⟩) hX.lt).trans hX.cell, blk_cell hF0.blk 4, blk_cell hpb 0, blk_cell hpb 1, cm⟩
  have keep : ∀ X Y : World, Below X.heap.size X Y → (fun X => X.cell? ⟨BX, 0, none⟩ = some (.pointer (some ⟨G.X, 0, none⟩)) ∧ X.cell? ⟨G.X, 4, none⟩ = some (.slice (some ⟨G.gr, 0, none⟩) G.N G.cr) ∧ X.cell? ⟨W.heap.size, 0, none⟩ = some (.int .i64 p.1) ∧ X.cell? ⟨W.heap.size, 1, none⟩ = some (.slice A p.2.1.length c) ∧ X.cell? ⟨G.gr, p.1.toNat, none⟩ = some (.map (some b))) X → (fun X => X.cell? ⟨BX, 0, none⟩ = some (.pointer (some ⟨G.X, 0, none⟩)) ∧ X.cell? ⟨G.X, 4, none⟩ = some (.slice (some ⟨G.gr, 0, none⟩) G.N G.cr) ∧ X.cell? ⟨W.heap.size, 0, none⟩ = some (.int .i64 p.1) ∧ X.cell? ⟨W.heap.size, 1, none⟩ = some (.slice A p.2.1.length c) ∧ X.cell? ⟨G.gr, p.1.toNat, none⟩ = some (.map (some b))) Y := fun X Y h hh => ⟨pw_cell_below h hh.1, pw_cell_below h hh.2.1, pw_cell_below h hh.2.2.1, pw_cell_below h hh.2.2.2.1, pw_cell_below h hh.2.2.2.2⟩
  have t1 : p.2.1.length ≤ 9223372036854775807 := hC.2.1
  go_enter Try.func48, Try.ntmps48
  go_wp2
  rename_i hK2
  refine wp_qz (start_ (S := fun X => X.cell? ⟨BX, 0, none⟩ = some (.pointer (some ⟨G.X, 0, none⟩)) ∧ X.cell? ⟨G.X, 4, none⟩ = some (.slice (some ⟨G.gr, 0, none⟩) G.N G.cr) ∧ X.cell? ⟨W.heap.size, 0, none⟩ = some (.int .i64 p.1) ∧ X.cell? ⟨W.heap.size, 1, none⟩ = some (.slice A p.2.1.length c) ∧ X.cell? ⟨G.gr, p.1.toNat, none⟩ = some (.map (some b))) (ds := [14]) #[false, false, false, false, false, false, false, false, false, false, false, false, false, false, false, false] (by kernel_rfl) rfl rfl hHeld (fun _ => ?_))
  refine take_ (i := 0) (N := some 4) (v := ?_) (a' := ?_) #[true, false, false, false, false, false, false, false, false, false, false, false, false, false, false, false] rfl rfl (by kernel_rfl) (fun _ _ _ h => h) (Or.inl ⟨by rfl, ?_⟩) hHeld ?_ ?_
  rotate_left
  · rintro w' ⟨s0, s1, s2, s3, s4⟩
    go_simp
    with_reducible rfl
  rotate_left
  · simp only [Act.put, List.setIfInBounds_toArray, List.set_cons_zero, List.set_cons_succ]
    rfl
  refine pure_ (i := 1) (N := some 5) (v := ?_) (a' := ?_) #[true, true, false, false, false, false, false, false, false, false, false, false, false, false, false, false] rfl rfl (by kernel_rfl) (fun _ _ _ h => h) (Or.inl ⟨by rfl, ?_⟩) ?_ ?_
  rotate_left
  · intro w'
    go_simp
    with_reducible rfl
  rotate_left
  · simp only [Act.put, List.setIfInBounds_toArray, List.set_cons_zero, List.set_cons_succ]
    rfl
  refine pure_ (i := 2) (N := some 6) (v := ?_) (a' := ?_) #[true, true, true, false, false, false, false, false, false, false, false, false, false, false, false, false] rfl rfl (by kernel_rfl) (fun _ _ _ h => h) (Or.inl ⟨by rfl, ?_⟩) ?_ ?_
  rotate_left
  · intro w'
    go_simp
    with_reducible rfl
  rotate_left
  · simp only [Act.put, List.setIfInBounds_toArray, List.set_cons_zero, List.set_cons_succ]
    rfl
  refine take_ (i := 3) (N := some 7) (v := ?_) (a' := ?_) #[true, true, true, true, false, false, false, false, false, false, false, false, false, false, false, false] rfl rfl (by kernel_rfl) (fun _ _ _ h => h) (Or.inl ⟨by rfl, ?_⟩) hHeld ?_ ?_
  rotate_left
  · rintro w' ⟨s0, s1, s2, s3, s4⟩
    go_simp
    with_reducible rfl
  rotate_left
  · simp only [Act.put, List.setIfInBounds_toArray, List.set_cons_zero, List.set_cons_succ]
    rfl
  refine pure_ (i := 4) (N := some 8) (v := ?_) (a' := ?_) #[true, true, true, true, true, false, false, false, false, false, false, false, false, false, false, false] rfl rfl (by kernel_rfl) (fun _ _ _ h => h) (Or.inl ⟨by rfl, ?_⟩) ?_ ?_
  rotate_left
  · intro w'
    go_simp
    with_reducible rfl
  rotate_left
  · simp only [Act.put, List.setIfInBounds_toArray, List.set_cons_zero, List.set_cons_succ]
    rfl
  refine take_ (i := 5) (N := some 9) (v := ?_) (a' := ?_) #[true, true, true, true, true, true, false, false, false, false, false, false, false, false, false, false] rfl rfl (by kernel_rfl) (fun _ _ _ h => h) (Or.inl ⟨by rfl, ?_⟩) hHeld ?_ ?_
  rotate_left
  · rintro w' ⟨s0, s1, s2, s3, s4⟩
    go_simp
    with_reducible rfl
  rotate_left
  · simp only [Act.put, List.setIfInBounds_toArray, List.set_cons_zero, List.set_cons_succ]
    rfl
  refine pure_ (i := 6) (N := some 10) (v := ?_) (a' := ?_) #[true, true, true, true, true, true, true, false, false, false, false, false, false, false, false, false] rfl rfl (by kernel_rfl) (fun _ _ _ h => h) (Or.inl ⟨by rfl, ?_⟩) ?_ ?_
  rotate_left
  · intro w'
    go_simp
    with_reducible rfl
  rotate_left
  · simp only [Act.put, List.setIfInBounds_toArray, List.set_cons_zero, List.set_cons_succ]
    rfl
  refine take_ (i := 7) (N := some 11) (v := ?_) (a' := ?_) #[true, true, true, true, true, true, true, true, false, false, false, false, false, false, false, false] rfl rfl (by kernel_rfl) (fun _ _ _ h => h) (Or.inl ⟨by rfl, ?_⟩) hHeld ?_ ?_
  rotate_left
  · rintro w' ⟨s0, s1, s2, s3, s4⟩
    go_simp
    with_reducible rfl
  rotate_left
  · simp only [Act.put, List.setIfInBounds_toArray, List.set_cons_zero, List.set_cons_succ]
    rfl
  refine take_ (i := 8) (N := some 12) (v := ?_) (a' := ?_) #[true, true, true, true, true, true, true, true, true, false, false, false, false, false, false, false] rfl rfl (by kernel_rfl) (fun _ _ _ h => h) (Or.inl ⟨by rfl, ?_⟩) hHeld ?_ ?_
  rotate_left
  · rintro w' ⟨s0, s1, s2, s3, s4⟩
    go_simp
    with_reducible rfl
  rotate_left
  · simp only [Act.put, List.setIfInBounds_toArray, List.set_cons_zero, List.set_cons_succ]
    rfl
  refine pure_ (i := 9) (N := some 13) (v := ?_) (a' := ?_) #[true, true, true, true, true, true, true, true, true, true, false, false, false, false, false, false] rfl rfl (by kernel_rfl) (fun _ _ _ h => h) (Or.inl ⟨by rfl, ?_⟩) ?_ ?_
  rotate_left
  · intro w'
    go_simp
    with_reducible rfl
  rotate_left
  · simp only [Act.put, List.setIfInBounds_toArray, List.set_cons_zero, List.set_cons_succ]
    rfl
  refine take_ (i := 10) (N := some 14) (v := ?_) (a' := ?_) #[true, true, true, true, true, true, true, true, true, true, true, false, false, false, false, false] rfl rfl (by kernel_rfl) (fun _ _ _ h => h) (Or.inl ⟨by rfl, ?_⟩) hHeld ?_ ?_
  rotate_left
  · rintro w' ⟨s0, s1, s2, s3, s4⟩
    go_simp
    with_reducible rfl
  rotate_left
  · simp only [Act.put, List.setIfInBounds_toArray, List.set_cons_zero, List.set_cons_succ]
    rfl
  refine one_ (i := 11) (N := some 15) #[true, true, true, true, true, true, true, true, true, true, true, true, false, false, false, false] rfl rfl (by kernel_rfl) (by decide) (fun K hK => ?_)
  refine goes_ Try.func37 (by kernel_rfl) rfl #[.pointer (some ⟨G.X, 0, none⟩), .slice A p.2.1.length c, .func (.func 49) #[] #[]] (by rfl) rfl rfl (by first | rfl | (simp [Act.eval]; done) | (simp [go_sem]; done)) ?_
  refine (ahead_calls G.X A p.2.1.length c 49 #[] W0.drew).mono ?_
  rintro e X1 ⟨rfl, hX1⟩
  refine ⟨_, rfl, ?_⟩
  have hB1 : Below W0.drew.heap.size W0.drew X1 := by rw [← hX1]; exact (((Below.refl _ _).alloc (Nat.le_refl _) _).alloc (by simp) _).alloc (by simp; omega) _
  have sz1 : X1.heap.size = W0.drew.heap.size + 3 := by rw [← hX1]; simp
  have e1 : Boxed X1 (W0.drew.heap.size + 1) 38 (.slice A p.2.1.length c) := by
    rw [← hX1]; have := (Boxed.new (W0.drew.alloc (.cells #[.pointer (some ⟨G.X, 0, none⟩)] 56)) 38 (.slice A p.2.1.length c)).alloc (.cells #[.func (.func 49) #[] #[]] 66); simpa using this
  have e2 : Boxed X1 W0.drew.heap.size 56 (.pointer (some ⟨G.X, 0, none⟩)) := by
    rw [← hX1]; exact ((Boxed.new W0.drew _ _).alloc _).alloc _
  have e3 : Boxed X1 (W0.drew.heap.size + 1 + 1) 66 (.func (.func 49) #[] #[]) := by
    rw [← hX1]; have := Boxed.new ((W0.drew.alloc (.cells #[.pointer (some ⟨G.X, 0, none⟩)] 56)).alloc (.cells #[.slice A p.2.1.length c] 38)) 66 (.func (.func 49) #[] #[]); simpa using this
  have hF1 : Fs G em Ss X1 := (hF0.below (below_drew (Below.refl _ _))).below hB1
  have hu1 : Below u.heap.size u X1 := (below_drew hu0).trans (hB1.mono (below_drew hu0).size)
  have hh1 := keep _ _ hB1 hHeld
  refine hK.out _ _ hh1 (fun _ => ?_)
  clear hK K hX1
  have hno : SeqH 1 Try.prog 49 #[] encX (KeepH X1.heap.size) (fun ys => ∀ x, x ∈ vals ys ↔ (fun _ => False) x) (fun _ => True) 0 X1 :=
    SeqH.of (none_stops 1 X1.heap.size [] 0 X1) (fun l A B h => h.1) (fun xs h => by subst h; intro x; simp [vals]) (fun _ _ => trivial)
  have hah := ahead_stops G em Ss X1 u A c p.2.1 (W0.drew.heap.size + 1) W0.drew.heap.size (W0.drew.heap.size + 1 + 1) 49 #[] (enters_of Try.func49 (by kernel_rfl) rfl) hF1 (bd_len hBd (fs_rises hF1)) hC hu1 e1 e2 e3 (fun _ => False) (fun _ => True) 0 hno
  refine one_ (i := 12) (N := some 16) #[true, true, true, true, true, true, true, true, true, true, true, true, true, false, false, false] rfl rfl (by kernel_rfl) (by decide) (fun K hK => ?_)
  refine goes_ Try.func36 (by kernel_rfl) rfl #[.func (.func 54) #[] #[.pointer (some ⟨W0.drew.heap.size + 1, 0, none⟩), .pointer (some ⟨W0.drew.heap.size, 0, none⟩), .pointer (some ⟨W0.drew.heap.size + 1 + 1, 0, none⟩)]] (by rfl) rfl rfl (by first | rfl | (simp [Act.eval]; done) | (simp [go_sem]; done)) ?_
  refine (collect_calls 54 _ (enters_of Try.func54 (by kernel_rfl) rfl) X1 _ _ _ (by omega) hah).mono ?_
  rintro e X2 ⟨v2, xs, rfl, hxs, hxl, ho2, hB2⟩
  refine ⟨_, rfl, ?_⟩
  have hh2 := keep _ _ hB2 hh1
  refine hK.out _ _ hh2 (fun _ => ?_)
  clear hK K
  obtain ⟨S0, hS0⟩ : ∃ S0 : World, S0 = X2 := ⟨_, rfl⟩
  have hA2 : SetAt b Sb X2 := ((hSA.keep rfl : SetAt b Sb W0.drew).keep (hB1.block b (by show b < W0.heap.size; omega))).keep (hB2.block b (by have := hB1.size; have : W0.drew.heap.size = W0.heap.size := rfl; omega))
  have hu2 := hu1.trans (hB2.mono hu1.size)
  have hSbl : Sb.length ≤ 1000000 := bd_len hBd (fs_rises hF1) Sb (List.mem_of_getElem? hSs)
  obtain ⟨Av, cv, rfl, hadd⟩ := addrow_calls X2 u v2 xs.length X1.heap.size xs b Sb hA2 ho2 (by have : W0.drew.heap.size = W0.heap.size := rfl; omega) hub' hu2 (by omega)
  refine one_ (i := 13) (N := some 17) #[true, true, true, true, true, true, true, true, true, true, true, true, true, true, false, false] rfl rfl (by kernel_rfl) (by decide) (fun K hK => ?_)
  refine goes_ Try.func40 (by kernel_rfl) rfl #[.slice Av xs.length cv] (by rfl) rfl rfl (by first | rfl | (simp [Act.eval]; done) | (simp [go_sem]; done)) ?_
  refine (ivals_calls Av xs.length cv X2).mono ?_
  rintro e X3 ⟨rfl, hX3⟩
  refine ⟨_, rfl, ?_⟩
  have hB3 : Below X2.heap.size X2 X3 := by rw [← hX3]; exact (Below.refl _ _).alloc (Nat.le_refl _) _
  have hh3 := keep _ _ hB3 hh2
  refine hK.out _ _ hh3 (fun _ => ?_)
  clear hK K
  rw [hX3] at hadd
  refine last_ (i := 14) (N := some 18) #[true, true, true, true, true, true, true, true, true, true, true, true, true, true, true, false] rfl rfl (by kernel_rfl) (by decide) (fun K hK => ?_)
  refine goes_ Try.func39 (by kernel_rfl) rfl #[.map (some b), .func (.func 57) #[] #[.pointer (some ⟨X2.heap.size, 0, none⟩)]] (by rfl) rfl rfl (by first | rfl | (simp [Act.eval]; done) | (simp [go_sem]; done)) ?_
  refine hadd.mono ?_
  rintro e X4 ⟨rfl, hA4, ht4⟩
  refine ⟨_, rfl, ?_⟩
  refine hK.out _ _ ?_
  clear hK K
  refine pure_ (i := 15) (N := some 3) (v := ?_) (a' := ?_) #[true, true, true, true, true, true, true, true, true, true, true, true, true, true, true, true] rfl rfl (by kernel_rfl) (fun _ _ _ h => h) (Or.inl ⟨by rfl, ?_⟩) ?_ ?_
  rotate_left
  · intro w'
    go_simp
    with_reducible rfl
  rotate_left
  · simp only [Act.put, List.setIfInBounds_toArray, List.set_cons_zero, List.set_cons_succ]
    rfl
  refine done_ (by kernel_rfl) ?_
  refine hK2 _ _ ?_
  clear hK2
  have hun : unionV Sb (vals xs) = unionV (Ss.getD p.1.toNat []) (ahV G.N em Ss p.2.1 []) := by
    rw [hgd]
    refine rises_one (unionV_rises _ hSA.1) (unionV_rises _ hSA.1) (fun x => ?_)
    rw [unionV_mem, unionV_mem, ahV_mem, hxs x]
    simp
  rw [hun, hgd] at hA4
  rw [hgd] at hun
  go_wp2
  go_ret
  refine ⟨?_, hA4, ?_⟩
  · simp only [stepF, hgd]
    rfl
  · have tz : Turn W.heap.size (fun k => k = b) W X2 := (Turn.below hB0).trans (Turn.drew.trans ((Turn.below hB1).trans (Turn.below hB2)))
    exact tz.trans (ht4.mono (by have := tz.size; omega) (fun _ h => h))
end Go.Proofs.Ytkfpmolplemdlaa.Begin
