/- Rows of rows of the call's own, read and written; the reference's size. -/
import Derived.Test.YtkfpmolplemdlaaRefs
namespace Go.Proofs.Ytkfpmolplemdlaa.RRow
open Go Go.RowKit Go.Shelf Go.Maps Go.Sort Go.Proofs.YtkfpmolplemdlaaW.PrintWords Go.Proofs.YtkfpmolplemdlaaW.PrintLast Go.Proofs.Ytkfpmolplemdlaa.Round Go.Proofs.Ytkfpmolplemdlaa.RangeG Go.Proofs.Ytkfpmolplemdlaa.RangeH Go.Proofs.Ytkfpmolplemdlaa.Fl Go.Proofs.Ytkfpmolplemdlaa.Grow Go.Proofs.Ytkfpmolplemdlaa.Deri Go.Proofs.Ytkfpmolplemdlaa.Seqs Go.Proofs.Ytkfpmolplemdlaa.MSet Go.Proofs.Ytkfpmolplemdlaa.Ahd Go.Proofs.Ytkfpmolplemdlaa.Begin Go.Proofs.Ytkfpmolplemdlaa.Begun Go.Proofs.Ytkfpmolplemdlaa.Sorts Go.Proofs.Ytkfpmolplemdlaa.Refs
attribute [local go_sem] Oper.semAt_some
set_option linter.unusedVariables false
set_option linter.unusedSimpArgs false
abbrev TL : TypeId := 26
abbrev kL : Kd (List Int) := Kd.slice TI (Kd.int .i64)
/-- A row of rows: read at i, written at i. -/
theorem orow_at {W : World} {base g n c : Nat} {FS : List (List Int)} (h : kL.R TL W base (fun _ => True) (.slice (some ⟨g, 0, none⟩) n c) FS) (i : Nat) (hi : i < n) :
    ∃ A c', W.cell? ⟨g, i, none⟩ = some (.slice A (FS.getD i []).length c') ∧ W.frozen? ⟨g, i, none⟩ = false ∧ (FS.getD i []).length ≤ c' ∧ Kd.C (Kd.int .i64) W A (FS.getD i []).length (FS.getD i []) ∧ Kd.R (Kd.int .i64) TI W base (fun k => k ≠ g) (.slice A (FS.getD i []).length c') (FS.getD i []) := by
  obtain ⟨cs, h1, ⟨v, rfl, hv⟩, h3, h4⟩ := Kd.R_elem h ([] : List Int) (i : Int) (by omega) (by omega)
  simp only [Int.toNat_natCast] at hv h3 h4
  obtain ⟨A, c', rfl, h5, h6⟩ := Kd.R_reads hv
  have e : i * kL.sz + 0 = i := Nat.mul_one i
  refine ⟨A, c', ?_, ?_, h5, h6, Kd.R_mono hv (fun k hk => hk.2)⟩
  · have := h3 0 _ rfl
    rwa [e] at this
  · have := h4 0
    rwa [e] at this
theorem orow_put {W : World} {base g n c : Nat} {FS : List (List Int)} (h : kL.R TL W base (fun _ => True) (.slice (some ⟨g, 0, none⟩) n c) FS) (i : Nat) (hi : i < n) {v : Value} {x : List Int} (hv : Kd.R (Kd.int .i64) TI W base (fun k => k ≠ g) v x) :
    kL.R TL (W.setCell ⟨g, i, none⟩ v) base (fun _ => True) (.slice (some ⟨g, 0, none⟩) n c) (FS.set i x) ∧ W.grownBy (W.setCell ⟨g, i, none⟩ v) (some g) := by
  obtain ⟨cs, h1, ⟨v0, rfl, hv0⟩, h3, h4⟩ := Kd.R_elem h ([] : List Int) (i : Int) (by omega) (by omega)
  have e : i * kL.sz + 0 = i := Nat.mul_one i
  have hs := Kd.R_seg h (i : Int) (by omega) (by omega) (seg := [v]) (j := 0) h1 h3 (by simp [kL, Kd.slice]) (x' := x) (okp := fun k => True ∧ k ≠ g) ⟨v, rfl, Kd.R_mono hv (fun k hk => ⟨trivial, hk⟩)⟩ (fun k hk => hk)
  simp only [Int.toNat_natCast, e] at hs
  exact hs
theorem infoR : (Try.prog.info? TL).map (fun i => (i.zero, i.size, i.bytes)) = some (some (.slice none 0 0), 1, 24) := infoL
theorem make_rows (N : Nat) (hN : N ≤ 1000000) (w : World) : (Instr.makeSlice 35 (.int .i64 (N : Int)) (.int .i64 (N : Int))).run Try.prog w = .ok (.slice (some ⟨w.heap.size, 0, none⟩) N N) (w.alloc (.cells (Array.replicate N (Value.slice none 0 0)) TL)) := by
  obtain ⟨i0, hi, hz0, hz1, hz2⟩ := info_parts infoR
  have h := run_makeSlice w 35 TL i0 (.slice none 0 0) Try.underlying35 hi hz0 .i64 .i64 (N : Int) (N : Int) (by omega) (by omega) (by rw [hz1]; simp; omega) (by rw [hz2]; omega) (by omega)
  rw [h, hz1]
  simp only [Int.toNat_natCast, Nat.mul_one]
  have e : madeCells (Value.slice none 0 0).cells N = Array.replicate N (Value.slice none 0 0) := by
    apply Array.toList_inj.1
    rw [show (Value.slice none 0 0).cells = #[.slice none 0 0] from rfl, toList_madeCells_one]
    simp
  rw [e]
theorem orow_new (W : World) (N base : Nat) (hN : N ≤ 1000000) (hb : base ≤ W.heap.size) : kL.R TL (W.alloc (.cells (Array.replicate N (Value.slice none 0 0)) TL)) base (fun _ => True) (.slice (some ⟨W.heap.size, 0, none⟩) N N) (List.replicate N []) := by
  refine ⟨fun _ _ => trivial, List.replicate N (.slice none 0 0), ?_, ?_⟩
  · refine ⟨by simp [kL, Kd.slice], .inr ⟨W.heap.size, N, Array.replicate N (.slice none 0 0), by simp, hb, blk_new _ _, by simp, by simp [maxLen]; omega, by simp [kL, Kd.slice], ?_⟩⟩
    simp [kL, Kd.slice]
  · refine ⟨by simp [kL, Kd.slice], fun j p hp => ?_⟩
    rw [List.getElem?_replicate] at hp
    split at hp
    · cases hp
      rename_i hj
      refine ⟨.slice none 0 0, ?_, Kd.R_nil _ _ _ _ _⟩
      rw [show kL.sz = 1 from rfl, Nat.mul_one, List.drop_replicate]
      obtain ⟨m, hm⟩ : ∃ m, N - j = m + 1 := ⟨N - j - 1, by omega⟩
      rw [hm, List.replicate_succ]
      rfl
    · cases hp
theorem rsize_calls (A0 A1 A2 : Option Addr) (n0 n1 n2 c0 c1 c2 : Nat) (w : World) (h : n0 + n1 ≤ 1000000) : Calls Try.prog 41 #[.agg #[.slice A0 n0 c0, .slice A1 n1 c1, .slice A2 n2 c2]] w fun e w' => e = .returned (.int .i64 ((n0 + n1 : Nat) : Int)) ∧ Below w.heap.size w w' := by
  go_enter Try.func41, Try.ntmps41
  go_wp2
  go_ret
  exact ⟨by go_num, (Below.refl _ _).alloc (Nat.le_refl _) _⟩
/-- What the reference's loops keep. -/
structure RS (w : World) (g N : Nat) (ve : Value) (em : List Bool) (a0 a1 a2 : Value) (FS : List (List Int)) (W : World) : Prop where
  b : Below w.heap.size w W
  o : kL.R TL W w.heap.size (fun _ => True) (.slice (some ⟨g, 0, none⟩) N N) FS
  e : Kd.R Kd.bool TB W w.heap.size (fun k => k ≠ g) ve em
  f : W.heap[w.heap.size]? = some (.cells #[a0, a1, a2] TF (0, 0))
  gl : w.heap.size < g
  gs : g < W.heap.size
theorem RS.below {w : World} {g N : Nat} {ve : Value} {em : List Bool} {a0 a1 a2 : Value} {FS : List (List Int)} {W W' : World} (h : RS w g N ve em a0 a1 a2 FS W) (hb : Below W.heap.size W W') : RS w g N ve em a0 a1 a2 FS W' :=
  ⟨h.b.trans (hb.mono h.b.size), Kd.R_below h.o hb, Kd.R_below h.e hb, blk_below h.f hb, h.gl, by have := h.gs; have := hb.size; omega⟩
theorem RS.put {w : World} {g N : Nat} {ve : Value} {em : List Bool} {a0 a1 a2 : Value} {FS : List (List Int)} {W : World} (h : RS w g N ve em a0 a1 a2 FS W) (i : Nat) (hi : i < N) {v : Value} {x : List Int} (hv : Kd.R (Kd.int .i64) TI W w.heap.size (fun k => k ≠ g) v x) :
    RS w g N ve em a0 a1 a2 (FS.set i x) (W.setCell ⟨g, i, none⟩ v) := by
  obtain ⟨h1, h2⟩ := orow_put h.o i hi hv
  exact ⟨h.b.setCell (p := ⟨g, i, none⟩) (by show w.heap.size ≤ g; have := h.gl; omega) _, h1, Kd.R_grown h.e h2 (fun k hk e => by cases e; exact hk rfl), (Below.heap_setCell _ _ _ _ (by show w.heap.size ≠ g; have := h.gl; omega)).trans h.f, h.gl, by have := h.gs; simpa using this⟩
structure Inv (N : Nat) (FS : List (List Int)) : Prop where
  r : ∀ S ∈ FS, Rises S
  l : FS.length = N
  d : Bd FS
theorem getD_mem {FS : List (List Int)} {i : Nat} : FS.getD i [] = [] ∨ FS.getD i [] ∈ FS := by
  rw [List.getD_eq_getElem?_getD]
  cases e : FS[i]? with
  | none => exact .inl rfl
  | some S => exact .inr (List.mem_of_getElem? e)
theorem Inv.rise {N : Nat} {FS : List (List Int)} (h : Inv N FS) (i : Nat) : Rises (FS.getD i []) := by
  rcases getD_mem (FS := FS) (i := i) with e | e
  · rw [e]; exact List.Pairwise.nil
  · exact h.r _ e
theorem Inv.bnd {N : Nat} {FS : List (List Int)} (h : Inv N FS) (i : Nat) : ∀ x ∈ FS.getD i [], 0 ≤ x ∧ x < 1000000 := by
  rcases getD_mem (FS := FS) (i := i) with e | e
  · rw [e]; exact fun _ h => nomatch h
  · exact h.d _ e
theorem Inv.len {N : Nat} {FS : List (List Int)} (h : Inv N FS) (i : Nat) : (FS.getD i []).length ≤ 1000000 := by
  rcases getD_mem (FS := FS) (i := i) with e | e
  · rw [e]; simp
  · exact bd_len h.d h.r _ e
theorem Inv.set {N : Nat} {FS : List (List Int)} (h : Inv N FS) (i : Nat) {X : List Int} (h1 : Rises X) (h2 : ∀ x ∈ X, 0 ≤ x ∧ x < 1000000) : Inv N (FS.set i X) := by
  refine ⟨fun S hS => ?_, by rw [List.length_set]; exact h.l, fun S hS => ?_⟩
  · rcases List.mem_or_eq_of_mem_set hS with hS | rfl
    · exact h.r S hS
    · exact h1
  · rcases List.mem_or_eq_of_mem_set hS with hS | rfl
    · exact h.d S hS
    · exact h2
theorem Inv.union {N : Nat} {FS : List (List Int)} (h : Inv N FS) (i : Nat) {T X : List Int} (hT : Rises T) (h1 : ∀ x ∈ T, 0 ≤ x ∧ x < 1000000) (h2 : ∀ x ∈ X, 0 ≤ x ∧ x < 1000000) : Inv N (FS.set i (unionV T X)) :=
  h.set i (unionV_rises _ hT) (fun x hx => ((unionV_mem x _ _).1 hx).elim (h2 x) (h1 x))
theorem Inv.stepF {N : Nat} {em : List Bool} {FS : List (List Int)} {p : P} (h : Inv N FS) : Inv N (Begin.stepF N em FS p).1 := by
  refine ⟨fun S hS => ?_, by show (List.set _ _ _).length = _; rw [List.length_set]; exact h.l, stepF_bd h.d⟩
  rcases List.mem_or_eq_of_mem_set hS with hS | rfl
  · exact h.r S hS
  · exact unionV_rises _ (h.rise _)
theorem Inv.init {N n0 : Nat} (hN : N ≤ 1000000) : Inv N (initV N n0) := by
  refine ⟨fun S hS => ?_, initV_len _ _, initV_bd hN⟩
  obtain ⟨q, hq, e⟩ := List.mem_iff_getElem.1 hS
  have := initV_get (S := S) (by rw [List.getElem?_eq_getElem hq, e])
  subst this
  split
  · exact List.pairwise_singleton _ _
  · exact List.Pairwise.nil
/-- One production's turn as the reference goes it. -/
def refK (em : List Bool) (left : Nat) : List I → List (List Int) → List (List Int)
  | [], FS => FS
  | i :: t, FS => if at_ em i.1 = true then refK em left t (FS.set left (unionV (FS.getD left []) (FS.getD i.1.toNat []))) else FS.set left (unionV (FS.getD left []) (FS.getD i.1.toNat []))
theorem getD_set {FS : List (List Int)} {left i : Nat} {T : List Int} (hl : left < FS.length) : (FS.set left T).getD i [] = if i = left then T else FS.getD i [] := by
  rw [List.getD_eq_getElem?_getD]
  by_cases e : i = left
  · subst e
    rw [if_pos rfl, List.getElem?_set_self hl]
    rfl
  · rw [if_neg e, List.getElem?_set_ne (fun h => e h.symm), ← List.getD_eq_getElem?_getD]
theorem refK_gen {N : Nat} {em : List Bool} {left : Nat} {FS : List (List Int)} (h : Inv N FS) (hl : left < N) : ∀ (l : List I) (T : List Int), ItOk N l → Rises T → (∀ x ∈ FS.getD left [], x ∈ T) → refK em left l (FS.set left T) = FS.set left (unionV T (ahV N em FS l []))
  | [], T, _, _, _ => rfl
  | i :: t, T, ho, hT, hs => by
    have hi := ho i (by simp)
    have hg : (FS.set left T).getD left [] = T := by rw [getD_set (by rw [h.l]; exact hl), if_pos rfl]
    have hx : ∀ y, y ∈ unionV T ((FS.set left T).getD i.1.toNat []) ↔ y ∈ T ∨ y ∈ FS.getD i.1.toNat [] := fun y => by
      rw [unionV_mem, getD_set (by rw [h.l]; exact hl)]
      split
      · rename_i e
        rw [e]
        exact ⟨fun h => .inl (h.elim id id), fun h => h.elim .inl (fun h => .inl (hs y h))⟩
      · exact Or.comm
    have hsub : ∀ x ∈ FS.getD left [], x ∈ unionV T ((FS.set left T).getD i.1.toNat []) := fun x hx' => (hx x).2 (.inl (hs x hx'))
    simp only [refK, ahV]
    rw [if_pos (show 0 ≤ i.1 ∧ i.1 < (N : Int) from hi), hg, List.set_set]
    split
    · rename_i he
      rw [refK_gen h hl t _ (fun j hj => ho j (by simp [hj])) (unionV_rises _ hT) hsub]
      congr 1
      refine rises_one (unionV_rises _ (unionV_rises _ hT)) (unionV_rises _ hT) (fun y => ?_)
      rw [unionV_mem, hx, unionV_mem, unionV_mem]
      constructor
      · rintro (h | h | h)
        · exact .inl (.inr h)
        · exact .inr h
        · exact .inl (.inl h)
      · rintro ((h | h) | h)
        · exact .inr (.inr h)
        · exact .inl h
        · exact .inr (.inl h)
    · congr 1
      refine rises_one (unionV_rises _ hT) (unionV_rises _ hT) (fun y => ?_)
      rw [hx, unionV_mem]
      exact Or.comm
theorem refK_eq {N : Nat} {em : List Bool} {FS : List (List Int)} {p : P} (h : Inv N FS) (hp : PrOk N p) : refK em p.1.toNat p.2.1 FS = (Begin.stepF N em FS p).1 := by
  have hl : p.1.toNat < N := by have := hp.1; have := hp.2.1; omega
  have := refK_gen (em := em) h hl p.2.1 (FS.getD p.1.toNat []) hp.2.2 (h.rise _) (fun x hx => hx)
  have e : FS.set p.1.toNat (FS.getD p.1.toNat []) = FS := by
    rw [List.getD_eq_getElem?_getD, List.getElem?_eq_getElem (by rw [h.l]; exact hl)]
    exact List.set_getElem_self _
  rw [e] at this
  exact this
end Go.Proofs.Ytkfpmolplemdlaa.RRow
