/- sets.Follow walked: what can stand behind each symbol. Over productions whose symbols are there. -/
import Derived.Test.YtkfpmolplemdlaaAheads
namespace Go.Proofs.Ytkfpmolplemdlaa.Foll
open Go Go.RowKit Go.Shelf Go.Maps Go.Sort Go.Proofs.YtkfpmolplemdlaaW.PrintWords Go.Proofs.YtkfpmolplemdlaaW.PrintLast Go.Proofs.Ytkfpmolplemdlaa.Round Go.Proofs.Ytkfpmolplemdlaa.RangeG Go.Proofs.Ytkfpmolplemdlaa.RangeH Go.Proofs.Ytkfpmolplemdlaa.Fl Go.Proofs.Ytkfpmolplemdlaa.Grow Go.Proofs.Ytkfpmolplemdlaa.Deri Go.Proofs.Ytkfpmolplemdlaa.Seqs Go.Proofs.Ytkfpmolplemdlaa.MSet Go.Proofs.Ytkfpmolplemdlaa.Ahd Go.Proofs.Ytkfpmolplemdlaa.Begin Go.Proofs.Ytkfpmolplemdlaa.Begun Go.Proofs.Ytkfpmolplemdlaa.Srt Go.Proofs.Ytkfpmolplemdlaa.Sorts Go.Proofs.Ytkfpmolplemdlaa.Aheads
attribute [local go_sem] Oper.semAt_some
set_option linter.unusedVariables false
set_option linter.unusedSimpArgs false
/-- What can stand behind one item, with what can stand behind the whole. -/
def oneL (N : Nat) (em : List Bool) (Ss : List (List Int)) (left : Nat) (i : I) (t : List I) (s : List (List Int) × Bool) : List (List Int) × Bool :=
  (s.1.set i.1.toNat (unionV (s.1.getD i.1.toNat []) (ahV N em Ss t (s.1.getD left []))), decide ((unionV (s.1.getD i.1.toNat []) (ahV N em Ss t (s.1.getD left []))).length > (s.1.getD i.1.toNat []).length) || s.2)
def folV (N n0 : Nat) (em : List Bool) (Ss : List (List Int)) (left : Nat) : List I → List (List Int) × Bool → List (List Int) × Bool
  | [], s => s
  | i :: t, s => folV N n0 em Ss left t (if i.1 < n0 then s else oneL N em Ss left i t s)
/-- One production's turn. -/
def stepL (N n0 : Nat) (em : List Bool) (Ss : List (List Int)) (FS : List (List Int)) (p : P) : List (List Int) × Bool := folV N n0 em Ss p.1.toNat p.2.1 (FS, false)
structure Fol (f BX BF g2 cr2 : Nat) (G : Geo) (em : List Bool) (Ss : List (List Int)) (a0 a1 a2 : Value) (bs2 : List Nat) (FS : List (List Int)) (W : World) : Prop where
  fs : Fs G em Ss W
  bdS : Bd Ss
  hf : W.heap[f]? = some (.cells #[a0, a1, a2] TF (0, 0))
  hx : Boxed W BX 56 (.pointer (some ⟨G.X, 0, none⟩))
  hb : Boxed W BF 53 (.slice (some ⟨g2, 0, none⟩) G.N cr2)
  row : ∃ cs, W.heap[g2]? = some (.cells cs 62 (0, 0)) ∧ ∀ (i : Nat) b, bs2[i]? = some b → cs[i]? = some (.map (some b))
  bsl : bs2.length = G.N
  ssl : FS.length = G.N
  nod : bs2.Nodup
  dis : ∀ b ∈ bs2, b ∉ G.bs
  bd : Bd FS
  sets : ∀ (i : Nat) b S, bs2[i]? = some b → FS[i]? = some S → SetAt b S W
section
variable {f BX BF g2 cr2 : Nat} {G : Geo} {em : List Bool} {Ss : List (List Int)} {a0 a1 a2 : Value} {bs2 : List Nat} {FS : List (List Int)} {W W' : World}
theorem Fol.below (h : Fol f BX BF g2 cr2 G em Ss a0 a1 a2 bs2 FS W) (hb : Below W.heap.size W W') : Fol f BX BF g2 cr2 G em Ss a0 a1 a2 bs2 FS W' := by
  obtain ⟨cs, r1, r2⟩ := h.row
  exact ⟨h.fs.below hb, h.bdS, blk_below h.hf hb, blk_below h.hx hb, blk_below h.hb hb, ⟨cs, blk_below r1 hb, r2⟩, h.bsl, h.ssl, h.nod, h.dis, h.bd, fun i b S hi hS => (h.sets i b S hi hS).keep (hb.block b (h.sets i b S hi hS).lt)⟩
theorem Fol.at (h : Fol f BX BF g2 cr2 G em Ss a0 a1 a2 bs2 FS W) (i : Nat) (hi : i < G.N) : ∃ b S, bs2[i]? = some b ∧ FS[i]? = some S ∧ FS.getD i [] = S ∧ SetAt b S W ∧ W.cell? ⟨g2, i, none⟩ = some (.map (some b)) ∧ b ∈ bs2 ∧ S ∈ FS := by
  obtain ⟨cs, r1, r2⟩ := h.row
  have hb : bs2[i]? = some (bs2[i]'(by rw [h.bsl]; exact hi)) := List.getElem?_eq_getElem _
  have hS : FS[i]? = some (FS[i]'(by rw [h.ssl]; exact hi)) := List.getElem?_eq_getElem _
  exact ⟨_, _, hb, hS, by rw [List.getD_eq_getElem?_getD, hS]; rfl, h.sets i _ _ hb hS, (blk_cell r1 i).trans (r2 i _ hb), List.mem_of_getElem? hb, List.mem_of_getElem? hS⟩
theorem Fol.rises (h : Fol f BX BF g2 cr2 G em Ss a0 a1 a2 bs2 FS W) : ∀ S ∈ FS, Rises S := fun S hS => by
  obtain ⟨i, hi, rfl⟩ := List.mem_iff_getElem.1 hS
  obtain ⟨b, S', h1, h2, _, h3, _⟩ := h.at i (by rw [← h.ssl]; exact hi)
  rw [List.getElem?_eq_getElem hi] at h2
  cases h2
  exact h3.1
theorem Fol.step {q b : Nat} {S : List Int} (h : Fol f BX BF g2 cr2 G em Ss a0 a1 a2 bs2 FS W) (hb : bs2[q]? = some b) (hS : SetAt b S W') (hSb : ∀ x ∈ S, 0 ≤ x ∧ x < 1000000) (ht : Turn W.heap.size (fun k => k = b) W W') : Fol f BX BF g2 cr2 G em Ss a0 a1 a2 bs2 (FS.set q S) W' := by
  obtain ⟨cs, r1, r2⟩ := h.row
  have hq : q < bs2.length := (List.getElem?_eq_some_iff.1 hb).1
  obtain ⟨b', S', e1, e2, _, hA, _, hm, _⟩ := h.at q (by rw [← h.bsl]; exact hq)
  rw [hb] at e1
  cases e1
  obtain ⟨o, ho, hc, _⟩ := hA.block
  have hne : ∀ (k : Nat) (cs : Array Value) (t : TypeId) (fr : Nat × Nat), W.heap[k]? = some (.cells cs t fr) → k ≠ b := by
    rintro k cs t fr hk rfl
    rw [ho] at hk
    cases hk
    cases hc
  have kc : ∀ (k : Nat) (cs : Array Value) (t : TypeId), W.heap[k]? = some (.cells cs t (0, 0)) → W'.heap[k]? = some (.cells cs t (0, 0)) := fun k cs t hk => ht.same _ _ hk (hne _ _ _ _ hk) (.inr rfl)
  have hfs : Fs G em Ss W' := by
    obtain ⟨cs1, q1, q2⟩ := h.fs.row
    exact ⟨kc _ _ _ h.fs.blk, h.fs.nn, h.fs.few, h.fs.eml, kc _ _ _ h.fs.emb, ⟨cs1, kc _ _ _ q1, q2⟩, h.fs.bsl, h.fs.ssl, fun i b1 S1 h1 h2 => by
      have h3 := h.fs.sets i b1 S1 h1 h2
      refine h3.turn ht (fun e => ?_) h3.lt
      subst e
      exact h.dis _ hm (List.mem_of_getElem? h1)⟩
  refine ⟨hfs, h.bdS, kc _ _ _ h.hf, kc _ _ _ h.hx, kc _ _ _ h.hb, ⟨cs, kc _ _ _ r1, r2⟩, h.bsl, by rw [List.length_set]; exact h.ssl, h.nod, h.dis, ?_, fun i b1 S1 hb1 hS1 => ?_⟩
  · intro T hT x hx
    rcases List.mem_or_eq_of_mem_set hT with hT | rfl
    · exact h.bd T hT x hx
    · exact hSb x hx
  by_cases e : q = i
  · subst e
    rw [hb] at hb1
    cases hb1
    rw [List.getElem?_set_self (by rw [h.ssl, ← h.bsl]; exact hq)] at hS1
    cases hS1
    exact hS
  · rw [List.getElem?_set_ne e] at hS1
    have h1 := h.sets i b1 S1 hb1 hS1
    refine h1.turn ht (fun e' => ?_) h1.lt
    subst e'
    obtain ⟨l1, l2⟩ := List.getElem?_eq_some_iff.1 hb
    obtain ⟨l3, l4⟩ := List.getElem?_eq_some_iff.1 hb1
    exact e ((List.getElem_inj h.nod).1 (l2.trans l4.symm))
end
set_option maxRecDepth 100000 in
set_option maxHeartbeats 4000000 in
theorem folch_calls (f BX BF g2 cr2 : Nat) (G : Geo) (em : List Bool) (Ss : List (List Int)) (A0 A1 A2 : Option Addr) (n0 n1 n2 c0 c1 c2 : Nat) (bs2 : List Nat) (FS : List (List Int)) (u W : World) (p : P) (A : Option Addr) (c : Nat)
    (hF : Fol f BX BF g2 cr2 G em Ss (.slice A0 n0 c0) (.slice A1 n1 c1) (.slice A2 n2 c2) bs2 FS W) (hok : PrOk G.N p) (hc : p.2.1.length ≤ c) (hp : p.2.1.length ≤ 1000) (hC : Kd.C kI u A p.2.1.length p.2.1) (hu : Below u.heap.size u W) (hub : ∀ b ∈ bs2, u.heap.size ≤ b) (hn0 : n0 ≤ 1000000) :
    Calls Try.prog 35 #[.agg #[.int .i64 p.1, .slice A p.2.1.length c, .int .i64 p.2.2], .pointer (some ⟨f, 0, none⟩), .pointer (some ⟨BX, 0, none⟩), .pointer (some ⟨BF, 0, none⟩)] W fun e W' => e = .returned (.bool (stepL G.N n0 em Ss FS p).2) ∧ Fol f BX BF g2 cr2 G em Ss (.slice A0 n0 c0) (.slice A1 n1 c1) (.slice A2 n2 c2) bs2 (stepL G.N n0 em Ss FS p).1 W' ∧ Turn W.heap.size (· ∈ bs2) W W' := by
  obtain ⟨W0, hW0⟩ : ∃ W0, W.alloc (.cells #[.int .i64 p.1, .slice A p.2.1.length c, .int .i64 p.2.2] TP) = W0 := ⟨_, rfl⟩
  have hB0 : Below W.heap.size W W0 := by rw [← hW0]; exact (Below.refl _ _).alloc (Nat.le_refl _) _
  have sz0 : W0.heap.size = W.heap.size + 1 := by rw [← hW0]; simp
  have hF0 := hF.below hB0
  have t0 : Turn W.heap.size (· ∈ bs2) W W0 := Turn.below hB0
  have q0 := hok.1
  have q1 := hok.2.1
  have q2 := hok.2.2
  have hpb : W0.heap[W.heap.size]? = some (.cells #[.int .i64 p.1, .slice A p.2.1.length c, .int .i64 p.2.2] TP (0, 0)) := by rw [← hW0]; exact blk_new W _
  have d1 : W0.cell? ⟨W.heap.size, 1, none⟩ = some (.slice A p.2.1.length c) := blk_cell hpb 1
  have t1 : p.2.1.length ≤ 9223372036854775807 := hC.2.1
  have PB := Lib.hid hpb
  clear hpb
  go_enter Try.func35, Try.ntmps35
  go_wp2
  go_loopw [13, 6] (fun i ch wr => ∃ (j : Nat) (FS' : List (List Int)) (cb : Bool), i = .int .i64 (j : Int) ∧ ch = .bool cb ∧ j ≤ p.2.1.length ∧ Hid (folV G.N n0 em Ss p.1.toNat (p.2.1.drop j) (FS', cb) = stepL G.N n0 em Ss FS p) ∧ Fol f BX BF g2 cr2 G em Ss (.slice A0 n0 c0) (.slice A1 n1 c1) (.slice A2 n2 c2) bs2 FS' wr ∧ Hid (wr.heap[W.heap.size]? = some (.cells #[.int .i64 p.1, .slice A p.2.1.length c, .int .i64 p.2.2] TP (0, 0))) ∧ Turn W.heap.size (· ∈ bs2) W wr) (fun i _ _ => p.2.1.length - (Go.RowKit.intOf i).toNat)
  case atStart => exact ⟨0, FS, false, rfl, rfl, Nat.zero_le _, Lib.hid rfl, hF0, PB, t0⟩
  case round =>
    obtain ⟨j, FS', cb, rfl, rfl, hj, hM, hL, hPb, ht⟩ := hrel
    have hbu : Below u.heap.size u wr := below_turn hu ht (Nat.le_refl _) hu.size hub
    by_cases hlt : j < p.2.1.length
    · obtain ⟨ad, x, rfl, hx, f0, f1, f2⟩ := atI (Kd.C_below hC hbu) j hlt
      have hL' := hL
      obtain ⟨Wi, hWi⟩ : ∃ Wi, wr.alloc (Obj.cells #[.int .i64 x.1, .string x.2.1, .string x.2.2] TIt) = Wi := ⟨_, rfl⟩
      have bi : Wi.heap[wr.heap.size]? = some (.cells #[.int .i64 x.1, .string x.2.1, .string x.2.2] TIt (0, 0)) := by rw [← hWi]; exact blk_new wr _
      have hBi : Below wr.heap.size wr Wi := by rw [← hWi]; exact (Below.refl _ _).alloc (Nat.le_refl _) _
      have hLi := hL.below hBi
      have i0 : Wi.cell? ⟨wr.heap.size, 0, none⟩ = some (.int .i64 x.1) := blk_cell bi 0
      have ci : Wi.cell? ⟨f, 0, none⟩ = some (.slice A0 n0 c0) := blk_cell hLi.hf 0
      have hti : Turn W.heap.size (· ∈ bs2) W Wi := ht.trans (Turn.below hBi)
      have hpi : Wi.heap[W.heap.size]? = some (.cells #[.int .i64 p.1, .slice (some ad) p.2.1.length c, .int .i64 p.2.2] TP (0, 0)) := blk_below hPb.out hBi
      have hM' : p.2.1.drop j = x :: p.2.1.drop (j + 1) := by
        rw [List.drop_eq_getElem_cons hlt]
        congr 1
        exact (List.getElem?_eq_some_iff.1 hx).2
      have hxr : 0 ≤ x.1 ∧ x.1 < G.N := q2 x (List.mem_of_getElem? hx)
      rw [hM'] at hM
      have HPi := Lib.hid hpi
      have BI := Lib.hid bi
      clear hpi bi hM' hx hPb
      by_cases hr : x.1 < n0
      · go_wp2
        go_roundw
        case rel => exact ⟨j + 1, FS', cb, by go_num, rfl, by omega, Lib.hid (by have := hM.out; simp only [folV, if_pos hr] at this; exact this), hLi, HPi, hti⟩
        case measure => simp [Go.RowKit.intOf]; omega
      · go_wp2
        rename_i K6 hK6
        have hw1 : IntKind.i64.wrap ((j : Int) + 1) = (j : Int) + 1 := by rw [IntKind.wrap_i64]; omega
        have hw2 : (0 : Int) ≤ (j : Int) + 1 := by omega
        have hw3 : (j : Int) + 1 ≤ (p.2.1.length : Int) := by omega
        obtain ⟨bl, Sl, l1, l2, l3, l4, l5, l6, l7⟩ := hLi.at p.1.toNat (by omega)
        have hHeld : Wi.drew.cell? ⟨BX, 0, none⟩ = some (.pointer (some ⟨G.X, 0, none⟩)) ∧ Wi.drew.cell? ⟨W.heap.size, 1, none⟩ = some (.slice (some ad) p.2.1.length c) ∧ Wi.drew.cell? ⟨BF, 0, none⟩ = some (.slice (some ⟨g2, 0, none⟩) G.N cr2) ∧ Wi.drew.cell? ⟨W.heap.size, 0, none⟩ = some (.int .i64 p.1) ∧ Wi.drew.cell? ⟨g2, p.1.toNat, none⟩ = some (.map (some bl)) :=
          ⟨hLi.hx.cell, blk_cell HPi.out 1, hLi.hb.cell, blk_cell HPi.out 0, l5⟩
        have keep6 : ∀ X Y : World, Below X.heap.size X Y → (fun X => X.cell? ⟨BX, 0, none⟩ = some (.pointer (some ⟨G.X, 0, none⟩)) ∧ X.cell? ⟨W.heap.size, 1, none⟩ = some (.slice (some ad) p.2.1.length c) ∧ X.cell? ⟨BF, 0, none⟩ = some (.slice (some ⟨g2, 0, none⟩) G.N cr2) ∧ X.cell? ⟨W.heap.size, 0, none⟩ = some (.int .i64 p.1) ∧ X.cell? ⟨g2, p.1.toNat, none⟩ = some (.map (some bl))) X → (fun X => X.cell? ⟨BX, 0, none⟩ = some (.pointer (some ⟨G.X, 0, none⟩)) ∧ X.cell? ⟨W.heap.size, 1, none⟩ = some (.slice (some ad) p.2.1.length c) ∧ X.cell? ⟨BF, 0, none⟩ = some (.slice (some ⟨g2, 0, none⟩) G.N cr2) ∧ X.cell? ⟨W.heap.size, 0, none⟩ = some (.int .i64 p.1) ∧ X.cell? ⟨g2, p.1.toNat, none⟩ = some (.map (some bl))) Y := fun X Y h hh => ⟨pw_cell_below h hh.1, pw_cell_below h hh.2.1, pw_cell_below h hh.2.2.1, pw_cell_below h hh.2.2.2.1, pw_cell_below h hh.2.2.2.2⟩
        refine wp_qz (start_ (S := fun X => X.cell? ⟨BX, 0, none⟩ = some (.pointer (some ⟨G.X, 0, none⟩)) ∧ X.cell? ⟨W.heap.size, 1, none⟩ = some (.slice (some ad) p.2.1.length c) ∧ X.cell? ⟨BF, 0, none⟩ = some (.slice (some ⟨g2, 0, none⟩) G.N cr2) ∧ X.cell? ⟨W.heap.size, 0, none⟩ = some (.int .i64 p.1) ∧ X.cell? ⟨g2, p.1.toNat, none⟩ = some (.map (some bl))) (ds := []) #[false, false, false, false, false, false, false, false, false, false, false, false, false, false, false] (by kernel_rfl) rfl rfl hHeld (fun h0_ => ?_))
        clear h0_
        refine take_ (i := 0) (N := some 24) (v := ?_) (a' := ?_) #[true, false, false, false, false, false, false, false, false, false, false, false, false, false, false] rfl rfl (by kernel_rfl) (fun _ _ _ h => h) (Or.inl ⟨by rfl, ?_⟩) hHeld ?_ ?_
        rotate_left
        · rintro w' ⟨s0, s1, s2, s3, s4⟩
          go_simp
          with_reducible rfl
        rotate_left
        · simp only [Act.put, List.setIfInBounds_toArray, List.set_cons_zero, List.set_cons_succ]
          rfl
        refine pure_ (i := 1) (N := some 25) (v := ?_) (a' := ?_) #[true, true, false, false, false, false, false, false, false, false, false, false, false, false, false] rfl rfl (by kernel_rfl) (fun _ _ _ h => h) (Or.inl ⟨by rfl, ?_⟩) ?_ ?_
        rotate_left
        · intro w'
          go_simp
          with_reducible rfl
        rotate_left
        · simp only [Act.put, List.setIfInBounds_toArray, List.set_cons_zero, List.set_cons_succ]
          rfl
        refine take_ (i := 2) (N := some 26) (v := ?_) (a' := ?_) #[true, true, true, false, false, false, false, false, false, false, false, false, false, false, false] rfl rfl (by kernel_rfl) (fun _ _ _ h => h) (Or.inl ⟨by rfl, ?_⟩) hHeld ?_ ?_
        rotate_left
        · rintro w' ⟨s0, s1, s2, s3, s4⟩
          go_simp
          with_reducible rfl
        rotate_left
        · simp only [Act.put, List.setIfInBounds_toArray, List.set_cons_zero, List.set_cons_succ]
          rfl
        refine pure_ (i := 3) (N := some 27) (v := ?_) (a' := ?_) #[true, true, true, true, false, false, false, false, false, false, false, false, false, false, false] rfl rfl (by kernel_rfl) (fun _ _ _ h => h) (Or.inl ⟨by rfl, ?_⟩) ?_ ?_
        rotate_left
        · intro w'
          go_simp
          with_reducible rfl
        rotate_left
        · simp only [Act.put, List.setIfInBounds_toArray, List.set_cons_zero, List.set_cons_succ]
          rfl
        refine pure_ (i := 4) (N := some 28) (v := ?_) (a' := ?_) #[true, true, true, true, true, false, false, false, false, false, false, false, false, false, false] rfl rfl (by kernel_rfl) (fun _ _ _ h => h) (Or.inl ⟨by rfl, ?_⟩) ?_ ?_
        rotate_left
        · intro w'
          go_simp
          with_reducible rfl
        rotate_left
        · simp only [Act.put, List.setIfInBounds_toArray, List.set_cons_zero, List.set_cons_succ]
          rfl
        refine pure_ (i := 5) (N := some 29) (v := ?_) (a' := ?_) #[true, true, true, true, true, true, false, false, false, false, false, false, false, false, false] rfl rfl (by kernel_rfl) (fun _ _ _ h => h) (Or.inl ⟨by rfl, ?_⟩) ?_ ?_
        rotate_left
        · intro w'
          go_simp
          with_reducible rfl
        rotate_left
        · simp only [Act.put, List.setIfInBounds_toArray, List.set_cons_zero, List.set_cons_succ]
          rfl
        refine take_ (i := 6) (N := some 30) (v := ?_) (a' := ?_) #[true, true, true, true, true, true, true, false, false, false, false, false, false, false, false] rfl rfl (by kernel_rfl) (fun _ _ _ h => h) (Or.inl ⟨by rfl, ?_⟩) hHeld ?_ ?_
        rotate_left
        · rintro w' ⟨s0, s1, s2, s3, s4⟩
          go_simp
          with_reducible rfl
        rotate_left
        · simp only [Act.put, List.setIfInBounds_toArray, List.set_cons_zero, List.set_cons_succ]
          rfl
        refine pure_ (i := 7) (N := some 31) (v := ?_) (a' := ?_) #[true, true, true, true, true, true, true, true, false, false, false, false, false, false, false] rfl rfl (by kernel_rfl) (fun _ _ _ h => h) (Or.inl ⟨by rfl, ?_⟩) ?_ ?_
        rotate_left
        · intro w'
          go_simp
          with_reducible rfl
        rotate_left
        · simp only [Act.put, List.setIfInBounds_toArray, List.set_cons_zero, List.set_cons_succ]
          rfl
        refine take_ (i := 8) (N := some 32) (v := ?_) (a' := ?_) #[true, true, true, true, true, true, true, true, true, false, false, false, false, false, false] rfl rfl (by kernel_rfl) (fun _ _ _ h => h) (Or.inl ⟨by rfl, ?_⟩) hHeld ?_ ?_
        rotate_left
        · rintro w' ⟨s0, s1, s2, s3, s4⟩
          go_simp
          with_reducible rfl
        rotate_left
        · simp only [Act.put, List.setIfInBounds_toArray, List.set_cons_zero, List.set_cons_succ]
          rfl
        refine pure_ (i := 9) (N := some 33) (v := ?_) (a' := ?_) #[true, true, true, true, true, true, true, true, true, true, false, false, false, false, false] rfl rfl (by kernel_rfl) (fun _ _ _ h => h) (Or.inl ⟨by rfl, ?_⟩) ?_ ?_
        rotate_left
        · intro w'
          go_simp
          with_reducible rfl
        rotate_left
        · simp only [Act.put, List.setIfInBounds_toArray, List.set_cons_zero, List.set_cons_succ]
          rfl
        refine take_ (i := 10) (N := some 34) (v := ?_) (a' := ?_) #[true, true, true, true, true, true, true, true, true, true, true, false, false, false, false] rfl rfl (by kernel_rfl) (fun _ _ _ h => h) (Or.inl ⟨by rfl, ?_⟩) hHeld ?_ ?_
        rotate_left
        · rintro w' ⟨s0, s1, s2, s3, s4⟩
          go_simp
          with_reducible rfl
        rotate_left
        · simp only [Act.put, List.setIfInBounds_toArray, List.set_cons_zero, List.set_cons_succ]
          rfl
        have hdl : (p.2.1.drop (j + 1)).length = p.2.1.length - (j + 1) := List.length_drop
        obtain ⟨Ad, hAd⟩ : ∃ Ad : Option Addr, (if c = j + 1 then some ad else some (ad.add ((j + 1) * 3))) = Ad := ⟨_, rfl⟩
        have hCd : Kd.C kI u Ad (p.2.1.drop (j + 1)).length (p.2.1.drop (j + 1)) := by rw [← hAd]; exact Kd.C_drop hC (by omega) hc
        rw [hAd]
        obtain ⟨Wd, hWd⟩ : ∃ Wd, Wi.drew = Wd := ⟨_, rfl⟩
        have hLd : Fol f BX BF g2 cr2 G em Ss (.slice A0 n0 c0) (.slice A1 n1 c1) (.slice A2 n2 c2) bs2 FS' Wd := by rw [← hWd]; exact hLi.below (below_drew (Below.refl _ _))
        have htd : Turn W.heap.size (· ∈ bs2) W Wd := by rw [← hWd]; exact hti.trans Turn.drew
        have l4d : SetAt bl Sl Wd := by rw [← hWd]; exact l4.keep rfl
        have szd : Wd.heap.size = wr.heap.size + 1 := by rw [← hWd, ← hWi]; show (wr.alloc _).heap.size = _; simp
        have bid : Wd.heap[wr.heap.size]? = some (.cells #[.int .i64 x.1, .string x.2.1, .string x.2.2] TIt (0, 0)) := by rw [← hWd]; exact BI.out
        have hpd : Wd.heap[W.heap.size]? = some (.cells #[.int .i64 p.1, .slice (some ad) p.2.1.length c, .int .i64 p.2.2] TP (0, 0)) := by rw [← hWd]; exact HPi.out
        have hud : Below u.heap.size u Wd := below_turn hu htd (Nat.le_refl _) hu.size hub
        rw [hWd] at hHeld
        rw [hWd]
        clear hWd hLi hti l4 hAd
        refine one_ (i := 11) (N := some 35) #[true, true, true, true, true, true, true, true, true, true, true, true, false, false, false] rfl rfl (by kernel_rfl) (by decide) (fun K hK => ?_)
        refine goes_ Try.func38 (by kernel_rfl) rfl #[.map (some bl)] (by rfl) rfl rfl (by first | rfl | (simp [Act.eval]; done) | (simp [go_sem]; done)) ?_
        refine (keys_calls (some bl) _).mono ?_
        rintro e X1 ⟨rfl, hX1⟩
        refine ⟨_, rfl, ?_⟩
        have hB1 : Below Wd.heap.size Wd X1 := by rw [← hX1]; exact (Below.refl _ _).alloc (Nat.le_refl _) _
        have hh1 := keep6 _ _ hB1 hHeld
        refine hK.out _ _ hh1 (fun h0_ => ?_)
        clear hK K h0_
        refine one_ (i := 12) (N := some 36) #[true, true, true, true, true, true, true, true, true, true, true, true, true, false, false] rfl rfl (by kernel_rfl) (by decide) (fun K hK => ?_)
        refine goes_ Try.func37 (by kernel_rfl) rfl #[.pointer (some ⟨G.X, 0, none⟩), .slice Ad (p.2.1.length - (j + 1)) (c - (j + 1)), .func (.func 56) #[] #[.pointer (some ⟨Wd.heap.size, 0, none⟩)]] (by rfl) rfl rfl (by first | rfl | (simp [Act.eval]; done) | (simp [go_sem]; done)) ?_
        refine (ahead_calls G.X Ad (p.2.1.length - (j + 1)) (c - (j + 1)) 56 _ X1).mono ?_
        rintro e X2 ⟨rfl, hX2⟩
        refine ⟨_, rfl, ?_⟩
        have hB2 : Below X1.heap.size X1 X2 := by rw [← hX2]; exact (((Below.refl _ _).alloc (Nat.le_refl _) _).alloc (by simp) _).alloc (by simp; omega) _
        have hh2 := keep6 _ _ hB2 hh1
        refine hK.out _ _ hh2 (fun h0_ => ?_)
        clear hK K h0_
        have hBd2 := hB1.trans (hB2.mono hB1.size)
        have e1 : Boxed X2 (X1.heap.size + 1) 38 (.slice Ad (p.2.1.drop (j + 1)).length (c - (j + 1))) := by
          rw [← hX2, hdl]
          have := (Boxed.new (X1.alloc (.cells #[.pointer (some ⟨G.X, 0, none⟩)] 56)) 38 (.slice Ad (p.2.1.length - (j + 1)) (c - (j + 1)))).alloc (.cells #[.func (.func 56) #[] #[.pointer (some ⟨Wd.heap.size, 0, none⟩)]] 66)
          simpa using this
        have e2 : Boxed X2 X1.heap.size 56 (.pointer (some ⟨G.X, 0, none⟩)) := by rw [← hX2]; exact ((Boxed.new _ _ _).alloc _).alloc _
        have e3 : Boxed X2 (X1.heap.size + 1 + 1) 66 (.func (.func 56) #[] #[.pointer (some ⟨Wd.heap.size, 0, none⟩)]) := by
          rw [← hX2]
          have := Boxed.new ((X1.alloc (.cells #[.pointer (some ⟨G.X, 0, none⟩)] 56)).alloc (.cells #[.slice Ad (p.2.1.length - (j + 1)) (c - (j + 1))] 38)) 66 (.func (.func 56) #[] #[.pointer (some ⟨Wd.heap.size, 0, none⟩)])
          simpa using this
        have hkb : X2.heap[Wd.heap.size]? = some (.cells #[.map (some bl)] 62 (0, 0)) := blk_below (by rw [← hX1]; exact blk_new _ _) hB2
        have hSl2 : SetAt bl Sl X2 := l4d.keep (hBd2.block bl l4d.lt)
        have hSll : Sl.length ≤ 1000000 := bd_len hLd.bd hLd.rises Sl l7
        have hseq : SeqH 1 Try.prog 56 #[.pointer (some ⟨Wd.heap.size, 0, none⟩)] encX (KeepH X2.heap.size) (fun ys => ∀ x, x ∈ vals ys ↔ x ∈ Sl) (fun _ => True) Sl.length X2 :=
          SeqH.of (keys_stops 1 Wd.heap.size bl (by omega) Sl X2.heap.size [] X2 (by have := l4d.lt; have := hBd2.size; omega) hSl2 hkb) (fun l A B h => h.1) (fun ys h => h.2) (fun _ _ => trivial)
        have hud2 := hud.trans (hBd2.mono hud.size)
        have hah := ahead_stops G em Ss X2 u Ad (c - (j + 1)) (p.2.1.drop (j + 1)) (X1.heap.size + 1) X1.heap.size (X1.heap.size + 1 + 1) 56 #[.pointer (some ⟨Wd.heap.size, 0, none⟩)] (enters_of Try.func56 (by kernel_rfl) rfl) (hLd.fs.below hBd2) (bd_len hLd.bdS (fs_rises hLd.fs)) hCd hud2 e1 e2 e3 (· ∈ Sl) (fun _ => True) Sl.length hseq
        refine one_ (i := 13) (N := some 37) #[true, true, true, true, true, true, true, true, true, true, true, true, true, true, false] rfl rfl (by kernel_rfl) (by decide) (fun K hK => ?_)
        refine goes_ Try.func36 (by kernel_rfl) rfl #[.func (.func 54) #[] #[.pointer (some ⟨X1.heap.size + 1, 0, none⟩), .pointer (some ⟨X1.heap.size, 0, none⟩), .pointer (some ⟨X1.heap.size + 1 + 1, 0, none⟩)]] (by rfl) rfl rfl (by first | rfl | (simp [Act.eval]; done) | (simp [go_sem]; done)) ?_
        refine (collect_calls 54 _ (enters_of Try.func54 (by kernel_rfl) rfl) X2 _ _ _ (by rw [hdl]; omega) hah).mono ?_
        rintro e X3 ⟨v3, xs, rfl, hxs, hxl, ho3, hB3⟩
        refine ⟨_, rfl, ?_⟩
        have hh3 := keep6 _ _ hB3 hh2
        refine hK.out _ _ hh3 (fun h0_ => ?_)
        clear hK K h0_
        refine pure_ (i := 14) (N := some 9) (v := ?_) (a' := ?_) #[true, true, true, true, true, true, true, true, true, true, true, true, true, true, true] rfl rfl (by kernel_rfl) (fun _ _ _ h => h) (Or.inl ⟨by rfl, ?_⟩) ?_ ?_
        rotate_left
        · intro w'
          go_simp
          with_reducible rfl
        rotate_left
        · simp only [Act.put, List.setIfInBounds_toArray, List.set_cons_zero, List.set_cons_succ]
          rfl
        refine done_ (by kernel_rfl) ?_
        refine hK6 _ _ ?_
        clear hK6 keep6 hHeld hh1 hh2 hh3 hah hseq e1 e2 e3 hkb hX1 hX2 i0 ci
        go_wp2
        rename_i K7 hK7
        have hBd3 := hBd2.trans (hB3.mono hBd2.size)
        have hL3 := hLd.below hBd3
        obtain ⟨bx, Sx, m1, m2, m3, m4, m5, m6, m7⟩ := hL3.at x.1.toNat (by omega)
        obtain ⟨A3, c3, rfl⟩ : ∃ A c, v3 = .slice A xs.length c := by
          obtain ⟨A, c, h, _⟩ := own_g ho3
          exact ⟨A, c, h⟩
        have hHeld : X3.drew.cell? ⟨BF, 0, none⟩ = some (.slice (some ⟨g2, 0, none⟩) G.N cr2) ∧ X3.drew.cell? ⟨wr.heap.size, 0, none⟩ = some (.int .i64 x.1) ∧ X3.drew.cell? ⟨g2, x.1.toNat, none⟩ = some (.map (some bx)) :=
          ⟨hL3.hb.cell, blk_cell (blk_below bid hBd3) 0, m5⟩
        have keep7 : ∀ X Y : World, Below X.heap.size X Y → (fun X => X.cell? ⟨BF, 0, none⟩ = some (.slice (some ⟨g2, 0, none⟩) G.N cr2) ∧ X.cell? ⟨wr.heap.size, 0, none⟩ = some (.int .i64 x.1) ∧ X.cell? ⟨g2, x.1.toNat, none⟩ = some (.map (some bx))) X → (fun X => X.cell? ⟨BF, 0, none⟩ = some (.slice (some ⟨g2, 0, none⟩) G.N cr2) ∧ X.cell? ⟨wr.heap.size, 0, none⟩ = some (.int .i64 x.1) ∧ X.cell? ⟨g2, x.1.toNat, none⟩ = some (.map (some bx))) Y := fun X Y h hh => ⟨pw_cell_below h hh.1, pw_cell_below h hh.2.1, pw_cell_below h hh.2.2⟩
        refine wp_qz (start_ (S := fun X => X.cell? ⟨BF, 0, none⟩ = some (.slice (some ⟨g2, 0, none⟩) G.N cr2) ∧ X.cell? ⟨wr.heap.size, 0, none⟩ = some (.int .i64 x.1) ∧ X.cell? ⟨g2, x.1.toNat, none⟩ = some (.map (some bx))) (ds := [7]) #[false, false, false, false, false, false, false, false, false, false, false, false] (by kernel_rfl) rfl rfl hHeld (fun h0_ => ?_))
        clear h0_
        refine take_ (i := 0) (N := some 38) (v := ?_) (a' := ?_) #[true, false, false, false, false, false, false, false, false, false, false, false] rfl rfl (by kernel_rfl) (fun _ _ _ h => h) (Or.inl ⟨by rfl, ?_⟩) hHeld ?_ ?_
        rotate_left
        · rintro w' ⟨s0, s1, s2⟩
          go_simp
          with_reducible rfl
        rotate_left
        · simp only [Act.put, List.setIfInBounds_toArray, List.set_cons_zero, List.set_cons_succ]
          rfl
        refine pure_ (i := 1) (N := some 39) (v := ?_) (a' := ?_) #[true, true, false, false, false, false, false, false, false, false, false, false] rfl rfl (by kernel_rfl) (fun _ _ _ h => h) (Or.inl ⟨by rfl, ?_⟩) ?_ ?_
        rotate_left
        · intro w'
          go_simp
          with_reducible rfl
        rotate_left
        · simp only [Act.put, List.setIfInBounds_toArray, List.set_cons_zero, List.set_cons_succ]
          rfl
        refine take_ (i := 2) (N := some 40) (v := ?_) (a' := ?_) #[true, true, true, false, false, false, false, false, false, false, false, false] rfl rfl (by kernel_rfl) (fun _ _ _ h => h) (Or.inl ⟨by rfl, ?_⟩) hHeld ?_ ?_
        rotate_left
        · rintro w' ⟨s0, s1, s2⟩
          go_simp
          with_reducible rfl
        rotate_left
        · simp only [Act.put, List.setIfInBounds_toArray, List.set_cons_zero, List.set_cons_succ]
          rfl
        refine pure_ (i := 3) (N := some 41) (v := ?_) (a' := ?_) #[true, true, true, true, false, false, false, false, false, false, false, false] rfl rfl (by kernel_rfl) (fun _ _ _ h => h) (Or.inl ⟨by rfl, ?_⟩) ?_ ?_
        rotate_left
        · intro w'
          go_simp
          with_reducible rfl
        rotate_left
        · simp only [Act.put, List.setIfInBounds_toArray, List.set_cons_zero, List.set_cons_succ]
          rfl
        refine take_ (i := 4) (N := some 42) (v := ?_) (a' := ?_) #[true, true, true, true, true, false, false, false, false, false, false, false] rfl rfl (by kernel_rfl) (fun _ _ _ h => h) (Or.inl ⟨by rfl, ?_⟩) hHeld ?_ ?_
        rotate_left
        · rintro w' ⟨s0, s1, s2⟩
          go_simp
          with_reducible rfl
        rotate_left
        · simp only [Act.put, List.setIfInBounds_toArray, List.set_cons_zero, List.set_cons_succ]
          rfl
        refine pure_ (i := 5) (N := some 43) (v := ?_) (a' := ?_) #[true, true, true, true, true, true, false, false, false, false, false, false] rfl rfl (by kernel_rfl) (fun _ _ _ h => h) (Or.inl ⟨by rfl, ?_⟩) ?_ ?_
        rotate_left
        · intro w'
          go_simp
          with_reducible rfl
        rotate_left
        · simp only [Act.put, List.setIfInBounds_toArray, List.set_cons_zero, List.set_cons_succ]
          rfl
        obtain ⟨Y0, hY0⟩ : ∃ Y0, X3.drew = Y0 := ⟨_, rfl⟩
        have hoY : Y0.ownsRow X2.heap.size TI 1 (.slice A3 xs.length c3) xs.length (ints xs) := by rw [← hY0]; exact ho3
        have hmY : SetAt bx Sx Y0 := by rw [← hY0]; exact m4.keep rfl
        have hLY : Fol f BX BF g2 cr2 G em Ss (.slice A0 n0 c0) (.slice A1 n1 c1) (.slice A2 n2 c2) bs2 FS' Y0 := by rw [← hY0]; exact hL3.below (below_drew (Below.refl _ _))
        have htY : Turn W.heap.size (· ∈ bs2) W Y0 := by rw [← hY0]; exact (htd.trans (Turn.below hBd3)).trans Turn.drew
        have hpY : Y0.heap[W.heap.size]? = some (.cells #[.int .i64 p.1, .slice (some ad) p.2.1.length c, .int .i64 p.2.2] TP (0, 0)) := by rw [← hY0]; exact blk_drew (blk_below hpd hBd3)
        have szY : X2.heap.size ≤ Y0.heap.size := by rw [← hY0]; exact hB3.size
        rw [hY0] at hHeld
        rw [hY0]
        have hxb : bx < X2.heap.size := by
          obtain ⟨b', S', q1, _, _, q4, _⟩ := hLd.at x.1.toNat (by omega)
          rw [m1] at q1
          cases q1
          have := q4.lt
          have := hBd2.size
          omega
        clear hY0 hBd3 hL3 hBd2 hB1 hB2 hB3 hLd htd hud hud2 ho3 m4 m5 bid hpd
        refine one_ (i := 6) (N := some 44) #[true, true, true, true, true, true, true, false, false, false, false, false] rfl rfl (by kernel_rfl) (by decide) (fun K hK => ?_)
        refine goes_ Try.func40 (by kernel_rfl) rfl #[.slice A3 xs.length c3] (by rfl) rfl rfl (by first | rfl | (simp [Act.eval]; done) | (simp [go_sem]; done)) ?_
        have hvb : Below u.heap.size u Y0 := below_turn hu htY (Nat.le_refl _) hu.size hub
        obtain ⟨A3', c3', hv3, hadd⟩ := addrow_calls Y0 u _ xs.length X2.heap.size xs bx Sx hmY hoY hxb (hub bx m6) hvb (by have := bd_len hLY.bd hLY.rises Sx m7; rw [hdl] at hxl; omega)
        cases hv3
        refine (ivals_calls A3 xs.length c3 Y0).mono ?_
        rintro e Y1 ⟨rfl, hY1⟩
        refine ⟨_, rfl, ?_⟩
        have hBY : Below Y0.heap.size Y0 Y1 := by rw [← hY1]; exact (Below.refl _ _).alloc (Nat.le_refl _) _
        have hh4 := keep7 _ _ hBY hHeld
        refine hK.out _ _ hh4 (fun h0_ => ?_)
        clear hK K h0_
        rw [hY1] at hadd
        refine last_ (i := 7) (N := some 45) #[true, true, true, true, true, true, true, true, false, false, false, false] rfl rfl (by kernel_rfl) (by decide) (fun K hK => ?_)
        refine goes_ Try.func39 (by kernel_rfl) rfl #[.map (some bx), .func (.func 57) #[] #[.pointer (some ⟨Y0.heap.size, 0, none⟩)]] (by rfl) rfl rfl (by first | rfl | (simp [Act.eval]; done) | (simp [go_sem]; done)) ?_
        refine hadd.mono ?_
        rintro e Y2 ⟨rfl, hA2, ht2⟩
        refine ⟨_, rfl, ?_⟩
        refine hK.out _ _ ?_
        clear hK K
        have hun : unionV Sx (vals xs) = unionV (FS'.getD x.1.toNat []) (ahV G.N em Ss (p.2.1.drop (j + 1)) (FS'.getD p.1.toNat [])) := by
          rw [m3, l3]
          have hrx := hLY.rises Sx m7
          refine rises_one (unionV_rises _ hrx) (unionV_rises _ hrx) (fun y => ?_)
          rw [unionV_mem, unionV_mem, ahV_mem, hxs y]
        have hSb : ∀ y ∈ unionV Sx (vals xs), 0 ≤ y ∧ y < 1000000 := fun y hy => by
          rw [hun] at hy
          rcases (unionV_mem y _ _).1 hy with hy | hy
          · rcases ahV_sub _ _ _ _ y _ hy with hy | ⟨S, hS, hy⟩
            · rw [l3] at hy
              exact hLY.bd Sl l7 y hy
            · exact hLY.bdS S hS y hy
          · rw [m3] at hy
            exact hLY.bd Sx m7 y hy
        have hL2 := hLY.step m1 hA2 hSb ht2
        have htY2 : Turn W.heap.size (· ∈ bs2) W Y2 := htY.trans (ht2.mono htY.size (fun k hk => hk ▸ m6))
        have hp2 : Y2.heap[W.heap.size]? = some (.cells #[.int .i64 p.1, .slice (some ad) p.2.1.length c, .int .i64 p.2.2] TP (0, 0)) := ht2.same _ _ hpY (fun e => by
          obtain ⟨o, ho, hc, _⟩ := hmY.block
          rw [← e, hpY] at ho
          cases ho
          cases hc) (.inr rfl)
        obtain ⟨gb, hgb⟩ : ∃ gb, decide ((unionV Sx (vals xs)).length > Sx.length) = gb := ⟨_, rfl⟩
        rw [hgb]
        cases gb
        · skip
          refine pure_ (i := 8) (N := some 46) (v := ?_) (a' := ?_) #[true, true, true, true, true, true, true, true, true, false, false, false] rfl rfl (by kernel_rfl) (fun _ _ _ h => h) (Or.inl ⟨by rfl, ?_⟩) ?_ ?_
          rotate_left
          · intro w'
            go_simp
            with_reducible rfl
          rotate_left
          · simp only [Act.put, List.setIfInBounds_toArray, List.set_cons_zero, List.set_cons_succ]
            rfl
          refine pure_ (i := 9) (N := some 47) (v := ?_) (a' := ?_) #[true, true, true, true, true, true, true, true, true, true, false, false] rfl rfl (by kernel_rfl) (fun _ _ _ h => h) (Or.inl ⟨by rfl, ?_⟩) ?_ ?_
          rotate_left
          · intro w'
            go_simp
            with_reducible rfl
          rotate_left
          · simp only [Act.put, List.setIfInBounds_toArray, List.set_cons_zero, List.set_cons_succ]
            rfl
          refine pure_ (i := 10) (N := some 48) (v := ?_) (a' := ?_) #[true, true, true, true, true, true, true, true, true, true, true, false] rfl rfl (by kernel_rfl) (fun _ _ _ h => h) (Or.inl ⟨by rfl, ?_⟩) ?_ ?_
          rotate_left
          · intro w'
            go_simp
            with_reducible rfl
          rotate_left
          · simp only [Act.put, List.setIfInBounds_toArray, List.set_cons_zero, List.set_cons_succ]
            rfl
          refine pure_ (i := 11) (N := some 6) (v := ?_) (a' := ?_) #[true, true, true, true, true, true, true, true, true, true, true, true] rfl rfl (by kernel_rfl) (fun _ _ _ h => h) (Or.inl ⟨by rfl, ?_⟩) ?_ ?_
          rotate_left
          · intro w'
            go_simp
            with_reducible rfl
          rotate_left
          · simp only [Act.put, List.setIfInBounds_toArray, List.set_cons_zero, List.set_cons_succ]
            rfl
          refine done_ (by kernel_rfl) ?_
          refine hK7 _ _ ?_
          clear hK7
          go_wp2
          go_roundw
          case rel => exact ⟨j + 1, FS'.set x.1.toNat (unionV Sx (vals xs)), cb, by go_num, rfl, by omega, Lib.hid (by
            have := hM.out
            simp only [folV, if_neg (show ¬ x.1 < (n0 : Int) by omega), oneL] at this
            rw [← hun, m3, hgb] at this
            simpa only [Bool.false_or, Bool.true_or] using this), hL2, Lib.hid hp2, htY2⟩
          case measure => simp [Go.RowKit.intOf]; omega
        · skip
          refine pure_ (i := 8) (N := some 46) (v := ?_) (a' := ?_) #[true, true, true, true, true, true, true, true, true, false, false, false] rfl rfl (by kernel_rfl) (fun _ _ _ h => h) (Or.inl ⟨by rfl, ?_⟩) ?_ ?_
          rotate_left
          · intro w'
            go_simp
            with_reducible rfl
          rotate_left
          · simp only [Act.put, List.setIfInBounds_toArray, List.set_cons_zero, List.set_cons_succ]
            rfl
          refine pure_ (i := 9) (N := some 47) (v := undef) (a' := ?_) #[true, true, true, true, true, true, true, true, true, true, false, false] rfl rfl (by kernel_rfl) (fun _ _ _ h => h) (Or.inr ⟨by rfl, rfl⟩) ?_ ?_
          rotate_left
          · simp only [Act.put, List.setIfInBounds_toArray, List.set_cons_zero, List.set_cons_succ]
            rfl
          refine pure_ (i := 10) (N := some 48) (v := ?_) (a' := ?_) #[true, true, true, true, true, true, true, true, true, true, true, false] rfl rfl (by kernel_rfl) (fun _ _ _ h => h) (Or.inl ⟨by rfl, ?_⟩) ?_ ?_
          rotate_left
          · intro w'
            go_simp
            with_reducible rfl
          rotate_left
          · simp only [Act.put, List.setIfInBounds_toArray, List.set_cons_zero, List.set_cons_succ]
            rfl
          refine pure_ (i := 11) (N := some 6) (v := ?_) (a' := ?_) #[true, true, true, true, true, true, true, true, true, true, true, true] rfl rfl (by kernel_rfl) (fun _ _ _ h => h) (Or.inl ⟨by rfl, ?_⟩) ?_ ?_
          rotate_left
          · intro w'
            go_simp
            with_reducible rfl
          rotate_left
          · simp only [Act.put, List.setIfInBounds_toArray, List.set_cons_zero, List.set_cons_succ]
            rfl
          refine done_ (by kernel_rfl) ?_
          refine hK7 _ _ ?_
          clear hK7
          go_wp2
          go_roundw
          case rel => exact ⟨j + 1, FS'.set x.1.toNat (unionV Sx (vals xs)), true, by go_num, rfl, by omega, Lib.hid (by
            have := hM.out
            simp only [folV, if_neg (show ¬ x.1 < (n0 : Int) by omega), oneL] at this
            rw [← hun, m3, hgb] at this
            simpa only [Bool.false_or, Bool.true_or] using this), hL2, Lib.hid hp2, htY2⟩
          case measure => simp [Go.RowKit.intOf]; omega
    · obtain rfl : j = p.2.1.length := by omega
      have hM' := hM.out
      rw [List.drop_length] at hM'
      go_wp2
      go_ret
      rw [← hM']
      exact ⟨rfl, hL, ht⟩
end Go.Proofs.Ytkfpmolplemdlaa.Foll
