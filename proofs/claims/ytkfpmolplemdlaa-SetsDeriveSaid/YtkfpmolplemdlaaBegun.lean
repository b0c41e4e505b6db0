/- sets.begin walked: what can begin, of each symbol. Over productions whose symbols are there. -/
import Derived.Test.YtkfpmolplemdlaaBegin
namespace Go.Proofs.Ytkfpmolplemdlaa.Begun
open Go Go.RowKit Go.Shelf Go.Maps Go.Proofs.YtkfpmolplemdlaaW.PrintWords Go.Proofs.YtkfpmolplemdlaaW.PrintLast Go.Proofs.Ytkfpmolplemdlaa.Round Go.Proofs.Ytkfpmolplemdlaa.RangeG Go.Proofs.Ytkfpmolplemdlaa.RangeH Go.Proofs.Ytkfpmolplemdlaa.Fl Go.Proofs.Ytkfpmolplemdlaa.Grow Go.Proofs.Ytkfpmolplemdlaa.Seqs Go.Proofs.Ytkfpmolplemdlaa.MSet Go.Proofs.Ytkfpmolplemdlaa.Add Go.Proofs.Ytkfpmolplemdlaa.Deri Go.Proofs.Ytkfpmolplemdlaa.Ahd Go.Proofs.Ytkfpmolplemdlaa.Begin
attribute [local go_sem] Oper.semAt_some
set_option linter.unusedVariables false
set_option linter.unusedSimpArgs false
theorem append_ {ops : Array Oper} {Pr : Program} {Q : Exit → Act → World → Prop} {oi : Oper} {N : Option Tmp} {a : Act} {w : World} {K : Act → World → Prop} (hw : Region.wanted oi (yielded ops a.tmps) = true) (hN : oi.dst = N) (s x : Operand) (t : TypeId)
    (ho : oi.op = .call { callee := .builtin .append, args := #[s, x], argTypes := #[t, t] })
    (base : Nat) (e : TypeId) (i : TypeInfo) (z : Value) (size bytes : Nat) (ht : Pr.underlying t = some (.slice e)) (hi : Pr.info? e = some i) (hz : i.zero = some z)
    (hsize : i.size = size) (hby : i.bytes = bytes) (hzs : z.cells.size = size) (hsz : 0 < size)
    (v : Value) (n : Nat) (xs : List Value) (hs : a.eval s = v) (hown : w.ownsRow base e size v n xs)
    (ad : Addr) (m c : Nat) (news : List Value) (hx : a.eval x = .slice (some ad) m c) (hl : news.length = m * size) (hnews : ∀ j u, news[j]? = some u → w.cell? (ad.add j) = some u) (h1 : ∀ u ∈ news, u.oneCell' = true)
    (h63 : n + m ≤ maxLen) (hbytes : (n + m) * bytes ≤ 140737488355328) (hbase : base ≤ w.heap.size)
    (h : ∀ v' w', w'.ownsRow base e size v' (n + m) (xs ++ news) → w.grownBy w' v.ownBlock → K (a.put N v') w') : if Region.wanted oi (yielded ops a.tmps) = true then Oper.wp Pr oi a w K Q else K (a.put N undef) w := by
  obtain ⟨v', w', hr, h2, h3, h4, h5⟩ := run_append_own_at (P := Pr) w base t oi.type e i z size bytes ht hi hz hsize hby hzs hsz v n xs hown ad m c news hl hnews h1 h63 hbytes hbase
  refine value_ (w1 := w') (v := v') hw hN ?_ (h v' w' h2 h3)
  simp [execOp, ho, resolve, invoke, builtin, hs, hx, hr, Result.andThen]
theorem own_keep {W W' : World} {base : Nat} {e : TypeId} {size : Nat} {v : Value} {k : Nat} {xs : List Value} (h : W.ownsRow base e size v k xs) (hk : ∀ g cs, base ≤ g → W.heap[g]? = some (.cells cs e (0, 0)) → W'.heap[g]? = some (.cells cs e (0, 0))) : W'.ownsRow base e size v k xs := by
  refine ⟨h.1, ?_⟩
  rcases h.2 with h | ⟨g, cap, cur, h1, h2, h3, h4⟩
  · exact .inl h
  · exact .inr ⟨g, cap, cur, h1, h2, hk g cur h2 h3, h4⟩
theorem own_ne {W : World} {base : Nat} {e : TypeId} {size : Nat} {v : Value} {k : Nat} {xs : List Value} (h : W.ownsRow base e size v k xs) {j : Nat} {o : Obj} (hj : W.heap[j]? = some o) (hno : ∀ cur, o ≠ .cells cur e (0, 0)) : some j ≠ v.ownBlock := by
  intro e'
  rcases h.2 with ⟨rfl, _⟩ | ⟨g, cap, cur, rfl, hb, hh, _⟩
  · simp [Value.ownBlock] at e'
  · obtain rfl : j = g := by simpa [Value.ownBlock] using e'
    rw [hh] at hj
    cases hj
    exact hno cur rfl
/-- The sets at the beginning: a terminal begins with itself. -/
def initV (N n0 : Nat) : List (List Int) := (List.range N).map fun i => if i < n0 then [(i : Int)] else []
theorem infoS : (Try.prog.info? 62).map (fun i => (i.zero, i.size, i.bytes)) = some (some (.map none), 1, 8) := by kernel_rfl
theorem wf_n {j : Nat} (h : j ≤ 1000000000000) : (Lit.int .i64 (j : Int)).wf = true := by
  simp [Lit.wf, IntKind.min, IntKind.max, IntKind.signed, IntKind.bits]
  omega
theorem Fs.low {G : Geo} {em : List Bool} {Ss : List (List Int)} {L : Nat} {W W' : World} (h : Fs G em Ss W) (h1 : G.X < L) (h2 : G.ge < L) (h3 : G.gr < L) (h4 : ∀ b ∈ G.bs, b < L) (ht : Turn L (fun k => L ≤ k) W W') : Fs G em Ss W' := by
  obtain ⟨cs, r1, r2⟩ := h.row
  exact ⟨ht.same _ _ h.blk (by omega) (.inr rfl), h.nn, h.few, h.eml, ht.same _ _ h.emb (by omega) (.inr rfl), ⟨cs, ht.same _ _ r1 (by omega) (.inr rfl), r2⟩, h.bsl, h.ssl, fun i b S hb hS => (h.sets i b S hb hS).turn ht (by have := h4 b (List.mem_of_getElem? hb); omega) (h4 b (List.mem_of_getElem? hb))⟩
theorem ahV_sub (N : Nat) (em : List Bool) (Ss : List (List Int)) (B : List Int) (x : Int) : ∀ l : List I, x ∈ ahV N em Ss l B → x ∈ B ∨ ∃ S ∈ Ss, x ∈ S
  | [], h => .inl h
  | i :: t, h => by
    have hs : x ∈ Ss.getD i.1.toNat [] → ∃ S ∈ Ss, x ∈ S := fun h => by
      rw [List.getD_eq_getElem?_getD] at h
      cases e : Ss[i.1.toNat]? with
      | none => rw [e] at h; exact nomatch h
      | some S => rw [e] at h; exact ⟨S, List.mem_of_getElem? e, h⟩
    simp only [ahV] at h
    split at h
    · split at h
      · rcases (unionV_mem x _ _).1 h with h | h
        · exact .inr (hs h)
        · exact ahV_sub N em Ss B x t h
      · exact .inr (hs h)
    · exact ahV_sub N em Ss B x t h
theorem stepF_bd {N : Nat} {em : List Bool} {Ss : List (List Int)} {p : P} (h : Bd Ss) : Bd (stepF N em Ss p).1 := by
  intro S hS x hx
  rcases List.mem_or_eq_of_mem_set hS with hS | rfl
  · exact h S hS x hx
  · rcases (unionV_mem x _ _).1 hx with hx | hx
    · rcases ahV_sub N em Ss [] x _ hx with hx | ⟨S, hS, hx⟩
      · exact nomatch hx
      · exact h S hS x hx
    · rw [List.getD_eq_getElem?_getD] at hx
      cases e : Ss[p.1.toNat]? with
      | none => rw [e] at hx; exact nomatch hx
      | some S => rw [e] at hx; exact h S (List.mem_of_getElem? e) x hx
theorem Fs.step {G : Geo} {em : List Bool} {Ss : List (List Int)} {W W' : World} {q b : Nat} {S : List Int} (h : Fs G em Ss W) (hn : G.bs.Nodup) (hb : G.bs[q]? = some b) (hS : SetAt b S W') (ht : Turn W.heap.size (fun k => k = b) W W') : Fs G em (Ss.set q S) W' := by
  obtain ⟨cs, r1, r2⟩ := h.row
  obtain ⟨b', S', e1, e2, hA, _⟩ := h.bm q (by have := (List.getElem?_eq_some_iff.1 hb).1; rw [h.bsl] at this; exact this)
  rw [hb] at e1
  cases e1
  obtain ⟨o, ho, hc, _⟩ := hA.block
  have hne : ∀ (k : Nat) (cs : Array Value) (t : TypeId) (fr : Nat × Nat), W.heap[k]? = some (.cells cs t fr) → k ≠ b := by
    rintro k cs t fr hk rfl
    rw [ho] at hk
    cases hk
    cases hc
  refine ⟨ht.same _ _ h.blk (hne _ _ _ _ h.blk) (.inr rfl), h.nn, h.few, h.eml, ht.same _ _ h.emb (hne _ _ _ _ h.emb) (.inr rfl), ⟨cs, ht.same _ _ r1 (hne _ _ _ _ r1) (.inr rfl), r2⟩, h.bsl, by rw [List.length_set]; exact h.ssl, fun i b1 S1 hb1 hS1 => ?_⟩
  by_cases e : q = i
  · subst e
    rw [hb] at hb1
    cases hb1
    rw [List.getElem?_set_self (by rw [h.ssl, ← h.bsl]; exact (List.getElem?_eq_some_iff.1 hb).1)] at hS1
    cases hS1
    exact hS
  · rw [List.getElem?_set_ne e] at hS1
    have h1 := h.sets i b1 S1 hb1 hS1
    refine h1.turn ht (fun e' => ?_) h1.lt
    subst e'
    obtain ⟨l1, l2⟩ := List.getElem?_eq_some_iff.1 hb
    obtain ⟨l3, l4⟩ := List.getElem?_eq_some_iff.1 hb1
    exact e ((List.getElem_inj hn).1 (l2.trans l4.symm))
theorem initV_len (N n0 : Nat) : (initV N n0).length = N := by simp [initV]
theorem initV_get {N n0 q : Nat} {S : List Int} (h : (initV N n0)[q]? = some S) : S = if q < n0 then [(q : Int)] else [] := by
  obtain ⟨h1, h2⟩ := List.getElem?_eq_some_iff.1 h
  rw [← h2]
  simp [initV]
theorem initV_bd {N n0 : Nat} (hN : N ≤ 1000000) : Bd (initV N n0) := by
  intro S hS x hx
  obtain ⟨q, hq, e⟩ := List.mem_iff_getElem.1 hS
  have := initV_get (S := S) (by rw [List.getElem?_eq_getElem hq, e])
  rw [initV_len] at hq
  subst this
  split at hx
  · rw [List.mem_singleton] at hx; omega
  · exact nomatch hx
/-- The state of begin's loop over the symbols. -/
structure Lp (f N n0 j : Nat) (bs : List Nat) (v : Value) (a0 a1 a2 : Value) (em : List Bool) (BX X ge : Nat) (W : World) : Prop where
  len : bs.length = j
  nod : bs.Nodup
  far : ∀ b ∈ bs, f < b
  sets : ∀ (q b : Nat), bs[q]? = some b → SetAt b (if q < n0 then [(q : Int)] else []) W
  own : W.ownsRow (f + 1) 62 1 v j (bs.map fun b => Value.map (some b))
  hb : Boxed W BX 56 (.pointer (some ⟨X, 0, none⟩))
  hx : W.heap[X]? = some (.cells #[a0, a1, a2, .slice (some ⟨ge, 0, none⟩) N N, v] 55 (0, 0))
  hg : W.heap[ge]? = some (.cells (em.map Value.bool).toArray TB (0, 0))
  hf : W.heap[f]? = some (.cells #[a0, a1, a2] TF (0, 0))
theorem Lp.below {f N n0 j : Nat} {bs : List Nat} {v a0 a1 a2 : Value} {em : List Bool} {BX X ge : Nat} {W W' : World} (h : Lp f N n0 j bs v a0 a1 a2 em BX X ge W) (hb : Below W.heap.size W W') : Lp f N n0 j bs v a0 a1 a2 em BX X ge W' :=
  ⟨h.len, h.nod, h.far, fun q b hq => (h.sets q b hq).keep (hb.block b (h.sets q b hq).lt), own_keep h.own (fun g cs _ hg => blk_below hg hb), blk_below h.hb hb, blk_below h.hx hb, blk_below h.hg hb, blk_below h.hf hb⟩
set_option maxRecDepth 100000 in
set_option maxHeartbeats 4000000 in
theorem begin_calls (w : World) (A0 A1 A2 : Option Addr) (n0 n1 c0 c1 c2 N : Nat) (hNe : n0 + n1 = N) (hN1 : 1 ≤ N) (ps : List P) (hC : Kd.C kP w A2 ps.length ps) (hN : N ≤ 1000000) (hps : ∀ p ∈ ps, PrOk N p ∧ p.2.1.length ≤ 1000) (k0 k : Nat) (em : List Bool) (hem : growV stepD ps k0 (List.replicate N false) = some em) (k1 : Nat) (Ss : List (List Int)) (hSs : growV (stepF N em) ps k1 (initV N n0) = some Ss) :
    Calls Try.prog 30 #[.agg #[.slice A0 n0 c0, .slice A1 n1 c1, .slice A2 ps.length c2]] w fun e W' => ∃ G : Geo, e = .returned (.pointer (some ⟨G.X, 0, none⟩)) ∧ G.N = N ∧ Fs G em Ss W' ∧ Bd Ss ∧ Below w.heap.size w W' := by
  obtain ⟨W0, hW0⟩ : ∃ W0, w.alloc (.cells #[.slice A0 n0 c0, .slice A1 n1 c1, .slice A2 ps.length c2] TF) = W0 := ⟨_, rfl⟩
  have hB0 : Below w.heap.size w W0 := by rw [← hW0]; exact (Below.refl _ _).alloc (Nat.le_refl _) _
  have sz0 : W0.heap.size = w.heap.size + 1 := by rw [← hW0]; simp
  have f0 : W0.heap[w.heap.size]? = some (.cells #[.slice A0 n0 c0, .slice A1 n1 c1, .slice A2 ps.length c2] TF (0, 0)) := by rw [← hW0]; exact blk_new w _
  have hHeld : W0.drew.cell? ⟨w.heap.size, 0, none⟩ = some (.slice A0 n0 c0) ∧ W0.drew.cell? ⟨w.heap.size, 1, none⟩ = some (.slice A1 n1 c1) ∧ W0.drew.cell? ⟨w.heap.size, 2, none⟩ = some (.slice A2 ps.length c2) := ⟨blk_cell f0 0, blk_cell f0 1, blk_cell f0 2⟩
  have keep : ∀ X Y : World, Below X.heap.size X Y → (fun X => X.cell? ⟨w.heap.size, 0, none⟩ = some (.slice A0 n0 c0) ∧ X.cell? ⟨w.heap.size, 1, none⟩ = some (.slice A1 n1 c1) ∧ X.cell? ⟨w.heap.size, 2, none⟩ = some (.slice A2 ps.length c2)) X → (fun X => X.cell? ⟨w.heap.size, 0, none⟩ = some (.slice A0 n0 c0) ∧ X.cell? ⟨w.heap.size, 1, none⟩ = some (.slice A1 n1 c1) ∧ X.cell? ⟨w.heap.size, 2, none⟩ = some (.slice A2 ps.length c2)) Y := fun X Y h hh => ⟨pw_cell_below h hh.1, pw_cell_below h hh.2.1, pw_cell_below h hh.2.2⟩
  have hs := fun W => size_calls A0 A1 A2 n0 n1 ps.length c0 c1 c2 W (by rw [hNe]; exact hN)
  rw [hNe] at hs
  have hemp := fun W (hC : Kd.C kP W A2 ps.length ps) => empty_calls W A0 A1 A2 n0 n1 c0 c1 c2 N hNe ps hC hN (fun p hp => (hps p hp).1) k0 em hem
  go_enter Try.func30, Try.ntmps30
  go_wp2
  rename_i K1 hK2
  have rest : ∀ (W1 : World) (BX X ge : Nat), w.heap.size < BX → w.heap.size < X → w.heap.size < ge → BX ≠ X → ge ≠ X → ge ≠ BX → Boxed W1 BX 56 (.pointer (some ⟨X, 0, none⟩)) → W1.heap[X]? = some (.cells #[.slice A0 n0 c0, .slice A1 n1 c1, .slice A2 ps.length c2, .slice (some ⟨ge, 0, none⟩) N N, .slice none 0 0] 55 (0, 0)) →
      em.length = N → W1.heap[ge]? = some (.cells (em.map Value.bool).toArray TB (0, 0)) → W1.heap[w.heap.size]? = some (.cells #[.slice A0 n0 c0, .slice A1 n1 c1, .slice A2 ps.length c2] TF (0, 0)) → Below w.heap.size w W1 →
      K1 (Act.mk #[.agg #[.slice A0 n0 c0, .slice A1 n1 c1, .slice A2 ps.length c2], .pointer (some ⟨w.heap.size, 0, none⟩), .pointer none, .pointer (some ⟨BX, 0, none⟩), undef, .agg #[.slice A0 n0 c0, .slice A1 n1 c1, .slice A2 ps.length c2], .agg #[.slice A0 n0 c0, .slice A1 n1 c1, .slice A2 ps.length c2], .slice (some ⟨ge, 0, none⟩) N N, .agg #[.slice A0 n0 c0, .slice A1 n1 c1, .slice A2 ps.length c2, .slice (some ⟨ge, 0, none⟩) N N, .slice none 0 0], .pointer (some ⟨X, 0, none⟩), undef, undef, undef, undef, undef, undef, undef, undef, undef, undef, undef, undef, undef, undef, undef, undef, undef, undef, undef, undef, undef, undef, undef, undef, undef, undef, undef, undef, undef, undef, undef, undef, undef] []) W1 := by
    intro W1 BX X ge hBX hX hge hXn hgX hgB hb hx heml hg hf hB
    refine hK2 _ _ ?_
    clear hK2
    refine (wpIn_wide (n := 4)).1 ?_
    have cf0 : W1.cell? ⟨w.heap.size, 0, none⟩ = some (.slice A0 n0 c0) := blk_cell hf 0
    have cf1 : W1.cell? ⟨w.heap.size, 1, none⟩ = some (.slice A1 n1 c1) := blk_cell hf 1
    have cf2 : W1.cell? ⟨w.heap.size, 2, none⟩ = some (.slice A2 ps.length c2) := blk_cell hf 2
    have hfN : Fence.wide.fn 27 := trivial
    gi_wp2_with (gi_at_call 27; refine (callsIn_wide.2 (hs _)).mono ?_; rintro e W2 ⟨rfl, hB2⟩)
    have hb2 : Boxed W2 BX 56 (.pointer (some ⟨X, 0, none⟩)) := blk_below hb hB2
    have hx2 := blk_below hx hB2
    have hg2 := blk_below hg hB2
    have hf2 := blk_below hf hB2
    have hBz := hB.trans (hB2.mono hB.size)
    clear hb hx hg hf hB cf0 cf1 cf2 hs hB2
    gi_loopw [12] (fun i wr => ∃ (j : Nat) (v : Value) (bs : List Nat), i = .int .i64 (j : Int) ∧ j ≤ N ∧ Lp w.heap.size N n0 j bs v (.slice A0 n0 c0) (.slice A1 n1 c1) (.slice A2 ps.length c2) em BX X ge wr ∧ Below w.heap.size w wr) (fun i _ => N - (Go.RowKit.intOf i).toNat)
    case atStart => exact ⟨0, .slice none 0 0, [], rfl, Nat.zero_le _, ⟨rfl, List.nodup_nil, fun _ h => (nomatch h), fun q b h => by simp at h, ⟨rfl, .inl ⟨rfl, rfl⟩⟩, hb2, hx2, hg2, hf2⟩, hBz⟩
    case round =>
      obtain ⟨j, v, bs, rfl, hj, hL, hbz⟩ := hrel
      by_cases hlt : j < N
      · gi_wp2
        rename_i Kr hKr
        have hHeld : wr.drew.cell? ⟨BX, 0, none⟩ = some (.pointer (some ⟨X, 0, none⟩)) ∧ wr.drew.cell? ⟨X, 4, none⟩ = some v := ⟨hL.hb.cell, blk_cell hL.hx 4⟩
        have keep2 : ∀ A B : World, Below A.heap.size A B → (fun Y => Y.cell? ⟨BX, 0, none⟩ = some (.pointer (some ⟨X, 0, none⟩)) ∧ Y.cell? ⟨X, 4, none⟩ = some v) A → (fun Y => Y.cell? ⟨BX, 0, none⟩ = some (.pointer (some ⟨X, 0, none⟩)) ∧ Y.cell? ⟨X, 4, none⟩ = some v) B := fun A B h hh => ⟨pw_cell_below h hh.1, pw_cell_below h hh.2⟩
        have hX1 := blk_lt hL.hx
        have hBX1 : BX < wr.heap.size := blk_lt hL.hb
        refine wpIn_wide.2 (wp_qz (start_ (S := fun Y => Y.cell? ⟨BX, 0, none⟩ = some (.pointer (some ⟨X, 0, none⟩)) ∧ Y.cell? ⟨X, 4, none⟩ = some v) (ds := [10]) #[false, false, false, false, false, false, false, false, false, false, false] (by kernel_rfl) rfl rfl hHeld (fun _ => ?_)))
        refine take_ (i := 0) (N := some 15) (v := ?_) (a' := ?_) #[true, false, false, false, false, false, false, false, false, false, false] rfl rfl (by kernel_rfl) (fun _ _ _ h => h) (Or.inl ⟨by rfl, ?_⟩) hHeld ?_ ?_
        rotate_left
        · rintro w' ⟨s0, s1⟩
          go_simp
          with_reducible rfl
        rotate_left
        · simp only [Act.put, List.setIfInBounds_toArray, List.set_cons_zero, List.set_cons_succ]
          rfl
        refine take_ (i := 1) (N := some 16) (v := ?_) (a' := ?_) #[true, true, false, false, false, false, false, false, false, false, false] rfl rfl (by kernel_rfl) (fun _ _ _ h => h) (Or.inl ⟨by rfl, ?_⟩) hHeld ?_ ?_
        rotate_left
        · rintro w' ⟨s0, s1⟩
          go_simp
          with_reducible rfl
        rotate_left
        · simp only [Act.put, List.setIfInBounds_toArray, List.set_cons_zero, List.set_cons_succ]
          rfl
        refine pure_ (i := 2) (N := some 17) (v := ?_) (a' := ?_) #[true, true, true, false, false, false, false, false, false, false, false] rfl rfl (by kernel_rfl) (fun _ _ _ h => h) (Or.inl ⟨by rfl, ?_⟩) ?_ ?_
        rotate_left
        · intro w'
          go_simp
          with_reducible rfl
        rotate_left
        · simp only [Act.put, List.setIfInBounds_toArray, List.set_cons_zero, List.set_cons_succ]
          rfl
        refine pure_ (i := 3) (N := some 18) (v := ?_) (a' := ?_) #[true, true, true, true, false, false, false, false, false, false, false] rfl rfl (by kernel_rfl) (fun _ _ _ h => h) (Or.inl ⟨by rfl, ?_⟩) ?_ ?_
        rotate_left
        · intro w'
          go_simp
          with_reducible rfl
        rotate_left
        · simp only [Act.put, List.setIfInBounds_toArray, List.set_cons_zero, List.set_cons_succ]
          rfl
        refine take_ (i := 4) (N := some 19) (v := ?_) (a' := ?_) #[true, true, true, true, true, false, false, false, false, false, false] rfl rfl (by kernel_rfl) (fun _ _ _ h => h) (Or.inl ⟨by rfl, ?_⟩) hHeld ?_ ?_
        rotate_left
        · rintro w' ⟨s0, s1⟩
          go_simp
          with_reducible rfl
        rotate_left
        · simp only [Act.put, List.setIfInBounds_toArray, List.set_cons_zero, List.set_cons_succ]
          rfl
        refine one_ (i := 5) (N := some 20) #[true, true, true, true, true, true, false, false, false, false, false] rfl rfl (by kernel_rfl) (by decide) (fun K hK => ?_)
        refine value_ (w1 := wr.drew.alloc (.map #[] 0)) (v := .map (some wr.heap.size)) (by rfl) rfl ?_ ?_
        · go_simp
          rw [run_makeMap]
          rfl
        have hh1 := keep2 wr.drew (wr.drew.alloc (.map #[] 0)) ((Below.refl _ _).alloc (Nat.le_refl _) _) hHeld
        refine hK.out _ _ hh1 (fun _ => ?_)
        clear hK K
        refine norm_ (a' := ?_) ?_ ?_
        rotate_left
        · show Act.put _ (some 20) _ = _
          simp only [Act.put, List.setIfInBounds_toArray, List.set_cons_zero, List.set_cons_succ]
          rfl
        refine one_ (i := 6) (N := some 21) #[true, true, true, true, true, true, true, false, false, false, false] rfl rfl (by kernel_rfl) (by decide) (fun K hK => ?_)
        refine value_ (w1 := (wr.drew.alloc (.map #[] 0)).alloc (.cells #[.map (some wr.heap.size)] 62)) (v := .slice (some ⟨wr.heap.size + 1, 0, none⟩) 1 1) (by rfl) rfl ?_ ?_
        · go_simp
        have hh2 := keep2 (wr.drew.alloc (.map #[] 0)) ((wr.drew.alloc (.map #[] 0)).alloc (.cells #[.map (some wr.heap.size)] 62)) ((Below.refl _ _).alloc (Nat.le_refl _) _) hh1
        refine hK.out _ _ hh2 (fun _ => ?_)
        clear hK K
        refine norm_ (a' := ?_) ?_ ?_
        rotate_left
        · show Act.put _ (some 21) _ = _
          simp only [Act.put, List.setIfInBounds_toArray, List.set_cons_zero, List.set_cons_succ]
          rfl
        refine one_ (i := 7) (N := some 22) #[true, true, true, true, true, true, true, true, false, false, false] rfl rfl (by kernel_rfl) (by decide) (fun K hK => ?_)
        obtain ⟨W5, hW5⟩ : ∃ W5, (wr.drew.alloc (.map #[] 0)).alloc (.cells #[.map (some wr.heap.size)] 62) = W5 := ⟨_, rfl⟩
        have hB5 : Below wr.heap.size wr W5 := by rw [← hW5]; exact ((below_drew (Below.refl _ wr)).alloc (Nat.le_refl _) _).alloc (by simp) _
        have hm5 : SetAt wr.heap.size [] W5 := by rw [← hW5]; exact (SetAt.new wr.drew).keep (Below.heap_alloc _ _ _ (by simp))
        have hr5 : W5.heap[wr.heap.size + 1]? = some (.cells #[.map (some wr.heap.size)] 62 (0, 0)) := by rw [← hW5]; have := blk_new (wr.drew.alloc (.map #[] 0)) (.cells #[.map (some wr.heap.size)] 62); simpa using this
        have sz5 : W5.heap.size = wr.heap.size + 2 := by rw [← hW5]; simp
        rw [hW5] at hh2
        rw [hW5]
        have hL5 := hL.below hB5
        obtain ⟨i0, hi, hz0, hz1, hz2⟩ := info_parts infoS
        have hXr : some X ≠ v.ownBlock := own_ne hL5.own hL5.hx (fun cur e => by cases e)
        have hBr : some BX ≠ v.ownBlock := own_ne hL5.own hL5.hb (fun cur e => by cases e)
        have hgr : some ge ≠ v.ownBlock := own_ne hL5.own hL5.hg (fun cur e => by cases e)
        have hfr : some w.heap.size ≠ v.ownBlock := own_ne hL5.own hL5.hf (fun cur e => by cases e)
        have hsr : ∀ b S, SetAt b S W5 → some b ≠ v.ownBlock := fun b S h => by obtain ⟨o, ho, hc, _⟩ := h.block; exact own_ne hL5.own ho (fun cur e => by subst e; cases hc)
        refine append_ (by rfl) rfl (.tmp 19) (.tmp 21) 53 rfl (w.heap.size + 1) 62 i0 (.map none) 1 8 Try.underlying53 hi hz0 hz1 hz2 rfl (by omega) v j _ rfl hL5.own ⟨wr.heap.size + 1, 0, none⟩ 1 1 [.map (some wr.heap.size)] rfl rfl ?_ ?_ (by have : maxLen = 9223372036854775807 := rfl; omega) (by omega) (by omega) (fun v' W6 hown hgrow => ?_)
        · intro q u hq
          rw [List.getElem?_singleton] at hq
          split at hq
          · rename_i h0; subst h0; cases hq; exact blk_cell hr5 0
          · cases hq
        · intro u hu
          rw [List.mem_singleton] at hu
          subst hu
          rfl
        obtain ⟨A6, c6, hv6⟩ : ∃ A c, v' = .slice A (j + 1) c := by
          rcases hown.2 with ⟨_, h0⟩ | ⟨g, cap, cur, h0, _⟩
          · omega
          · exact ⟨_, _, h0⟩
        subst hv6
        have hx6 := blk_grown hL5.hx hgrow hXr
        have hb6 : Boxed W6 BX 56 (.pointer (some ⟨X, 0, none⟩)) := blk_grown hL5.hb hgrow hBr
        refine hK.out _ _ ⟨hb6.cell, blk_cell hx6 4⟩ (fun _ => ?_)
        clear hK K
        refine norm_ (a' := ?_) ?_ ?_
        rotate_left
        · show Act.put _ (some 22) _ = _
          simp only [Act.put, List.setIfInBounds_toArray, List.set_cons_zero, List.set_cons_succ]
          rfl
        refine pure_ (i := 8) (N := some 23) (v := ?_) (a' := ?_) #[true, true, true, true, true, true, true, true, true, false, false] rfl rfl (by kernel_rfl) (fun _ _ _ h => h) (Or.inl ⟨by rfl, ?_⟩) ?_ ?_
        rotate_left
        · intro w'
          go_simp
          with_reducible rfl
        rotate_left
        · simp only [Act.put, List.setIfInBounds_toArray, List.set_cons_zero, List.set_cons_succ]
          rfl
        refine pure_ (i := 9) (N := some 24) (v := ?_) (a' := ?_) #[true, true, true, true, true, true, true, true, true, true, false] rfl rfl (by kernel_rfl) (fun _ _ _ h => h) (Or.inl ⟨by rfl, ?_⟩) ?_ ?_
        rotate_left
        · intro w'
          go_simp
          with_reducible rfl
        rotate_left
        · simp only [Act.put, List.setIfInBounds_toArray, List.set_cons_zero, List.set_cons_succ]
          rfl
        have x6c := blk_cell hx6 4
        have x6f := blk_frozen hx6 4
        have x6s := blk_set hx6 4 (.slice A6 (j + 1) c6)
        refine last_ (i := 10) (N := none) #[true, true, true, true, true, true, true, true, true, true, true] rfl rfl (by kernel_rfl) (by decide) (fun K hK => ?_)
        refine skip_ (w1 := W6.setCell ⟨X, 4, none⟩ (.slice A6 (j + 1) c6)) (by rfl) rfl ?_ ?_
        · go_simp
        refine hK.out _ _ ?_
        clear hK K
        refine done_ (by kernel_rfl) ?_
        refine hKr _ _ ?_
        clear hKr
        have hXne : ∀ g cs, W6.heap[g]? = some (.cells cs 62 (0, 0)) → g ≠ X := fun g cs hg => blk_ne hg hx6 (by decide)
        have hobs : ∀ g, v.ownBlock = some g → w.heap.size + 1 ≤ g := by
          intro g hg
          rcases hL5.own.2 with ⟨rfl, _⟩ | ⟨g', cap, cur, rfl, hb, _⟩
          · simp [Value.ownBlock] at hg
          · obtain rfl : g' = g := by simpa [Value.ownBlock] using hg
            exact hb
        obtain ⟨W7, hW7⟩ : ∃ W7, W6.setCell ⟨X, 4, none⟩ (.slice A6 (j + 1) c6) = W7 := ⟨_, rfl⟩
        have k7 : ∀ g, g ≠ X → W7.heap[g]? = W6.heap[g]? := fun g hg => by rw [← hW7]; exact Below.heap_setCell _ _ _ _ hg
        have hown7 : W7.ownsRow (w.heap.size + 1) 62 1 (.slice A6 (j + 1) c6) (j + 1) ((bs ++ [wr.heap.size]).map fun b => Value.map (some b)) := by
          rw [List.map_append]
          exact own_keep hown (fun g cs _ hg => (k7 g (hXne g cs hg)).trans hg)
        have hx7 : W7.heap[X]? = some (.cells #[.slice A0 n0 c0, .slice A1 n1 c1, .slice A2 ps.length c2, .slice (some ⟨ge, 0, none⟩) N N, .slice A6 (j + 1) c6] 55 (0, 0)) := by rw [← hW7]; exact blk_put hx6 4 _ rfl
        have hb7 : Boxed W7 BX 56 (.pointer (some ⟨X, 0, none⟩)) := (k7 BX hXn).trans hb6
        have hg7 := (k7 ge hgX).trans (blk_grown hL5.hg hgrow hgr)
        have hf7 := (k7 w.heap.size (by omega)).trans (blk_grown hL5.hf hgrow hfr)
        have ks : ∀ b S, SetAt b S W5 → SetAt b S W7 := fun b S h => by
          refine h.keep ((k7 b ?_).trans (hgrow.block b h.lt (hsr b S h)))
          rintro rfl
          obtain ⟨o, ho, hc, _⟩ := h.block
          rw [hL5.hx] at ho
          cases ho
          cases hc
        have hm7 := ks _ _ hm5
        have hwz7 : Below w.heap.size w W7 := by
          have h1 := hbz.trans (hB5.mono hbz.size)
          have h2 := h1.grown hgrow (h1.size) (fun g hg => by have := hobs g hg; omega)
          rw [← hW7]
          exact h2.setCell (p := ⟨X, 4, none⟩) (by show w.heap.size ≤ X; omega) _
        have sz7 : W5.heap.size ≤ W7.heap.size := by rw [← hW7]; have := hgrow.size; simpa using this
        have hmn : wr.heap.size ∉ bs := fun h => by obtain ⟨q, hq, e⟩ := List.mem_iff_getElem.1 h; have := (hL.sets q _ (by rw [List.getElem?_eq_getElem hq])).lt; omega
        have hst : ∀ q b, bs[q]? = some b → SetAt b (if q < n0 then [(q : Int)] else []) W7 := fun q b hq => ks _ _ (hL5.sets q b hq)
        have hlen := hL.len
        have hnod := hL.nod
        have hfar := hL.far
        have hwz := hbz.size
        rw [hW7]
        clear hW7 k7 ks hL hL5 hown hgrow hx6 hb6 x6c x6f x6s hXr hBr hgr hfr hsr hm5 hr5 hB5 hobs hXne hbz hx2 hb2 hg2 hf2 hBz hHeld keep2 hh1 hh2
        have cB7 := hb7.cell
        have cX7 : W7.cell? ⟨X, 4, none⟩ = some (.slice A6 (j + 1) c6) := blk_cell hx7 4
        have cf7 : W7.cell? ⟨w.heap.size, 0, none⟩ = some (.slice A0 n0 c0) := blk_cell hf7 0
        have hnod' : (bs ++ [wr.heap.size]).Nodup := by
          rw [List.nodup_append]
          refine ⟨hnod, by simp, fun a ha b hb => ?_⟩
          rw [List.mem_singleton] at hb
          subst hb
          exact fun e => hmn (e ▸ ha)
        have hfar' : ∀ b ∈ bs ++ [wr.heap.size], w.heap.size < b := fun b hb => by
          rcases List.mem_append.1 hb with hb | hb
          · exact hfar b hb
          · rw [List.mem_singleton] at hb; omega
        by_cases hT : j < n0
        · obtain ⟨g6, hA6, h6⟩ : ∃ g6, A6 = some ⟨g6, 0, none⟩ ∧ W7.cell? ⟨g6, j, none⟩ = some (.map (some wr.heap.size)) := by
            rcases hown7.2 with ⟨_, h0⟩ | ⟨g, cap, cur, h0, _, hh, _, _, _, htk⟩
            · omega
            · cases h0
              refine ⟨g, rfl, ?_⟩
              rw [blk_cell hh j]
              have : (cur.toList.take ((j + 1) * 1))[j]? = some (.map (some wr.heap.size)) := by
                rw [htk, List.map_append, List.getElem?_append_right (by simp; omega)]
                simp [hlen]
              rwa [List.getElem?_take_of_lt (by omega), Array.getElem?_toList] at this
          subst hA6
          obtain ⟨q1, q2, D', hown', hsz', hhas'⟩ := hm7
          gi_wp2_with (first
            | (gi_at_mapUpdate; (refine wpListIn_mapUpdate_own _ rfl _ _ _ 62 rfl TI TB law Try.underlying62 _ wr.heap.size _ _ rfl hown' (by simp [maxLen]) _ _ _ rfl rfl (Maps.keyOf_int_mk Try.underlying3 (wf_n (by omega))) _ [] (plainElem_bool Try.underlying4 true) ?_); intro W8 hown8 hgrow8)
            | gi_in)
          have hq8 : SetAt wr.heap.size [(j : Int)] W8 := SetAt.put q1 q2 hsz' hhas' hown' (j : Int) (wf_n (by omega)) hown8
          have k8 : ∀ g, g < W7.heap.size → g ≠ wr.heap.size → W8.heap[g]? = W7.heap[g]? := fun g hg hne => hgrow8.block g hg (fun e => by cases e; exact hne rfl)
          have kc : ∀ (g : Nat) (cs : Array Value) (t : TypeId), W7.heap[g]? = some (.cells cs t (0, 0)) → W8.heap[g]? = some (.cells cs t (0, 0)) := fun g cs t hg => blk_grown hg hgrow8 (fun e => by
            cases e
            obtain ⟨o, ho, hc, _⟩ := SetAt.block (S := []) ⟨q1, q2, D', hown', hsz', hhas'⟩
            rw [hg] at ho
            cases ho
            cases hc)
          go_roundw
          case rel =>
            refine ⟨j + 1, _, bs ++ [wr.heap.size], by go_num, by omega, ⟨by simp [hlen], hnod', hfar', fun q b hq => ?_, own_keep hown7 (fun g cs _ hg => kc g cs _ hg), kc _ _ _ hb7, kc _ _ _ hx7, kc _ _ _ hg7, kc _ _ _ hf7⟩, hwz7.grown hgrow8 hwz7.size (fun k e => by cases e; omega)⟩
            by_cases hq' : q < bs.length
            · rw [List.getElem?_append_left hq'] at hq
              have h1 := hst q b hq
              exact h1.keep (k8 b h1.lt (fun e => hmn (e ▸ List.mem_of_getElem? hq)))
            · rw [List.getElem?_append_right (by omega)] at hq
              obtain rfl : q = j := by have := (List.getElem?_eq_some_iff.1 hq).1; simp at this; omega
              rw [hlen, Nat.sub_self] at hq
              cases hq
              rw [if_pos hT]
              exact hq8
          case measure => simp [Go.RowKit.intOf]; omega
        · gi_wp2
          go_roundw
          case rel =>
            refine ⟨j + 1, _, bs ++ [wr.heap.size], by go_num, by omega, ⟨by simp [hlen], hnod', hfar', fun q b hq => ?_, hown7, hb7, hx7, hg7, hf7⟩, hwz7⟩
            by_cases hq' : q < bs.length
            · rw [List.getElem?_append_left hq'] at hq
              exact hst q b hq
            · rw [List.getElem?_append_right (by omega)] at hq
              obtain rfl : q = j := by have := (List.getElem?_eq_some_iff.1 hq).1; simp at this; omega
              rw [hlen, Nat.sub_self] at hq
              cases hq
              rw [if_neg hT]
              exact hm7
          case measure => simp [Go.RowKit.intOf]; omega
      · obtain rfl : j = N := by omega
        obtain ⟨gr, cap, cur, hv, hgr, hgrh, htk⟩ : ∃ gr cap cur, v = .slice (some ⟨gr, 0, none⟩) j cap ∧ w.heap.size + 1 ≤ gr ∧ wr.heap[gr]? = some (.cells cur 62 (0, 0)) ∧ cur.toList.take (j * 1) = bs.map fun b => Value.map (some b) := by
          rcases hL.own.2 with ⟨_, h0⟩ | ⟨g, cap, cur, h0, h1, h2, _, _, _, h6⟩
          · omega
          · exact ⟨g, cap, cur, h0, h1, h2, h6⟩
        subst hv
        obtain ⟨G, hG⟩ : ∃ G : Geo, G = ⟨X, ge, gr, j, n0, n1, ps.length, c0, c1, c2, cap, A0, A1, A2, bs⟩ := ⟨_, rfl⟩
        have hF0 : Fs G em (initV j n0) wr := by
          rw [hG]
          refine ⟨hL.hx, hNe, hN, heml, hL.hg, ⟨cur, hgrh, fun i b hb => ?_⟩, hL.len, initV_len _ _, fun q b S hb hS => ?_⟩
          · have hi : i < bs.length := (List.getElem?_eq_some_iff.1 hb).1
            have hi' := hL.len
            have : (cur.toList.take (j * 1))[i]? = some (.map (some b)) := by rw [htk, List.getElem?_map, hb]; rfl
            rwa [List.getElem?_take_of_lt (by omega), Array.getElem?_toList] at this
          · rw [initV_get hS]
            exact hL.sets q b hb
        have hnod : G.bs.Nodup := by rw [hG]; exact hL.nod
        have hGX : G.X = X := by rw [hG]
        have hGN : G.N = j := by rw [hG]
        have hbw : ∀ b ∈ G.bs, w.heap.size ≤ b ∧ b < wr.heap.size := fun b hb => by
          rw [hG] at hb
          obtain ⟨q, hq, e⟩ := List.mem_iff_getElem.1 hb
          exact ⟨by have := hL.far b hb; omega, (hL.sets q b (by rw [List.getElem?_eq_getElem hq, e])).lt⟩
        have l1 : G.X < wr.heap.size := by rw [hG]; exact blk_lt hL.hx
        have l2 : G.ge < wr.heap.size := by rw [hG]; exact blk_lt hL.hg
        have l3 : G.gr < wr.heap.size := by rw [hG]; exact blk_lt hgrh
        have l4 : BX < wr.heap.size := blk_lt hL.hb
        have hgrw := grow_calls 48 #[.pointer (some ⟨BX, 0, none⟩)] (enters_of Try.func48 (by kernel_rfl) rfl) w wr A0 A1 A2 n0 n1 c0 c1 c2 ps (· ∈ G.bs) hbw hbz hC
          (fun Ss W => Fs G em Ss W ∧ Boxed W BX 56 (.pointer (some ⟨G.X, 0, none⟩)) ∧ Bd Ss)
          (fun s W W' ht hR => ⟨Fs.low hR.1 l1 l2 l3 (fun b hb => (hbw b hb).2) ht, ht.same _ _ hR.2.1 (by omega) (.inr rfl), hR.2.2⟩) (stepF j em)
          (fun x s W hsz hb hR => by
            have hx := hps _ x.2.2.2
            refine (change_calls G em s BX w W x.p x.1.2.1 x.1.2.2 hR.1 hR.2.2 hR.2.1 (by rw [hGN]; exact hx.1) x.2.1 hx.2 x.2.2.1 hb (fun b hb => (hbw b hb).1)).mono ?_
            rintro e W' ⟨b, e1, rfl, e3, e4⟩
            have hnb : b ∈ G.bs := List.mem_of_getElem? e1
            rw [hGN] at e3 ⊢
            refine ⟨rfl, ⟨Fs.step hR.1 hnod e1 e3 e4, ?_, stepF_bd hR.2.2⟩, e4.mono (Nat.le_refl _) (fun k h => h ▸ hnb)⟩
            refine e4.same _ _ hR.2.1 (fun e' => ?_) (.inr rfl)
            obtain ⟨b', S', q1, q2, q3, _⟩ := hR.1.bm x.p.1.toNat (by have := (List.getElem?_eq_some_iff.1 e1).1; rw [hR.1.bsl] at this; exact this)
            rw [e1] at q1
            cases q1
            obtain ⟨o, ho, hc, _⟩ := q3.block
            have hbx : W.heap[BX]? = _ := hR.2.1
            rw [e', ho] at hbx
            cases hbx
            cases hc) k1 (initV j n0) Ss ⟨hF0, by rw [hGX]; exact hL.hb, initV_bd hN⟩ hSs
        have cf0 : wr.cell? ⟨w.heap.size, 0, none⟩ = some (.slice A0 n0 c0) := blk_cell hL.hf 0
        have cf1 : wr.cell? ⟨w.heap.size, 1, none⟩ = some (.slice A1 n1 c1) := blk_cell hL.hf 1
        have cf2 : wr.cell? ⟨w.heap.size, 2, none⟩ = some (.slice A2 ps.length c2) := blk_cell hL.hf 2
        have hfN : Fence.wide.fn 34 := trivial
        clear hF0 hgrh htk hL hb2 hx2 hg2 hf2 hemp hSs hem
        gi_wp2_with (gi_at_call 34; refine (callsIn_wide.2 hgrw).mono ?_; rintro e W9 ⟨rfl, ⟨hF9, hX9, hBd9⟩, ht9⟩; have cX9 := hX9.cell)
        refine bodyPost_ret (results_tmp rfl _ _ _) rfl ?_
        exact ⟨G, by rw [hGX]; rfl, hGN, hF9, hBd9, below_turn hbz ht9 (Nat.le_refl _) hbz.size (fun k hk => (hbw k hk).1)⟩
  refine wp_qz (start_ (S := fun X => X.cell? ⟨w.heap.size, 0, none⟩ = some (.slice A0 n0 c0) ∧ X.cell? ⟨w.heap.size, 1, none⟩ = some (.slice A1 n1 c1) ∧ X.cell? ⟨w.heap.size, 2, none⟩ = some (.slice A2 ps.length c2)) (ds := [6]) #[false, false, false, false, false, false, false] (by kernel_rfl) rfl rfl hHeld (fun _ => ?_))
  refine take_ (i := 0) (N := some 5) (v := ?_) (a' := ?_) #[true, false, false, false, false, false, false] rfl rfl (by kernel_rfl) (fun _ _ _ h => h) (Or.inl ⟨by rfl, ?_⟩) hHeld ?_ ?_
  rotate_left
  · rintro w' ⟨s0, s1, s2⟩
    go_simp
    with_reducible rfl
  rotate_left
  · simp only [Act.put, List.setIfInBounds_toArray, List.set_cons_zero, List.set_cons_succ]
    rfl
  refine take_ (i := 1) (N := some 6) (v := ?_) (a' := ?_) #[true, true, false, false, false, false, false] rfl rfl (by kernel_rfl) (fun _ _ _ h => h) (Or.inl ⟨by rfl, ?_⟩) hHeld ?_ ?_
  rotate_left
  · rintro w' ⟨s0, s1, s2⟩
    go_simp
    with_reducible rfl
  rotate_left
  · simp only [Act.put, List.setIfInBounds_toArray, List.set_cons_zero, List.set_cons_succ]
    rfl
  refine two_ (i := 2) (j := 5) (Ni := some 7) (Nj := some 3) #[true, true, true, false, false, false, false] #[true, true, false, false, false, true, false] rfl rfl rfl rfl (by kernel_rfl) (by decide) (by decide) (fun K hK => ?_) (fun K hK => ?_)
  · refine goes_ Try.func11 (by kernel_rfl) rfl #[.agg #[.slice A0 n0 c0, .slice A1 n1 c1, .slice A2 ps.length c2]] (by rfl) rfl rfl (by first | rfl | (simp [Act.eval]; done) | (simp [go_sem]; done)) ?_
    refine (hemp _ (Kd.C_below hC (below_drew hB0))).mono ?_
    rintro e X1 ⟨ge, rfl, heml, hge, hgb, hB1⟩
    refine ⟨_, rfl, ?_⟩
    have hh1 := keep _ _ hB1 hHeld
    refine hK.out _ _ hh1 (fun _ => ?_)
    clear hK K
    refine norm_ (a' := ?_) ?_ ?_
    rotate_left
    · show Act.put _ (some 7) _ = _
      simp only [Act.put, List.setIfInBounds_toArray, List.set_cons_zero, List.set_cons_succ]
      rfl
    refine pure_ (i := 3) (N := some 8) (v := ?_) (a' := ?_) #[true, true, true, true, false, false, false] rfl rfl (by kernel_rfl) (fun _ _ _ h => h) (Or.inl ⟨by rfl, ?_⟩) ?_ ?_
    rotate_left
    · intro w'
      go_simp
      with_reducible rfl
    rotate_left
    · simp only [Act.put, List.setIfInBounds_toArray, List.set_cons_zero, List.set_cons_succ]
      rfl
    refine two_ (i := 4) (j := 5) (Ni := some 9) (Nj := some 3) #[true, true, true, true, true, false, false] #[true, true, true, true, false, true, false] rfl rfl rfl rfl (by kernel_rfl) (by decide) (by decide) (fun K hK => ?_) (fun K hK => ?_)
    · refine value_ (w1 := ?_) (v := ?_) (by rfl) rfl ?_ ?_
      rotate_left 2
      · go_simp
        constructor
        · rfl
        · rfl
      have hh2 := keep X1 (X1.alloc (.cells #[.slice A0 n0 c0, .slice A1 n1 c1, .slice A2 ps.length c2, .slice (some ⟨ge, 0, none⟩) N N, .slice none 0 0] 55)) ((Below.refl _ _).alloc (Nat.le_refl _) _) hh1
      refine hK.out _ _ hh2 (fun _ => ?_)
      clear hK K
      refine norm_ (a' := ?_) ?_ ?_
      rotate_left
      · show Act.put _ (some 9) _ = _
        simp only [Act.put, List.setIfInBounds_toArray, List.set_cons_zero, List.set_cons_succ]
        rfl
      refine one_ (i := 5) (N := some 3) #[true, true, true, true, true, true, false] rfl rfl (by kernel_rfl) (by decide) (fun K hK => ?_)
      refine value_ (w1 := ?_) (v := ?_) (by rfl) rfl ?_ ?_
      rotate_left 2
      · go_simp
        constructor
        · rfl
        · rfl
      have hh3 := keep (X1.alloc (.cells #[.slice A0 n0 c0, .slice A1 n1 c1, .slice A2 ps.length c2, .slice (some ⟨ge, 0, none⟩) N N, .slice none 0 0] 55)) ((X1.alloc (.cells #[.slice A0 n0 c0, .slice A1 n1 c1, .slice A2 ps.length c2, .slice (some ⟨ge, 0, none⟩) N N, .slice none 0 0] 55)).alloc (.cells #[.pointer none] 56)) ((Below.refl _ _).alloc (Nat.le_refl _) _) hh2
      refine hK.out _ _ hh3 (fun _ => ?_)
      clear hK K
      refine norm_ (a' := ?_) ?_ ?_
      rotate_left
      · show Act.put _ (some 3) _ = _
        simp only [Act.put, List.setIfInBounds_toArray, List.set_cons_zero, List.set_cons_succ]
        rfl
      obtain ⟨Y, hY⟩ : ∃ Y, (X1.alloc (.cells #[.slice A0 n0 c0, .slice A1 n1 c1, .slice A2 ps.length c2, .slice (some ⟨ge, 0, none⟩) N N, .slice none 0 0] 55)).alloc (.cells #[.pointer none] 56) = Y := ⟨_, rfl⟩
      have hwD : w.heap.size < W0.drew.heap.size := by show w.heap.size < W0.heap.size; omega
      have hgl := blk_lt hgb
      have hbY : Boxed ((X1.alloc (.cells #[.slice A0 n0 c0, .slice A1 n1 c1, .slice A2 ps.length c2, .slice (some ⟨ge, 0, none⟩) N N, .slice none 0 0] 55)).alloc (.cells #[.pointer none] 56)) (X1.heap.size + 1) 56 (.pointer none) := by have := Boxed.new (X1.alloc (.cells #[.slice A0 n0 c0, .slice A1 n1 c1, .slice A2 ps.length c2, .slice (some ⟨ge, 0, none⟩) N N, .slice none 0 0] 55)) 56 (.pointer none); simpa using this
      have hxY : ((X1.alloc (.cells #[.slice A0 n0 c0, .slice A1 n1 c1, .slice A2 ps.length c2, .slice (some ⟨ge, 0, none⟩) N N, .slice none 0 0] 55)).alloc (.cells #[.pointer none] 56)).heap[X1.heap.size]? = some (.cells #[.slice A0 n0 c0, .slice A1 n1 c1, .slice A2 ps.length c2, .slice (some ⟨ge, 0, none⟩) N N, .slice none 0 0] 55 (0, 0)) := blk_alloc (blk_new _ _) _
      have hgY : ((X1.alloc (.cells #[.slice A0 n0 c0, .slice A1 n1 c1, .slice A2 ps.length c2, .slice (some ⟨ge, 0, none⟩) N N, .slice none 0 0] 55)).alloc (.cells #[.pointer none] 56)).heap[ge]? = _ := blk_alloc (blk_alloc hgb _) _
      have hfY : ((X1.alloc (.cells #[.slice A0 n0 c0, .slice A1 n1 c1, .slice A2 ps.length c2, .slice (some ⟨ge, 0, none⟩) N N, .slice none 0 0] 55)).alloc (.cells #[.pointer none] 56)).heap[w.heap.size]? = _ := blk_alloc (blk_alloc (blk_below (blk_drew f0) hB1) _) _
      have hwY : Below w.heap.size w ((X1.alloc (.cells #[.slice A0 n0 c0, .slice A1 n1 c1, .slice A2 ps.length c2, .slice (some ⟨ge, 0, none⟩) N N, .slice none 0 0] 55)).alloc (.cells #[.pointer none] 56)) := (((below_drew hB0).trans (hB1.mono (below_drew hB0).size)).alloc (by have := hB1.size; omega) _).alloc (by have := hB1.size; simp; omega) _
      have hz1 := hB1.size
      rw [hY] at hbY hxY hgY hfY hwY
      rw [hY]
      have c1' := hbY.cell
      have c2' := hbY.frozen
      refine last_ (i := 6) (N := none) #[true, true, true, true, true, true, true] rfl rfl (by kernel_rfl) (by decide) (fun K hK => ?_)
      refine skip_ (w1 := Y.setCell ⟨X1.heap.size + 1, 0, none⟩ (.pointer (some ⟨X1.heap.size, 0, none⟩))) (by rfl) rfl ?_ ?_
      · go_simp
      refine hK.out _ _ ?_
      clear hK K
      refine done_ (by kernel_rfl) ?_
      exact rest _ (X1.heap.size + 1) (X1.heap.size) ge (by first | omega | (simp; done) | (simp; omega)) (by first | omega | (simp; done) | (simp; omega)) (by first | omega | (simp; done) | (simp; omega)) (by first | omega | (simp; done) | (simp; omega)) (by first | omega | (simp; done) | (simp; omega)) (by first | omega | (simp; done) | (simp; omega)) (hbY.set _) (block_far hxY (by first | omega | (simp; done) | (simp; omega)) _) heml (block_far hgY (by first | omega | (simp; done) | (simp; omega)) _) (block_far hfY (by first | omega | (simp; done) | (simp; omega)) _) (hwY.setCell (p := ⟨X1.heap.size + 1, 0, none⟩) (by first | omega | (simp; done) | (simp; omega)) _)
    · refine value_ (w1 := ?_) (v := ?_) (by rfl) rfl ?_ ?_
      rotate_left 2
      · go_simp
        constructor
        · rfl
        · rfl
      have hh2 := keep X1 (X1.alloc (.cells #[.pointer none] 56)) ((Below.refl _ _).alloc (Nat.le_refl _) _) hh1
      refine hK.out _ _ hh2 (fun _ => ?_)
      clear hK K
      refine norm_ (a' := ?_) ?_ ?_
      rotate_left
      · show Act.put _ (some 3) _ = _
        simp only [Act.put, List.setIfInBounds_toArray, List.set_cons_zero, List.set_cons_succ]
        rfl
      refine one_ (i := 4) (N := some 9) #[true, true, true, true, true, true, false] rfl rfl (by kernel_rfl) (by decide) (fun K hK => ?_)
      refine value_ (w1 := ?_) (v := ?_) (by rfl) rfl ?_ ?_
      rotate_left 2
      · go_simp
        constructor
        · rfl
        · rfl
      have hh3 := keep (X1.alloc (.cells #[.pointer none] 56)) ((X1.alloc (.cells #[.pointer none] 56)).alloc (.cells #[.slice A0 n0 c0, .slice A1 n1 c1, .slice A2 ps.length c2, .slice (some ⟨ge, 0, none⟩) N N, .slice none 0 0] 55)) ((Below.refl _ _).alloc (Nat.le_refl _) _) hh2
      refine hK.out _ _ hh3 (fun _ => ?_)
      clear hK K
      refine norm_ (a' := ?_) ?_ ?_
      rotate_left
      · show Act.put _ (some 9) _ = _
        simp only [Act.put, List.setIfInBounds_toArray, List.set_cons_zero, List.set_cons_succ]
        rfl
      obtain ⟨Y, hY⟩ : ∃ Y, (X1.alloc (.cells #[.pointer none] 56)).alloc (.cells #[.slice A0 n0 c0, .slice A1 n1 c1, .slice A2 ps.length c2, .slice (some ⟨ge, 0, none⟩) N N, .slice none 0 0] 55) = Y := ⟨_, rfl⟩
      have hwD : w.heap.size < W0.drew.heap.size := by show w.heap.size < W0.heap.size; omega
      have hgl := blk_lt hgb
      have hbY : Boxed ((X1.alloc (.cells #[.pointer none] 56)).alloc (.cells #[.slice A0 n0 c0, .slice A1 n1 c1, .slice A2 ps.length c2, .slice (some ⟨ge, 0, none⟩) N N, .slice none 0 0] 55)) X1.heap.size 56 (.pointer none) := (Boxed.new _ _ _).alloc _
      have hxY : ((X1.alloc (.cells #[.pointer none] 56)).alloc (.cells #[.slice A0 n0 c0, .slice A1 n1 c1, .slice A2 ps.length c2, .slice (some ⟨ge, 0, none⟩) N N, .slice none 0 0] 55)).heap[X1.heap.size + 1]? = some (.cells #[.slice A0 n0 c0, .slice A1 n1 c1, .slice A2 ps.length c2, .slice (some ⟨ge, 0, none⟩) N N, .slice none 0 0] 55 (0, 0)) := by have := blk_new (X1.alloc (.cells #[.pointer none] 56)) (.cells #[.slice A0 n0 c0, .slice A1 n1 c1, .slice A2 ps.length c2, .slice (some ⟨ge, 0, none⟩) N N, .slice none 0 0] 55); simpa using this
      have hgY : ((X1.alloc (.cells #[.pointer none] 56)).alloc (.cells #[.slice A0 n0 c0, .slice A1 n1 c1, .slice A2 ps.length c2, .slice (some ⟨ge, 0, none⟩) N N, .slice none 0 0] 55)).heap[ge]? = _ := blk_alloc (blk_alloc hgb _) _
      have hfY : ((X1.alloc (.cells #[.pointer none] 56)).alloc (.cells #[.slice A0 n0 c0, .slice A1 n1 c1, .slice A2 ps.length c2, .slice (some ⟨ge, 0, none⟩) N N, .slice none 0 0] 55)).heap[w.heap.size]? = _ := blk_alloc (blk_alloc (blk_below (blk_drew f0) hB1) _) _
      have hwY : Below w.heap.size w ((X1.alloc (.cells #[.pointer none] 56)).alloc (.cells #[.slice A0 n0 c0, .slice A1 n1 c1, .slice A2 ps.length c2, .slice (some ⟨ge, 0, none⟩) N N, .slice none 0 0] 55)) := (((below_drew hB0).trans (hB1.mono (below_drew hB0).size)).alloc (by have := hB1.size; omega) _).alloc (by have := hB1.size; simp; omega) _
      have hz1 := hB1.size
      rw [hY] at hbY hxY hgY hfY hwY
      rw [hY]
      have c1' := hbY.cell
      have c2' := hbY.frozen
      refine last_ (i := 6) (N := none) #[true, true, true, true, true, true, true] rfl rfl (by kernel_rfl) (by decide) (fun K hK => ?_)
      refine skip_ (w1 := Y.setCell ⟨X1.heap.size, 0, none⟩ (.pointer (some ⟨X1.heap.size + 1, 0, none⟩))) (by rfl) rfl ?_ ?_
      · go_simp
      refine hK.out _ _ ?_
      clear hK K
      refine done_ (by kernel_rfl) ?_
      exact rest _ (X1.heap.size) (X1.heap.size + 1) ge (by first | omega | (simp; done) | (simp; omega)) (by first | omega | (simp; done) | (simp; omega)) (by first | omega | (simp; done) | (simp; omega)) (by first | omega | (simp; done) | (simp; omega)) (by first | omega | (simp; done) | (simp; omega)) (by first | omega | (simp; done) | (simp; omega)) (hbY.set _) (block_far hxY (by first | omega | (simp; done) | (simp; omega)) _) heml (block_far hgY (by first | omega | (simp; done) | (simp; omega)) _) (block_far hfY (by first | omega | (simp; done) | (simp; omega)) _) (hwY.setCell (p := ⟨X1.heap.size, 0, none⟩) (by first | omega | (simp; done) | (simp; omega)) _)
  · refine value_ (w1 := ?_) (v := ?_) (by rfl) rfl ?_ ?_
    rotate_left 2
    · go_simp
      constructor
      · rfl
      · rfl
    have hh0 := keep W0.drew (W0.drew.alloc (.cells #[.pointer none] 56)) ((Below.refl _ _).alloc (Nat.le_refl _) _) hHeld
    refine hK.out _ _ hh0 (fun _ => ?_)
    clear hK K
    refine norm_ (a' := ?_) ?_ ?_
    rotate_left
    · show Act.put _ (some 3) _ = _
      simp only [Act.put, List.setIfInBounds_toArray, List.set_cons_zero, List.set_cons_succ]
      rfl
    refine one_ (i := 2) (N := some 7) #[true, true, true, false, false, true, false] rfl rfl (by kernel_rfl) (by decide) (fun K hK => ?_)
    refine goes_ Try.func11 (by kernel_rfl) rfl #[.agg #[.slice A0 n0 c0, .slice A1 n1 c1, .slice A2 ps.length c2]] (by rfl) rfl rfl (by first | rfl | (simp [Act.eval]; done) | (simp [go_sem]; done)) ?_
    refine (hemp _ (Kd.C_below hC ((below_drew hB0).alloc (below_drew hB0).size _))).mono ?_
    rintro e X1 ⟨ge, rfl, heml, hge, hgb, hB1⟩
    refine ⟨_, rfl, ?_⟩
    have hh1 := keep _ _ hB1 hh0
    refine hK.out _ _ hh1 (fun _ => ?_)
    clear hK K
    refine norm_ (a' := ?_) ?_ ?_
    rotate_left
    · show Act.put _ (some 7) _ = _
      simp only [Act.put, List.setIfInBounds_toArray, List.set_cons_zero, List.set_cons_succ]
      rfl
    refine pure_ (i := 3) (N := some 8) (v := ?_) (a' := ?_) #[true, true, true, true, false, true, false] rfl rfl (by kernel_rfl) (fun _ _ _ h => h) (Or.inl ⟨by rfl, ?_⟩) ?_ ?_
    rotate_left
    · intro w'
      go_simp
      with_reducible rfl
    rotate_left
    · simp only [Act.put, List.setIfInBounds_toArray, List.set_cons_zero, List.set_cons_succ]
      rfl
    refine one_ (i := 4) (N := some 9) #[true, true, true, true, true, true, false] rfl rfl (by kernel_rfl) (by decide) (fun K hK => ?_)
    refine value_ (w1 := ?_) (v := ?_) (by rfl) rfl ?_ ?_
    rotate_left 2
    · go_simp
      constructor
      · rfl
      · rfl
    have hh3 := keep X1 (X1.alloc (.cells #[.slice A0 n0 c0, .slice A1 n1 c1, .slice A2 ps.length c2, .slice (some ⟨ge, 0, none⟩) N N, .slice none 0 0] 55)) ((Below.refl _ _).alloc (Nat.le_refl _) _) hh1
    refine hK.out _ _ hh3 (fun _ => ?_)
    clear hK K
    refine norm_ (a' := ?_) ?_ ?_
    rotate_left
    · show Act.put _ (some 9) _ = _
      simp only [Act.put, List.setIfInBounds_toArray, List.set_cons_zero, List.set_cons_succ]
      rfl
    obtain ⟨Y, hY⟩ : ∃ Y, X1.alloc (.cells #[.slice A0 n0 c0, .slice A1 n1 c1, .slice A2 ps.length c2, .slice (some ⟨ge, 0, none⟩) N N, .slice none 0 0] 55) = Y := ⟨_, rfl⟩
    have hwD : w.heap.size < W0.drew.heap.size := by show w.heap.size < W0.heap.size; omega
    have hgl := blk_lt hgb
    have hz0 : (W0.drew.alloc (.cells #[.pointer none] 56)).heap.size = W0.drew.heap.size + 1 := by simp
    have hbY : Boxed (X1.alloc (.cells #[.slice A0 n0 c0, .slice A1 n1 c1, .slice A2 ps.length c2, .slice (some ⟨ge, 0, none⟩) N N, .slice none 0 0] 55)) (w.heap.size + 1) 56 (.pointer none) := by have e : W0.drew.heap.size = w.heap.size + 1 := sz0; rw [← e]; exact blk_alloc (blk_below (Boxed.new _ _ _) hB1) _
    have hxY : (X1.alloc (.cells #[.slice A0 n0 c0, .slice A1 n1 c1, .slice A2 ps.length c2, .slice (some ⟨ge, 0, none⟩) N N, .slice none 0 0] 55)).heap[X1.heap.size]? = some (.cells #[.slice A0 n0 c0, .slice A1 n1 c1, .slice A2 ps.length c2, .slice (some ⟨ge, 0, none⟩) N N, .slice none 0 0] 55 (0, 0)) := blk_new _ _
    have hgY : (X1.alloc (.cells #[.slice A0 n0 c0, .slice A1 n1 c1, .slice A2 ps.length c2, .slice (some ⟨ge, 0, none⟩) N N, .slice none 0 0] 55)).heap[ge]? = _ := blk_alloc hgb _
    have hfY : (X1.alloc (.cells #[.slice A0 n0 c0, .slice A1 n1 c1, .slice A2 ps.length c2, .slice (some ⟨ge, 0, none⟩) N N, .slice none 0 0] 55)).heap[w.heap.size]? = _ := blk_alloc (blk_below (blk_alloc (blk_drew f0) _) hB1) _
    have hwY : Below w.heap.size w (X1.alloc (.cells #[.slice A0 n0 c0, .slice A1 n1 c1, .slice A2 ps.length c2, .slice (some ⟨ge, 0, none⟩) N N, .slice none 0 0] 55)) := (((below_drew hB0).alloc (below_drew hB0).size _).trans (hB1.mono ((below_drew hB0).alloc (below_drew hB0).size _).size)).alloc (by have := hB1.size; omega) _
    have hz1 := hB1.size
    have hz2 : W0.drew.heap.size = w.heap.size + 1 := sz0
    rw [hY] at hbY hxY hgY hfY hwY
    rw [hY]
    have c1' := hbY.cell
    have c2' := hbY.frozen
    refine last_ (i := 6) (N := none) #[true, true, true, true, true, true, true] rfl rfl (by kernel_rfl) (by decide) (fun K hK => ?_)
    refine skip_ (w1 := Y.setCell ⟨w.heap.size + 1, 0, none⟩ (.pointer (some ⟨X1.heap.size, 0, none⟩))) (by rfl) rfl ?_ ?_
    · go_simp
    refine hK.out _ _ ?_
    clear hK K
    refine done_ (by kernel_rfl) ?_
    exact rest _ (w.heap.size + 1) (X1.heap.size) ge (by first | omega | (simp; done) | (simp; omega)) (by first | omega | (simp; done) | (simp; omega)) (by first | omega | (simp; done) | (simp; omega)) (by first | omega | (simp; done) | (simp; omega)) (by first | omega | (simp; done) | (simp; omega)) (by first | omega | (simp; done) | (simp; omega)) (hbY.set _) (block_far hxY (by first | omega | (simp; done) | (simp; omega)) _) heml (block_far hgY (by first | omega | (simp; done) | (simp; omega)) _) (block_far hfY (by first | omega | (simp; done) | (simp; omega)) _) (hwY.setCell (p := ⟨w.heap.size + 1, 0, none⟩) (by first | omega | (simp; done) | (simp; omega)) _)
end Go.Proofs.Ytkfpmolplemdlaa.Begun
