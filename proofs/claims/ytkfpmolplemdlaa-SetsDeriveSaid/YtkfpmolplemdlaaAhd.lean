/- (*sets.firsts).there and ahead walked: the numbers with which items can begin, with those behind, as an iterator. No condition but the reach. -/
import Derived.Test.YtkfpmolplemdlaaAdd
import Derived.Test.YtkfpmolplemdlaaDeri
import Derived.Test.YtkfpmolplemdlaaWLast
namespace Go.Proofs.Ytkfpmolplemdlaa.Ahd
open Go Go.RowKit Go.Shelf Go.Maps Go.Proofs.YtkfpmolplemdlaaW.PrintWords Go.Proofs.Ytkfpmolplemdlaa.Round Go.Proofs.Ytkfpmolplemdlaa.RangeG Go.Proofs.Ytkfpmolplemdlaa.Fl Go.Proofs.Ytkfpmolplemdlaa.Seqs Go.Proofs.Ytkfpmolplemdlaa.MSet Go.Proofs.Ytkfpmolplemdlaa.Add Go.Proofs.Ytkfpmolplemdlaa.Deri Go.Proofs.YtkfpmolplemdlaaW.PrintLast Go.Proofs.Ytkfpmolplemdlaa.RangeH
attribute [local go_sem] Oper.semAt_some
set_option linter.unusedVariables false
set_option linter.unusedSimpArgs false
/-- Where a plain grammar with its sets lies. -/
structure Geo where
  X : Nat
  ge : Nat
  gr : Nat
  N : Nat
  n0 : Nat
  n1 : Nat
  n2 : Nat
  c0 : Nat
  c1 : Nat
  c2 : Nat
  cr : Nat
  A0 : Option Addr
  A1 : Option Addr
  A2 : Option Addr
  bs : List Nat
/-- .. and that it lies there. -/
structure Fs (G : Geo) (em : List Bool) (Ss : List (List Int)) (W : World) : Prop where
  blk : W.heap[G.X]? = some (.cells #[.slice G.A0 G.n0 G.c0, .slice G.A1 G.n1 G.c1, .slice G.A2 G.n2 G.c2, .slice (some ⟨G.ge, 0, none⟩) G.N G.N, .slice (some ⟨G.gr, 0, none⟩) G.N G.cr] 55 (0, 0))
  nn : G.n0 + G.n1 = G.N
  few : G.N ≤ 1000000
  eml : em.length = G.N
  emb : W.heap[G.ge]? = some (.cells (em.map Value.bool).toArray TB (0, 0))
  row : ∃ cs, W.heap[G.gr]? = some (.cells cs 62 (0, 0)) ∧ ∀ (i : Nat) b, G.bs[i]? = some b → cs[i]? = some (.map (some b))
  bsl : G.bs.length = G.N
  ssl : Ss.length = G.N
  sets : ∀ (i : Nat) b S, G.bs[i]? = some b → Ss[i]? = some S → SetAt b S W
theorem Fs.of {G : Geo} {em : List Bool} {Ss : List (List Int)} {W W' : World} (h : Fs G em Ss W) (hc : ∀ (k : Nat) cs t fr, W.heap[k]? = some (.cells cs t fr) → t ≠ TI → t ≠ 26 → W'.heap[k]? = some (.cells cs t fr)) (hw : ∀ b ∈ G.bs, ∀ S, SetAt b S W → SetAt b S W') : Fs G em Ss W' := by
  obtain ⟨cs, h1, h2⟩ := h.row
  exact ⟨hc _ _ _ _ h.blk (by decide) (by decide), h.nn, h.few, h.eml, hc _ _ _ _ h.emb (by decide) (by decide), ⟨cs, hc _ _ _ _ h1 (by decide) (by decide), h2⟩, h.bsl, h.ssl, fun i b S hb hS => hw b (List.mem_of_getElem? hb) S (h.sets i b S hb hS)⟩
theorem Fs.below {G : Geo} {em : List Bool} {Ss : List (List Int)} {W W' : World} (h : Fs G em Ss W) (hb : Below W.heap.size W W') : Fs G em Ss W' :=
  h.of (fun k cs t fr hk _ _ => (hb.block k (blk_lt hk)).trans hk) (fun b _ S hS => hS.keep (hb.block b hS.lt))
theorem Fs.bm {G : Geo} {em : List Bool} {Ss : List (List Int)} {W : World} (h : Fs G em Ss W) (i : Nat) (hi : i < G.N) : ∃ b S, G.bs[i]? = some b ∧ Ss[i]? = some S ∧ SetAt b S W ∧ W.cell? ⟨G.gr, i, none⟩ = some (.map (some b)) := by
  obtain ⟨cs, h1, h2⟩ := h.row
  have hb := List.getElem?_eq_getElem (l := G.bs) (i := i) (by rw [h.bsl]; exact hi)
  have hS := List.getElem?_eq_getElem (l := Ss) (i := i) (by rw [h.ssl]; exact hi)
  exact ⟨_, _, hb, hS, h.sets i _ _ hb hS, by rw [blk_cell h1 i]; exact h2 i _ hb⟩
set_option maxHeartbeats 1000000 in
theorem there_calls (G : Geo) (em : List Bool) (Ss : List (List Int)) (s : Int) (W : World) (h : Fs G em Ss W) :
    Calls Try.prog 55 #[.pointer (some ⟨G.X, 0, none⟩), .int .i64 s] W fun e W' => e = .returned (.bool (decide (0 ≤ s) && decide (s < (G.N : Int)))) ∧ Below W.heap.size W W' := by
  have c0 : W.cell? ⟨G.X, 0, none⟩ = some (.slice G.A0 G.n0 G.c0) := blk_cell h.blk 0
  have c1 : W.cell? ⟨G.X, 1, none⟩ = some (.slice G.A1 G.n1 G.c1) := blk_cell h.blk 1
  have c2 : W.cell? ⟨G.X, 2, none⟩ = some (.slice G.A2 G.n2 G.c2) := blk_cell h.blk 2
  have hs := size_calls G.A0 G.A1 G.A2 G.n0 G.n1 G.n2 G.c0 G.c1 G.c2 W (by rw [h.nn]; exact h.few)
  rw [h.nn] at hs
  by_cases h0 : 0 ≤ s
  · rw [decide_eq_true h0, Bool.true_and]
    go_enter Try.func55, Try.ntmps55
    go_wp2_with (go_at_call 27; refine hs.mono ?_; rintro e w1 ⟨rfl, hB1⟩)
    go_ret
    exact ⟨rfl, hB1⟩
  · have hd : decide (s ≥ 0) = false := by simpa using h0
    rw [decide_eq_false h0, Bool.false_and]
    go_enter Try.func55, Try.ntmps55
    go_wp2
    go_ret
    exact ⟨rfl, Below.refl _ _⟩
/-- The same post, the normal way out alone. -/
def Qz (Q : Exit → Act → World → Prop) : Exit → Act → World → Prop
  | .normal, a, w => Q .normal a w
  | _, _, _ => False
theorem wp_qz {P : Program} {c : Code} {Q : Exit → Act → World → Prop} {a : Act} {w : World} (h : c.wp P (Qz Q) a w) : c.wp P Q a w := wp_mono h (fun e a w hq => by cases e <;> first | exact hq | exact hq.elim)
theorem RoundIn.anyDepth {F : Fence} (hd : F.depth = none) {m m' : Nat} {P : Program} {l : Nat} {f : FuncId} {tmps : Array Value} {assign body : Code} {w : World} {R : Ending → World → Prop}
    (h : RoundIn F m P l f tmps assign body w R) : RoundIn F m' P l f tmps assign body w R := ⟨h.1, fun c cs _ => h.2 c cs (fun d h => by rw [hd] at h; cases h)⟩
theorem bnd {p y c s j n Nb : Nat} (h1 : p ≤ j * 1000000) (h2 : y + c ≤ s) (h3 : s ≤ 1000000) (h4 : 0 < c) (h5 : j < n) : p + y < n * 1000000 + Nb := by
  have : (j + 1) * 1000000 ≤ n * 1000000 := Nat.mul_le_mul_right _ h5
  omega
theorem bnd2 {p y c s j : Nat} (h1 : p ≤ j * 1000000) (h2 : y + c ≤ s) (h3 : s ≤ 1000000) : p + y ≤ (j + 1) * 1000000 := by omega
theorem Fs.emc {G : Geo} {em : List Bool} {Ss : List (List Int)} {W : World} (h : Fs G em Ss W) (i : Int) (h0 : 0 ≤ i) (h1 : i < G.N) : W.cell? ⟨G.ge, i.toNat, none⟩ = some (.bool (at_ em i)) := by
  rw [blk_cell h.emb i.toNat]
  have hl : i.toNat < em.length := by have := h.eml; omega
  unfold at_
  rw [List.getD_eq_getElem?_getD, List.getElem?_eq_getElem hl]
  simp [hl]
theorem vals_append (a b : List I64) : vals (a ++ b) = vals a ++ vals b := by simp [vals]
theorem RoundIn.into {F : Fence} {m : Nat} {P : Program} {l : Nat} {f : FuncId} {tmps : Array Value} {assign body : Code} {w : World} {R : Ending → World → Prop} (l' : Nat) (h : RoundIn F m P l f tmps assign body w R) : RoundIn (F.inRound l') m P l f tmps assign body w R := h
/-- The numbers with which items can begin, with those behind. -/
def AhM (N : Nat) (em : List Bool) (Ss : List (List Int)) : List I → (Int → Prop) → Int → Prop
  | [], B, x => B x
  | i :: t, B, x => if 0 ≤ i.1 ∧ i.1 < N then (x ∈ Ss.getD i.1.toNat [] ∨ (at_ em i.1 = true ∧ AhM N em Ss t B x)) else AhM N em Ss t B x
set_option maxRecDepth 100000 in
set_option maxHeartbeats 4000000 in
theorem ahead_stops (G : Geo) (em : List Bool) (Ss : List (List Int)) (w u : World) (Al : Option Addr) (cl : Nat) (l : List I) (B1 B2 B3 gb : Nat) (lbb : Array Value) (heg : ∀ args w, (callFunc gb args).run Try.prog w = .ok (.enter gb args) w)
    (hF : Fs G em Ss w) (hSs : ∀ S ∈ Ss, S.length ≤ 1000000) (hC : Kd.C kI u Al l.length l) (hu : Below u.heap.size u w) (b1 : Boxed w B1 38 (.slice Al l.length cl)) (b2 : Boxed w B2 56 (.pointer (some ⟨G.X, 0, none⟩))) (b3 : Boxed w B3 66 (.func (.func gb) #[] lbb))
    (Bm : Int → Prop) (Spb : List I64 → Prop) (Nb : Nat) (hseq : SeqH 1 Try.prog gb lbb encX (KeepH w.heap.size) (fun ys => ∀ x, x ∈ vals ys ↔ Bm x) Spb Nb w) :
    SeqH 2 Try.prog 54 #[.pointer (some ⟨B1, 0, none⟩), .pointer (some ⟨B2, 0, none⟩), .pointer (some ⟨B3, 0, none⟩)] encX (KeepH w.heap.size) (fun ys => ∀ x, x ∈ vals ys ↔ AhM G.N em Ss l Bm x) (fun _ => True) (l.length * 1000000 + Nb) w := by
  intro L J Jx W hW hLW hJ hJx hY h0
  have hwW : Below w.heap.size w W := below_turn (Below.refl _ _) hW (Nat.le_refl _) (Nat.le_refl _) (fun k h => h.elim)
  refine callsIn_of_wp_marks Try.func54 rfl trivial ?_ rfl
  simp only [Try.ntmps54, List.size_toArray, List.length_cons, List.length_nil, Nat.reduceAdd, Nat.reduceSub, Array.replicate_succ, Array.replicate_zero, List.push_toArray, List.append_toArray, List.nil_append, List.cons_append]
  obtain ⟨W0, hW0⟩ : ∃ W0, W.alloc (Obj.cells #[.func (.yield L) #[] #[]] 81) = W0 := ⟨_, rfl⟩
  have b4 : Boxed W0 W.heap.size 81 (.func (.yield L) #[] #[]) := by rw [← hW0]; exact Boxed.new W _ _
  have hw0 : Below w.heap.size w W0 := by rw [← hW0]; exact hwW.alloc hwW.size _
  have hJ0 : J [] W0 := hJ _ _ _ h0 (by rw [← hW0]; exact Turn.alloc _)
  have hlen : l.length ≤ 9223372036854775807 := hC.2.1
  have c1 : W0.cell? ⟨B1, 0, none⟩ = some (.slice Al l.length cl) := (hw0.cell (p := ⟨B1, 0, none⟩) b1.lt).trans b1.cell
  gi_wp2
  gi_loopw [11] (fun i wr => ∃ (j : Nat) (pre : List I64), i = .int .i64 (j : Int) ∧ j ≤ l.length ∧ J pre wr ∧ pre.length ≤ j * 1000000 ∧ Hid (∀ x, (x ∈ vals pre ∨ AhM G.N em Ss (l.drop j) Bm x) ↔ AhM G.N em Ss l Bm x) ∧ Boxed wr W.heap.size 81 (.func (.yield L) #[] #[]) ∧ Below w.heap.size w wr) (fun i _ => l.length - (Go.RowKit.intOf i).toNat)
  case atStart => exact ⟨0, [], rfl, Nat.zero_le _, hJ0, Nat.zero_le _, Lib.hid (fun x => by simp [vals]), b4, hw0⟩
  case round =>
    obtain ⟨j, pre, rfl, hj, hJs, hpl, hM, hb4, hb⟩ := hrel
    have k2 : wr.cell? ⟨B2, 0, none⟩ = some (.pointer (some ⟨G.X, 0, none⟩)) := (hb.cell (p := ⟨B2, 0, none⟩) b2.lt).trans b2.cell
    have hFr := hF.below hb
    have l2 : B2 < wr.heap.size := by have := b2.lt; have := hb.size; omega
    by_cases hlt : j < l.length
    · obtain ⟨ad, x, rfl, hx, f0, f1, f2⟩ := atI (Kd.C_below hC (hu.trans (hb.mono hu.size))) j hlt
      obtain ⟨Wi, hWi⟩ : ∃ Wi, wr.alloc (Obj.cells #[.int .i64 x.1, .string x.2.1, .string x.2.2] TIt) = Wi := ⟨_, rfl⟩
      have bi : Wi.heap[wr.heap.size]? = some (.cells #[.int .i64 x.1, .string x.2.1, .string x.2.2] TIt (0, 0)) := by rw [← hWi]; exact blk_new wr _
      have hBi : Below wr.heap.size wr Wi := by rw [← hWi]; exact (Below.refl _ _).alloc (Nat.le_refl _) _
      have hJi : J pre Wi := hJ _ _ _ hJs (by rw [← hWi]; exact Turn.alloc _)
      have hth := there_calls G em Ss x.1 Wi (hFr.below hBi)
      have i0 : Wi.cell? ⟨wr.heap.size, 0, none⟩ = some (.int .i64 x.1) := blk_cell bi 0
      have i2 : Wi.cell? ⟨B2, 0, none⟩ = some (.pointer (some ⟨G.X, 0, none⟩)) := pw_cell_below hBi k2
      have h55 : Fence.wide.fn 55 := trivial
      have hM' : AhM G.N em Ss (l.drop j) Bm = AhM G.N em Ss (x :: l.drop (j + 1)) Bm := by
        rw [List.drop_eq_getElem_cons hlt]
        congr 2
        exact (List.getElem?_eq_some_iff.1 hx).2
      rw [hM'] at hM
      have HX := Lib.hid hx
      have BI := Lib.hid bi
      clear hx hM' bi
      by_cases hr : 0 ≤ x.1 ∧ x.1 < G.N
      · have hd : (decide (0 ≤ x.1) && decide (x.1 < (G.N : Int))) = true := by simp [hr]
        rw [hd] at hth
        gi_wp2_with (gi_at_call 55; refine (callsIn_wide.2 hth).mono ?_; rintro e w1 ⟨rfl, hB1⟩)
        rename_i hK2
        have hF1 := (hFr.below hBi).below hB1
        obtain ⟨bm, Sm, hbm, hSm, hSA, cm⟩ := hF1.bm x.1.toNat (by omega)
        have hbi1 : w1.heap[wr.heap.size]? = some (.cells #[.int .i64 x.1, .string x.2.1, .string x.2.2] TIt (0, 0)) := (hB1.block _ (blk_lt BI.out)).trans BI.out
        have hHeld : w1.drew.cell? ⟨B2, 0, none⟩ = some (.pointer (some ⟨G.X, 0, none⟩)) ∧ w1.drew.cell? ⟨G.X, 4, none⟩ = some (.slice (some ⟨G.gr, 0, none⟩) G.N G.cr) ∧ w1.drew.cell? ⟨wr.heap.size, 0, none⟩ = some (.int .i64 x.1) ∧ w1.drew.cell? ⟨G.gr, x.1.toNat, none⟩ = some (.map (some bm)) :=
          ⟨pw_cell_below hB1 i2, blk_cell hF1.blk 4, blk_cell hbi1 0, cm⟩
        obtain ⟨r0, r1⟩ := hr
        refine wpIn_wide.2 (wp_qz (start_ (S := fun X => X.cell? ⟨B2, 0, none⟩ = some (.pointer (some ⟨G.X, 0, none⟩)) ∧ X.cell? ⟨G.X, 4, none⟩ = some (.slice (some ⟨G.gr, 0, none⟩) G.N G.cr) ∧ X.cell? ⟨wr.heap.size, 0, none⟩ = some (.int .i64 x.1) ∧ X.cell? ⟨G.gr, x.1.toNat, none⟩ = some (.map (some bm))) (ds := [8]) #[false, false, false, false, false, false, false, false, false] (by kernel_rfl) rfl rfl hHeld (fun _ => ?_)))
        refine take_ (i := 0) (N := some 20) (v := ?_) (a' := ?_) #[true, false, false, false, false, false, false, false, false] rfl rfl (by kernel_rfl) (fun _ _ _ h => h) (Or.inl ⟨by rfl, ?_⟩) hHeld ?_ ?_
        rotate_left
        · rintro w' ⟨s0, s1, s2, s3⟩
          go_simp
          with_reducible rfl
        rotate_left
        · simp only [Act.put, List.setIfInBounds_toArray, List.set_cons_zero, List.set_cons_succ]
          rfl
        refine pure_ (i := 1) (N := some 21) (v := ?_) (a' := ?_) #[true, true, false, false, false, false, false, false, false] rfl rfl (by kernel_rfl) (fun _ _ _ h => h) (Or.inl ⟨by rfl, ?_⟩) ?_ ?_
        rotate_left
        · intro w'
          go_simp
          with_reducible rfl
        rotate_left
        · simp only [Act.put, List.setIfInBounds_toArray, List.set_cons_zero, List.set_cons_succ]
          rfl
        refine pure_ (i := 2) (N := some 22) (v := ?_) (a' := ?_) #[true, true, true, false, false, false, false, false, false] rfl rfl (by kernel_rfl) (fun _ _ _ h => h) (Or.inl ⟨by rfl, ?_⟩) ?_ ?_
        rotate_left
        · intro w'
          go_simp
          with_reducible rfl
        rotate_left
        · simp only [Act.put, List.setIfInBounds_toArray, List.set_cons_zero, List.set_cons_succ]
          rfl
        refine take_ (i := 3) (N := some 23) (v := ?_) (a' := ?_) #[true, true, true, true, false, false, false, false, false] rfl rfl (by kernel_rfl) (fun _ _ _ h => h) (Or.inl ⟨by rfl, ?_⟩) hHeld ?_ ?_
        rotate_left
        · rintro w' ⟨s0, s1, s2, s3⟩
          go_simp
          with_reducible rfl
        rotate_left
        · simp only [Act.put, List.setIfInBounds_toArray, List.set_cons_zero, List.set_cons_succ]
          rfl
        refine pure_ (i := 4) (N := some 24) (v := ?_) (a' := ?_) #[true, true, true, true, true, false, false, false, false] rfl rfl (by kernel_rfl) (fun _ _ _ h => h) (Or.inl ⟨by rfl, ?_⟩) ?_ ?_
        rotate_left
        · intro w'
          go_simp
          with_reducible rfl
        rotate_left
        · simp only [Act.put, List.setIfInBounds_toArray, List.set_cons_zero, List.set_cons_succ]
          rfl
        refine take_ (i := 5) (N := some 25) (v := ?_) (a' := ?_) #[true, true, true, true, true, true, false, false, false] rfl rfl (by kernel_rfl) (fun _ _ _ h => h) (Or.inl ⟨by rfl, ?_⟩) hHeld ?_ ?_
        rotate_left
        · rintro w' ⟨s0, s1, s2, s3⟩
          go_simp
          with_reducible rfl
        rotate_left
        · simp only [Act.put, List.setIfInBounds_toArray, List.set_cons_zero, List.set_cons_succ]
          rfl
        refine pure_ (i := 6) (N := some 26) (v := ?_) (a' := ?_) #[true, true, true, true, true, true, true, false, false] rfl rfl (by kernel_rfl) (fun _ _ _ h => h) (Or.inl ⟨by rfl, ?_⟩) ?_ ?_
        rotate_left
        · intro w'
          go_simp
          with_reducible rfl
        rotate_left
        · simp only [Act.put, List.setIfInBounds_toArray, List.set_cons_zero, List.set_cons_succ]
          rfl
        refine take_ (i := 7) (N := some 27) (v := ?_) (a' := ?_) #[true, true, true, true, true, true, true, true, false] rfl rfl (by kernel_rfl) (fun _ _ _ h => h) (Or.inl ⟨by rfl, ?_⟩) hHeld ?_ ?_
        rotate_left
        · rintro w' ⟨s0, s1, s2, s3⟩
          go_simp
          with_reducible rfl
        rotate_left
        · simp only [Act.put, List.setIfInBounds_toArray, List.set_cons_zero, List.set_cons_succ]
          rfl
        refine last_ (i := 8) (N := some 28) #[true, true, true, true, true, true, true, true, true] rfl rfl (by kernel_rfl) (by decide) (fun K hK => ?_)
        obtain ⟨q1, q2, D, hown, hsz, hhas⟩ := hSA
        obtain ⟨w2, hrun, hrg, hg2, hs2⟩ := hown.drew.range law Try.underlying62
        refine value_ (v := .pointer (some ⟨w1.drew.heap.size, 0, none⟩)) (w1 := w2) (by rfl) rfl ?hrun ?_
        case hrun =>
          unfold execOp
          simp [Act.eval, Result.andThen]
          rw [hrun]
          rfl
        refine hK.out _ _ ?_
        clear hK K
        refine done_ (by kernel_rfl) ?_
        refine hK2 _ _ ?_
        clear hK2
        simp only [Act.put, List.setIfInBounds_toArray, List.set_cons_zero, List.set_cons_succ]
        gi_wp2
        have hSml : Sm.length ≤ 1000000 := hSs Sm (List.mem_of_getElem? hSm)
        have tr : ∀ L, Turn L (fun _ => False) wr w2 := fun L => (Turn.below hBi).trans ((Turn.below hB1).trans (Turn.drew.trans (Turn.grown hg2 (fun k e => nomatch e))))
        have hJ2 : J (pre ++ []) w2 := by rw [List.append_nil]; exact hJ _ _ _ hJs (tr _)
        have hb42 := Boxed.turn hb4 (tr 0) (fun h => h)
        have hbi2 : w2.heap[wr.heap.size]? = some (.cells #[.int .i64 x.1, .string x.2.1, .string x.2.2] TIt (0, 0)) := cells_turn hbi1 (Turn.drew.trans (Turn.grown (L := 0) (T := fun _ => False) hg2 (fun k e => nomatch e))) (fun h => h)
        have hb2 : Below w.heap.size w w2 := below_turn hb (tr w.heap.size) (Nat.le_refl _) (Nat.le_refl _) (fun k h => h.elim)
        have hgd : Ss.getD x.1.toNat [] = Sm := by rw [List.getD_eq_getElem?_getD, hSm]; rfl
        have HGD := Lib.hid hgd
        have hWr : W.heap.size ≤ w1.drew.heap.size := Nat.le_of_lt (Nat.lt_of_lt_of_le hb4.lt (Nat.le_trans hBi.size hB1.size))
        clear hgd hHeld hbi1 hFr hF1 i0 i2 k2 l2 hbm hSm hg2 hs2 hth hBi hB1 cm hb4 hJs hJi BI hrun hd
        obtain ⟨ib, hib⟩ : ∃ ib, wr.heap.size = ib := ⟨_, rfl⟩
        rw [hib] at hbi2 ⊢
        clear hib
        obtain ⟨rr, hrr⟩ : ∃ rr, w1.drew.heap.size = rr := ⟨_, rfl⟩
        rw [hrr] at hrg hWr ⊢
        clear hrr
        gi_loopw [7] (fun _ wr => ∃ (left : Lit → Bool) (cnt : Nat) (ys : List I64), wr.ranges Try.prog TI (plainElem Try.prog TB) bm rr Sm.length D left cnt ∧ ys.length + cnt ≤ Sm.length ∧ CollectedI D left (vals ys) ∧ J (pre ++ ys) wr ∧ Boxed wr W.heap.size 81 (.func (.yield L) #[] #[]) ∧ wr.heap[ib]? = some (.cells #[.int .i64 x.1, .string x.2.1, .string x.2.2] TIt (0, 0)) ∧ Below w.heap.size w wr)
          (fun _ wr => wr.rangeLeft bm rr)
        case atStart => exact ⟨_, _, [], hrg, by simp [hsz], CollectedI.start D, hJ2, hb42, hbi2, hb2⟩
        case round =>
          obtain ⟨left, cnt, ys, hrg, hcs, hCo, hJq, hbq, hiq, hbw⟩ := hrel
          have cq := hbq.cell
          gi_wp2_with (first
            | (gi_at_next; refine wpListIn_next_ranges _ rfl _ rfl TI law (plainElem Try.prog TB) encZ id (fun key kl hk => by obtain ⟨x, hx, _⟩ := Maps.keyOf_i64 Try.underlying3 hk; exact ⟨x, hx⟩) (fun v _ _ => ⟨v, rfl⟩) bm rr Sm.length _ _ _ rfl hrg ?_ ?_)
            | gi_in)
          · intro hc0 hl0
            gi_wp2
            rename_i hK3
            have hFq := hF.below hbw
            have hme : ∀ y, y ∈ vals ys ↔ y ∈ Sm := fun y => by rw [hCo.2 y, hl0, hhas y]; simp
            have hMx : ∀ y, y ∈ vals (pre ++ ys) ∨ (at_ em x.1 = true ∧ AhM G.N em Ss (l.drop (j + 1)) Bm y) ↔ AhM G.N em Ss l Bm y := fun y => by
              rw [← hM.out y, vals_append, List.mem_append, hme]
              simp only [AhM, if_pos (And.intro r0 r1), HGD.out]
              rw [or_assoc]
            have hpl2 := bnd2 hpl hcs hSml
            rw [← List.length_append] at hpl2
            obtain ⟨bv, hbv⟩ : ∃ bv, at_ em x.1 = bv := ⟨_, rfl⟩
            have hec := hFq.emc x.1 r0 r1
            rw [hbv] at hec hMx
            have hHeld : wr.drew.cell? ⟨B2, 0, none⟩ = some (.pointer (some ⟨G.X, 0, none⟩)) ∧ wr.drew.cell? ⟨G.X, 3, none⟩ = some (.slice (some ⟨G.ge, 0, none⟩) G.N G.N) ∧ wr.drew.cell? ⟨ib, 0, none⟩ = some (.int .i64 x.1) ∧ wr.drew.cell? ⟨G.ge, x.1.toNat, none⟩ = some (.bool bv) :=
              ⟨(hbw.cell (p := ⟨B2, 0, none⟩) b2.lt).trans b2.cell, blk_cell hFq.blk 3, blk_cell hiq 0, hec⟩
            have HM2 := Lib.hid hMx
            clear hMx hme hec hbv hFq cq
            refine wpIn_wide.2 (wp_qz (start_ (S := fun X => X.cell? ⟨B2, 0, none⟩ = some (.pointer (some ⟨G.X, 0, none⟩)) ∧ X.cell? ⟨G.X, 3, none⟩ = some (.slice (some ⟨G.ge, 0, none⟩) G.N G.N) ∧ X.cell? ⟨ib, 0, none⟩ = some (.int .i64 x.1) ∧ X.cell? ⟨G.ge, x.1.toNat, none⟩ = some (.bool bv)) (ds := []) #[false, false, false, false, false, false, false, false, false] (by kernel_rfl) rfl rfl hHeld (fun _ => ?_)))
            refine take_ (i := 0) (N := some 37) (v := ?_) (a' := ?_) #[true, false, false, false, false, false, false, false, false] rfl rfl (by kernel_rfl) (fun _ _ _ h => h) (Or.inl ⟨by rfl, ?_⟩) hHeld ?_ ?_
            rotate_left
            · rintro w' ⟨s0, s1, s2, s3⟩
              go_simp
              with_reducible rfl
            rotate_left
            · simp only [Act.put, List.setIfInBounds_toArray, List.set_cons_zero, List.set_cons_succ]
              rfl
            refine pure_ (i := 1) (N := some 38) (v := ?_) (a' := ?_) #[true, true, false, false, false, false, false, false, false] rfl rfl (by kernel_rfl) (fun _ _ _ h => h) (Or.inl ⟨by rfl, ?_⟩) ?_ ?_
            rotate_left
            · intro w'
              go_simp
              with_reducible rfl
            rotate_left
            · simp only [Act.put, List.setIfInBounds_toArray, List.set_cons_zero, List.set_cons_succ]
              rfl
            refine pure_ (i := 2) (N := some 39) (v := ?_) (a' := ?_) #[true, true, true, false, false, false, false, false, false] rfl rfl (by kernel_rfl) (fun _ _ _ h => h) (Or.inl ⟨by rfl, ?_⟩) ?_ ?_
            rotate_left
            · intro w'
              go_simp
              with_reducible rfl
            rotate_left
            · simp only [Act.put, List.setIfInBounds_toArray, List.set_cons_zero, List.set_cons_succ]
              rfl
            refine take_ (i := 3) (N := some 40) (v := ?_) (a' := ?_) #[true, true, true, true, false, false, false, false, false] rfl rfl (by kernel_rfl) (fun _ _ _ h => h) (Or.inl ⟨by rfl, ?_⟩) hHeld ?_ ?_
            rotate_left
            · rintro w' ⟨s0, s1, s2, s3⟩
              go_simp
              with_reducible rfl
            rotate_left
            · simp only [Act.put, List.setIfInBounds_toArray, List.set_cons_zero, List.set_cons_succ]
              rfl
            refine pure_ (i := 4) (N := some 41) (v := ?_) (a' := ?_) #[true, true, true, true, true, false, false, false, false] rfl rfl (by kernel_rfl) (fun _ _ _ h => h) (Or.inl ⟨by rfl, ?_⟩) ?_ ?_
            rotate_left
            · intro w'
              go_simp
              with_reducible rfl
            rotate_left
            · simp only [Act.put, List.setIfInBounds_toArray, List.set_cons_zero, List.set_cons_succ]
              rfl
            refine take_ (i := 5) (N := some 42) (v := ?_) (a' := ?_) #[true, true, true, true, true, true, false, false, false] rfl rfl (by kernel_rfl) (fun _ _ _ h => h) (Or.inl ⟨by rfl, ?_⟩) hHeld ?_ ?_
            rotate_left
            · rintro w' ⟨s0, s1, s2, s3⟩
              go_simp
              with_reducible rfl
            rotate_left
            · simp only [Act.put, List.setIfInBounds_toArray, List.set_cons_zero, List.set_cons_succ]
              rfl
            refine pure_ (i := 6) (N := some 43) (v := ?_) (a' := ?_) #[true, true, true, true, true, true, true, false, false] rfl rfl (by kernel_rfl) (fun _ _ _ h => h) (Or.inl ⟨by rfl, ?_⟩) ?_ ?_
            rotate_left
            · intro w'
              go_simp
              with_reducible rfl
            rotate_left
            · simp only [Act.put, List.setIfInBounds_toArray, List.set_cons_zero, List.set_cons_succ]
              rfl
            refine take_ (i := 7) (N := some 44) (v := ?_) (a' := ?_) #[true, true, true, true, true, true, true, true, false] rfl rfl (by kernel_rfl) (fun _ _ _ h => h) (Or.inl ⟨by rfl, ?_⟩) hHeld ?_ ?_
            rotate_left
            · rintro w' ⟨s0, s1, s2, s3⟩
              go_simp
              with_reducible rfl
            rotate_left
            · simp only [Act.put, List.setIfInBounds_toArray, List.set_cons_zero, List.set_cons_succ]
              rfl
            refine pure_ (i := 8) (N := some 45) (v := ?_) (a' := ?_) #[true, true, true, true, true, true, true, true, true] rfl rfl (by kernel_rfl) (fun _ _ _ h => h) (Or.inl ⟨by rfl, ?_⟩) ?_ ?_
            rotate_left
            · intro w'
              go_simp
              with_reducible rfl
            rotate_left
            · simp only [Act.put, List.setIfInBounds_toArray, List.set_cons_zero, List.set_cons_succ]
              rfl
            refine done_ (by kernel_rfl) ?_
            refine hK3 _ _ ?_
            clear hK3
            have hJd : J (pre ++ ys) wr.drew := hJ _ _ _ hJq Turn.drew
            cases bv with
            | true =>
              gi_wp2
              go_roundw
              case rel =>
                have p2 : j + 1 ≤ l.length := hlt
                refine ⟨j + 1, pre ++ ys, by go_num, p2, hJd, hpl2, Lib.hid (fun y => ?_), hbq, below_drew hbw⟩
                rw [← HM2.out y]
                simp
              case measure => simp [Go.RowKit.intOf]; omega
            | false =>
              gi_wp2
              refine ⟨_, results_none rfl _ _ _, ⟨_, rfl⟩, .inl ⟨pre ++ ys, fun y => ?_, hJd⟩⟩
              rw [← HM2.out y]
              simp
          · intro y c kl yd yp w3 cnt2 hkey hlk hv hat hrg2 hlt2 hg2 hs2 hen
            obtain ⟨y', ex, rfl, hwf⟩ := Maps.keyOf_i64 Try.underlying3 hkey
            obtain rfl : y = y' := encZ_inj ex
            have tg : Turn W.heap.size (fun _ => False) wr w3 := Turn.grown hg2 (fun r e => by cases e; exact .inr ⟨hWr, hrg.iter_walk.imp (fun o h => ⟨h.1, Obj.not_cells_of_walk h.2⟩)⟩)
            have hJ3 : J (pre ++ ys) w3 := hJ _ _ _ hJq tg
            have hlen2 := bnd (Nb := Nb) hpl hcs hSml (by omega) hlt
            rw [← List.length_append] at hlen2
            obtain ⟨fn, tmps, assign, body, hy, hR⟩ := hY (pre ++ ys) ⟨y, hwf⟩ w3 hJ3 hlen2
            simp only [encX] at hy
            have hb3' := Boxed.turn hbq tg (fun h => h)
            have hi3 := cells_turn hiq tg (fun h => h)
            have hbw3 : Below w.heap.size w w3 := below_turn hbw tg (Nat.le_refl _) hwW.size (fun k h => h.elim)
            have c3 := hb3'.cell
            have hC2 : CollectedI D (fun z => left z && !z.sameKey (Lit.int .i64 y)) (vals (ys ++ [⟨y, hwf⟩])) := by
              have := hCo.step hlk hat
              simpa [vals] using this
            clear hs2 cq hY
            gi_wp2
            refine hR.mono ?_
            rintro e W3 (⟨rfl, hJ4, hk4⟩ | ⟨rfl, hJx4, _⟩)
            · gi_wp2
              have hrg3 := hrg2.of_walks hk4.1.2.1
              go_roundw
              case rel =>
                refine ⟨_, cnt2, ys ++ [⟨y, hwf⟩], hrg3, by simp; omega, hC2, ?_, hk4.1.2.2 _ _ _ _ hb3' (by decide) (by decide), hk4.1.2.2 _ _ _ _ hi3 (by decide) (by decide), hbw3.trans hk4.1.1.1⟩
                rw [← List.append_assoc]
                exact hJ4
              case measure => rw [hrg3.left_eq, hrg.left_eq]; exact hlt2
            · gi_wp2
              exact ⟨_, results_none rfl _ _ _, ⟨_, rfl⟩, .inr ⟨_, trivial, hJx4⟩⟩
      · have hd : (decide (0 ≤ x.1) && decide (x.1 < (G.N : Int))) = false := by
          rw [Bool.and_eq_false_iff, decide_eq_false_iff_not, decide_eq_false_iff_not]
          by_cases h : 0 ≤ x.1
          · exact .inr (fun h' => hr ⟨h, h'⟩)
          · exact .inl h
        rw [hd] at hth
        gi_wp2_with (gi_at_call 55; refine (callsIn_wide.2 hth).mono ?_; rintro e w1 ⟨rfl, hB1⟩)
        go_roundw
        case rel =>
          have p1 : pre.length ≤ (j + 1) * 1000000 := Nat.le_trans hpl (Nat.mul_le_mul_right _ (Nat.le_succ j))
          have p2 : j + 1 ≤ l.length := hlt
          refine ⟨j + 1, pre, by go_num, p2, hJ _ _ _ hJi (Turn.below hB1), p1, Lib.hid (fun y => ?_), Boxed.turn (Boxed.turn hb4 (Turn.below (L := 0) (T := fun _ => False) hBi) (fun h => h)) (Turn.below (L := 0) (T := fun _ => False) hB1) (fun h => h), hb.trans ((hBi.trans (hB1.mono hBi.size)).mono hb.size)⟩
          rw [← hM.out y]
          simp only [AhM, if_neg hr]
        case measure => simp [Go.RowKit.intOf]; omega
    · obtain rfl : j = l.length := by omega
      have k3 : wr.cell? ⟨B3, 0, none⟩ = some (.func (.func gb) #[] lbb) := (hb.cell (p := ⟨B3, 0, none⟩) b3.lt).trans b3.cell
      have hWl : W.heap.size < wr.heap.size := hb4.lt
      gi_wp2
      refine rangeH (gf := gb) (lb := lbb) rfl heg hseq keepH_t (keepH_b hb.size) (Turn.below hb) (fun _ => rfl)
        (fun p2 X => J (pre ++ p2) X ∧ Boxed X W.heap.size 81 (.func (.yield L) #[] #[]) ∧ wr.heap.size ≤ X.heap.size ∧ Below w.heap.size w X)
        (fun c p2 X => c = .ret ∧ Jx (pre ++ p2) X)
        ?hI ?hIx ?h0
        (fun x a' X => a' = Act.mk #[.func (.yield L) #[] #[], .pointer (some ⟨B1, 0, none⟩), .pointer (some ⟨B2, 0, none⟩), .pointer (some ⟨B3, 0, none⟩), .pointer (some ⟨W.heap.size, 0, none⟩), undef, u6, u7, .int .i64 x.1, .slice Al l.length cl, .int .i64 (l.length : Int), .int .i64 (l.length : Int), .bool false, u13, u14, u15, u16, u17, u18, u19, u20, u21, u22, u23, u24, u25, u26, u27, u28, u29, u30, u31, u32, u33, u34, u35, u36, u37, u38, u39, u40, u41, u42, u43, u44, u45, u46, .func (.func gb) #[] lbb, .int .i64 x.1, undef, undef, undef, undef] []) ?hAx ?assign ?body ?done ?stop
      case hI =>
        rintro p2 X X' ⟨h1, h2, h3, h4⟩ ht
        exact ⟨hJ _ _ _ h1 (ht.mono (by omega) (fun _ h => h)), Boxed.turn h2 ht (fun h => h), Nat.le_trans h3 ht.size, below_turn h4 ht (Nat.le_refl _) (by have := hwW.size; omega) (fun k hk => hk.elim)⟩
      case hIx => exact fun c p2 X X' h ht => ⟨h.1, hJx _ _ _ h.2 (ht.mono (by omega) (fun _ h => h))⟩
      case h0 => exact ⟨by rw [List.append_nil]; exact hJs, hb4, Nat.le_refl _, hb⟩
      case hAx => exact fun x a' s X Y h _ => h
      case assign =>
        rintro l' p2 x X K hI hK2
        simp only [encX]
        gi_wp2
        exact hK2 _ _ (KeepsFrom.refl _ _) (keepH_refl _ _ _) hI rfl
      case body =>
        rintro l' p2 x a' X hl hr ⟨h1, h2, h3, h4⟩ rfl hpre
        have hlen2 : (pre ++ p2).length < l.length * 1000000 + Nb := by rw [List.length_append]; omega
        obtain ⟨fn, tmps, assign, body, hy, hR⟩ := hY (pre ++ p2) x X h1 hlen2
        simp only [encX] at hy
        have c4 := h2.cell
        clear hY
        gi_wp2
        refine ⟨rfl, (RoundIn.into l' (RoundIn.anyDepth rfl hR)).mono ?_⟩
        rintro e W3 (⟨rfl, hJ4, hk4⟩ | ⟨rfl, hJx4, hbe⟩)
        · gi_wp2
          refine ⟨behind_keeps hk4.2 (by omega), ⟨hk4.1, behind_mono hk4.2 (by omega)⟩, ?_, hk4.1.2.2 _ _ _ _ h2 (by decide) (by decide), Nat.le_trans h3 hk4.2.1, h4.trans hk4.1.1.1⟩
          rw [← List.append_assoc]
          exact hJ4
        · gi_wp2
          refine ⟨behind_keeps hbe (by omega), rfl, ?_⟩
          rw [← List.append_assoc]
          exact hJx4
      case done =>
        rintro D ys X hD hS ⟨h1, h2, h3, h4⟩ hK'
        have HS := Lib.hid hS
        clear hS
        gi_wp2
        refine ⟨by simp, .inl ⟨_, _, rfl, run_takeDeferred hK', ?_⟩⟩
        refine ⟨_, results_none rfl _ _ _, ⟨_, rfl⟩, .inl ⟨pre ++ ys, fun y => ?_, hJ _ _ _ h1 (Turn.putObj _ hK' (by omega) rfl)⟩⟩
        rw [vals_append, List.mem_append, HS.out y, ← hM.out y, List.drop_length]
        rfl
      case stop =>
        rintro D c p2 X hD hp ⟨rfl, hx⟩ hK'
        gi_wp2
        refine ⟨by simp, .inl ⟨_, _, rfl, run_takeDeferred hK', ?_⟩⟩
        exact ⟨_, results_none rfl _ _ _, ⟨_, rfl⟩, .inr ⟨_, trivial, hJx _ _ _ hx (Turn.putObj _ hK' (by omega) rfl)⟩⟩
set_option maxHeartbeats 1000000 in
theorem ahead_calls (X : Nat) (Al : Option Addr) (n cl gb : Nat) (lbb : Array Value) (w : World) : Calls Try.prog 37 #[.pointer (some ⟨X, 0, none⟩), .slice Al n cl, .func (.func gb) #[] lbb] w fun e w' =>
    e = .returned (.func (.func 54) #[] #[.pointer (some ⟨w.heap.size + 1, 0, none⟩), .pointer (some ⟨w.heap.size, 0, none⟩), .pointer (some ⟨w.heap.size + 1 + 1, 0, none⟩)]) ∧
      ((w.alloc (.cells #[.pointer (some ⟨X, 0, none⟩)] 56)).alloc (.cells #[.slice Al n cl] 38)).alloc (.cells #[.func (.func gb) #[] lbb] 66) = w' := by
  go_enter Try.func37, Try.ntmps37
  go_wp2
  go_ret
  exact ⟨rfl, rfl⟩
end Go.Proofs.Ytkfpmolplemdlaa.Ahd
