/- The loop's law over an iterator whose rounds keep, of what is no cells, all behind the loop's own record: so an iterator may itself range over another one. Own text, of no program. -/
import Derived.Test.YtkfpmolplemdlaaRangeG
set_option linter.unusedVariables false
set_option linter.unusedSimpArgs false
namespace Go.Proofs.Ytkfpmolplemdlaa.RangeH
open Go Go.RowKit Go.Proofs.Ytkfpmolplemdlaa.RangeG
/-- What is no cells and lies behind a block stays. -/
def Behind (l : Nat) (W W' : World) : Prop := W.heap.size ≤ W'.heap.size ∧ ∀ (k : Nat) (o : Obj), l < k → W.heap[k]? = some o → o.isCells = false → W'.heap[k]? = some o
theorem behind_refl (l : Nat) (W : World) : Behind l W W := ⟨Nat.le_refl _, fun _ _ _ h _ => h⟩
theorem behind_t {l : Nat} {A B C : World} (h : Behind l A B) (k : Behind l B C) : Behind l A C := ⟨Nat.le_trans h.1 k.1, fun i o hi ho hc => k.2 i o hi (h.2 i o hi ho hc) hc⟩
theorem behind_b (l : Nat) (W : World) (o o' : Obj) (h : W.heap[l]? = some o) : Behind l W (W.putObj l o') := ⟨by simp [World.putObj], fun k p hk hp _ => (World.putObj_heap_other (by omega)).trans hp⟩
theorem behind_from {l B : Nat} {W W' : World} (h : KeepsFrom B W W') (hl : B ≤ l) : Behind l W W' := ⟨h.size, fun k o hk ho hc => h.same k o (by omega) ho hc⟩
theorem behind_keeps {l B : Nat} {W W' : World} (h : Behind l W W') (hl : l < B) : KeepsFrom B W W' := ⟨h.1, fun k o hk ho hc => h.2 k o (by omega) ho hc⟩
theorem behind_mono {l l' : Nat} {W W' : World} (h : Behind l W W') (hl : l ≤ l') : Behind l' W W' := ⟨h.1, fun k o hk ho hc => h.2 k o (by omega) ho hc⟩
/-- The contract of an iterator; l: the record of the loop over it. -/
def SeqH {α : Type} (n : Nat) (P : Program) (g : Nat) (lb : Array Value) (encs : α → Array Value) (Kp : Nat → World → World → Prop) (S Sp : List α → Prop) (N : Nat) (w : World) : Prop :=
  ∀ (l : Nat) (J Jx : List α → World → Prop) (W : World), Turn w.heap.size (fun _ => False) w W → l < W.heap.size → Abid W.heap.size (fun _ => False) J → Abid W.heap.size (fun _ => False) Jx →
    (∀ pre x W1, J pre W1 → pre.length < N → YieldAt Fence.wide (n - 1) P l (encs x) W1 fun e W' =>
      (e = .returned (.bool true) ∧ J (pre ++ [x]) W' ∧ Kp l W1 W') ∨ (e = .returned (.bool false) ∧ Jx (pre ++ [x]) W' ∧ Behind l W1 W')) →
    J [] W →
    CallsIn Fence.wide n P g (#[.func (.yield l) #[] #[]] ++ lb) W fun e W' => (∃ v, e = .returned v) ∧ ((∃ xs, S xs ∧ J xs W') ∨ (∃ pre, Sp pre ∧ Jx pre W'))
theorem SeqH.of {α : Type} {n : Nat} {P : Program} {g : Nat} {lb : Array Value} {encs : α → Array Value} {Kp : World → World → Prop} {Kq : Nat → World → World → Prop} {S Sp S' Sp' : List α → Prop} {N : Nat} {w : World} (h : SeqG n P g lb encs Kp (fun _ => False) S Sp N w)
    (hK : ∀ l A B, Kq l A B → Kp A B) (hS : ∀ xs, S xs → S' xs) (hSp : ∀ xs, Sp xs → Sp' xs) : SeqH n P g lb encs Kq S' Sp' N w := by
  intro l J Jx W hW hl hJ hJx hY h0
  refine (h l J Jx W hW hJ hJx (fun pre x W1 hj hn => ?_) h0).mono ?_
  · obtain ⟨fn, tmps, assign, body, hy, hR⟩ := hY pre x W1 hj hn
    exact ⟨fn, tmps, assign, body, hy, hR.mono (fun e W' hh => hh.imp (fun ⟨a, b, c⟩ => ⟨a, b, hK _ _ _ c⟩) (fun ⟨a, b, _⟩ => ⟨a, b⟩))⟩
  · rintro e W' ⟨hv, hh⟩
    exact ⟨hv, hh.imp (fun ⟨xs, a, b⟩ => ⟨xs, hS _ a, b⟩) (fun ⟨xs, a, b⟩ => ⟨xs, hSp _ a, b⟩)⟩
variable {n : Nat} {P : Program}
/-- The loop's law over such an iterator. -/
theorem rangeH {α : Type} {g : Operand} {ps : Array Tmp} {assign body : Code} {Q : Exit → Act → World → Prop} {a : Act} {w : World}
    {gf : Nat} {lb : Array Value} (hg : a.eval g = .func (.func gf) #[] lb) (eg : ∀ args w, (callFunc gf args).run P w = .ok (.enter gf args) w)
    {encs : α → Array Value} {Kp : Nat → World → World → Prop} {S Sp : List α → Prop} {N : Nat} {w0 : World} (hseq : SeqH (n - 1) P gf lb encs Kp S Sp N w0)
    (hKt : ∀ {l : Nat} {A B C : World}, Kp l A B → Kp l B C → Kp l A C) (hKb : ∀ (W : World) (o o' : Obj), W.heap[w.heap.size + 1]? = some o → o.isCells = false → o.isWalk = false → Kp (w.heap.size + 1) W (W.putObj (w.heap.size + 1) o'))
    (hb0 : Turn w0.heap.size (fun _ => False) w0 w) (hps : ∀ x, (encs x).size = ps.size)
    (I : List α → World → Prop) (Ix : Code → List α → World → Prop) (hI : Abid w.heap.size (fun _ => False) I) (hIx : ∀ c, Abid w.heap.size (fun _ => False) (Ix c)) (h0 : I [] w)
    (Ax : α → Act → World → Prop) (hAx : ∀ x a', Abid w.heap.size (fun _ => False) (fun (_ : Unit) W => Ax x a' W))
    (hassign : ∀ (l : Nat) (pre : List α) (x : α) (W : World) (K : Act → World → Prop), I pre W → (∀ a' W', KeepsFrom w.heap.size W W' → Kp (w.heap.size + 1) W W' → I pre W' → Ax x a' W' → K a' W') →
      assign.wpIn (Fence.wide.inRound l) (n - 1 - 1) P (Exit.then K (fun _ _ _ => False)) { tmps := (ps.zip (encs x)).foldl (fun t (p, v) => t.setIfInBounds p v) a.tmps, defers := [] } W)
    (hbody : ∀ (l : Nat) (pre : List α) (x : α) (a' : Act) (W : World), w.heap.size ≤ l → (∃ r, W.heap[l]? = some (.loop r)) → I pre W → Ax x a' W → pre.length < N → body.wpIn (Fence.wide.inRound l) (n - 1 - 1) P (ownPostG w.heap.size (Kp (w.heap.size + 1)) I Ix (pre ++ [x]) W) a' W)
    (hdone : ∀ (D : Nat) (xs : List α) (W : World), w.heap.size ≤ D → S xs → I xs W → W.heap[D]? = some (.deferred (some [])) → Q .normal { a with defers := { target := .collected D, args := #[] } :: a.defers } W)
    (hstop : ∀ (D : Nat) (c : Code) (pre : List α) (W : World), w.heap.size ≤ D → Sp pre → Ix c pre W → W.heap[D]? = some (.deferred (some [])) → c.wpIn Fence.wide n P Q { a with defers := { target := .collected D, args := #[] } :: a.defers } W) :
    (Code.rangeFunc g ps assign body).wpIn Fence.wide n P Q a w := by
  refine wpIn_rangeFunc ?_
  intro fn hfn
  obtain ⟨rec, hrec⟩ : ∃ rec : LoopState → Option Code → Loop, rec = fun st pe => { state := st, pending := pe, fn, tmps := a.tmps, params := ps, assign, body, defers := w.heap.size } := ⟨_, rfl⟩
  obtain ⟨W1, hW1⟩ : ∃ W1, (w.alloc (.deferred (some []))).alloc (.loop (rec .ready none)) = W1 := ⟨_, rfl⟩
  have sz1 : W1.heap.size = w.heap.size + 2 := by rw [← hW1]; simp
  have hT1 : ∀ k : Nat, ¬ (fun _ : Nat => False) (w.heap.size + k) := fun k e => e
  have rec1 : W1.heap[w.heap.size + 1]? = some (.loop (rec .ready none)) := by
    rw [← hW1]
    have := World.alloc_heap_new (w.alloc (.deferred (some []))) (.loop (rec .ready none))
    rwa [World.size_alloc] at this
  have def1 : W1.heap[w.heap.size]? = some (.deferred (some [])) := by
    rw [← hW1]; exact (Below.heap_alloc _ _ _ (by simp)).trans (World.alloc_heap_new w _)
  have tw : ∀ T', Turn w.heap.size T' w W1 := fun T' => by rw [← hW1]; exact (Turn.alloc _).trans (Turn.alloc _)
  have start : Turn w0.heap.size (fun _ => False) w0 W1 := hb0.trans ((tw _).mono hb0.size (fun _ h => h))
  refine ⟨w.heap.size + 1, [{ target := .collected w.heap.size, args := #[] }], W1, { target := .fn (.func gf) lb, args := #[.func (.yield (w.heap.size + 1)) #[] #[]] }, W1, gf,
    #[.func (.yield (w.heap.size + 1)) #[] #[]] ++ lb, W1, ?_, ?_, fun _ _ => trivial, ?_, (fun h => by cases h), ?_⟩
  · rw [← hW1, hrec]; exact run_enterLoop_outer _ _ _ _ _
  · simp only [resolve, hg]
    simp [go_sem]
  · simp [invoke, go_sem, eg]
  · have loose : ∀ {A B : World}, Turn W1.heap.size (fun _ => False) A B → Turn w.heap.size (fun _ => False) A B := fun h => h.mono (by omega) (fun _ h => h)
    refine (hseq (w.heap.size + 1)
      (fun pre W => I pre W ∧ W.heap[w.heap.size + 1]? = some (.loop (rec .ready none)) ∧ W.heap[w.heap.size]? = some (.deferred (some [])))
      (fun pre W => ∃ c, Ix c pre W ∧ W.heap[w.heap.size + 1]? = some (.loop (rec .done (some c))) ∧ W.heap[w.heap.size]? = some (.deferred (some [])))
      W1 start (by omega)
      (fun s A B hs ht => ⟨hI s A B hs.1 (loose ht), ht.same _ _ hs.2.1 (hT1 1) (.inl (by omega)), ht.same _ _ hs.2.2 (hT1 0) (.inl (by omega))⟩)
      (fun s A B hs ht => by
        obtain ⟨c, h1, h2, h3⟩ := hs
        exact ⟨c, hIx c s A B h1 (loose ht), ht.same _ _ h2 (hT1 1) (.inl (by omega)), ht.same _ _ h3 (hT1 0) (.inl (by omega))⟩)
      ?_ ⟨hI _ _ _ h0 (tw (fun _ => False)), rec1, def1⟩).mono ?_
    · rintro pre x W ⟨hi, hl, hk⟩ hlen
      have hy := run_yield (P := P) (args := encs x) hl (by rw [hrec]; exact hps x)
      rw [hrec] at hy
      refine ⟨fn, _, assign, body, hy, roundIn_of_wpIn hfn (hassign _ pre x W _ hi ?_)⟩
      clear hy
      intro a' Wa hfrom hkp hia hax
      have hla := hfrom.same _ _ (by omega) hl rfl
      have hka := hfrom.same _ _ (Nat.le_refl _) hk rfl
      have hlt : w.heap.size + 1 < Wa.heap.size := (Array.getElem?_eq_some_iff.1 hla).1
      obtain ⟨Wb, hWb⟩ : ∃ Wb, Wa.putObj (w.heap.size + 1) (.loop { rec .ready none with state := .busy }) = Wb := ⟨_, rfl⟩
      have tb : Turn w.heap.size (fun _ => False) Wa Wb := by rw [← hWb]; exact Turn.putObj _ hla (by omega) rfl
      have lb2 : Wb.heap[w.heap.size + 1]? = some (.loop { rec .ready none with state := .busy }) := by rw [← hWb]; exact World.putObj_heap_same hlt
      have kb2 : Wb.heap[w.heap.size]? = some (.deferred (some [])) := by rw [← hWb]; exact (World.putObj_heap_other (by omega)).trans hka
      have pb : Kp (w.heap.size + 1) Wa Wb := by rw [← hWb]; exact hKb _ _ _ hla rfl rfl
      have b1 : Behind (w.heap.size + 1) W Wa := behind_from hfrom (Nat.le_succ _)
      have b2 : Behind (w.heap.size + 1) Wa Wb := by rw [← hWb]; exact behind_b _ _ _ _ hla
      refine ⟨Wb, by rw [← hWb]; exact run_beginRound hla (by rw [hrec]), ?_⟩
      refine wpIn_mono (hbody _ pre x a' Wb (by omega) ⟨_, lb2⟩ (hI _ _ _ hia tb) (hAx x a' () _ _ hax tb) hlen) ?_
      have leave : ∀ (jump : Option Code) (W3 : World), KeepsFrom w.heap.size Wb W3 → ∃ W4, (Instr.endRound (w.heap.size + 1) jump).run P W3 = .ok (.bool jump.isNone) W4 ∧ Turn w.heap.size (fun _ => False) W3 W4 ∧ Kp (w.heap.size + 1) W3 W4 ∧ Behind (w.heap.size + 1) W3 W4 ∧
          W4.heap[w.heap.size + 1]? = some (.loop (rec (if jump.isNone then .ready else .done) jump)) ∧ W4.heap[w.heap.size]? = some (.deferred (some [])) := by
        intro jump W3 h3
        have hl3 := h3.same _ _ (by omega) lb2 rfl
        have he := run_endRound (P := P) jump hl3
        refine ⟨_, he, Turn.putObj _ hl3 (by omega) rfl, hKb _ _ _ hl3 rfl rfl, behind_b _ _ _ _ hl3, ?_, (World.putObj_heap_other (by omega)).trans (h3.same _ _ (Nat.le_refl _) kb2 rfl)⟩
        rw [World.putObj_heap_same (Array.getElem?_eq_some_iff.1 hl3).1, hrec]
      rintro e a3 W3 hp
      cases e with
      | normal =>
        obtain ⟨h3, p3, i3⟩ := hp
        obtain ⟨W4, he, t4, p4, b4, l4, k4⟩ := leave none W3 h3
        exact ⟨_, _, he, .inl ⟨rfl, ⟨hI _ _ _ i3 t4, l4, k4⟩, hKt hkp (hKt (hKt pb p3) p4)⟩⟩
      | ret =>
        obtain ⟨h3, i3⟩ := hp
        obtain ⟨W4, he, t4, p4, b4, l4, k4⟩ := leave (some .ret) W3 h3
        exact ⟨_, _, he, .inr ⟨rfl, ⟨.ret, hIx _ _ _ _ i3 t4, l4, k4⟩, behind_t b1 (behind_t b2 (behind_t (behind_from h3 (Nat.le_succ _)) b4))⟩⟩
      | exit id =>
        obtain ⟨h3, i3⟩ := hp
        obtain ⟨W4, he, t4, p4, b4, l4, k4⟩ := leave (some (.exit id)) W3 h3
        exact ⟨_, _, he, .inr ⟨rfl, ⟨.exit id, hIx _ _ _ _ i3 t4, l4, k4⟩, behind_t b1 (behind_t b2 (behind_t (behind_from h3 (Nat.le_succ _)) b4))⟩⟩
      | goto t =>
        obtain ⟨h3, i3⟩ := hp
        obtain ⟨W4, he, t4, p4, b4, l4, k4⟩ := leave (some (.goto t)) W3 h3
        exact ⟨_, _, he, .inr ⟨rfl, ⟨.goto t, hIx _ _ _ _ i3 t4, l4, k4⟩, behind_t b1 (behind_t b2 (behind_t (behind_from h3 (Nat.le_succ _)) b4))⟩⟩
      | panic ch => exact hp.elim
      | outgrown => exact hp.elim
    · rintro e W2 ⟨⟨v, rfl⟩, (⟨xs, hS, hi, hl, hk⟩ | ⟨pre, hSp, c, hi, hl, hk⟩)⟩
      · have he := run_endLoop (P := P) hl (by rw [hrec]; simp)
        rw [hrec] at he
        exact ⟨none, _, he, hdone _ xs _ (Nat.le_refl _) hS (hI _ _ _ hi (Turn.putObj _ hl (by omega) rfl)) ((World.putObj_heap_other (by omega)).trans hk)⟩
      · have he := run_endLoop (P := P) hl (by rw [hrec]; simp)
        rw [hrec] at he
        exact ⟨some c, _, he, hstop _ c pre _ (Nat.le_refl _) hSp (hIx c _ _ _ hi (Turn.putObj _ hl (by omega) rfl)) ((World.putObj_heap_other (by omega)).trans hk)⟩

end Go.Proofs.Ytkfpmolplemdlaa.RangeH
