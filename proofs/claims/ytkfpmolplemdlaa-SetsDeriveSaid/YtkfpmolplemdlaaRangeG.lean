/- A range over a function whose iterator keeps a state of its own in cells (a captured variable that it writes): the iterator's contract names its own blocks, and the loop's law over it. Own text, of no program. -/
import Derived.RangeFuncNested
import Derived.RangeFuncBound
import Derived.RangeFuncCalls
import Derived.RangeFuncLeaves
import Derived.RangeFuncBox
import Derived.Deep.LoopGhost
set_option linter.unusedVariables false
set_option linter.unusedSimpArgs false
namespace Go.Proofs.Ytkfpmolplemdlaa.RangeG
open Go Go.RowKit

/-- From W to W': the blocks of T may have turned; of what lies at or beyond L what is no cells; all else is as it was. -/
structure Turn (L : Nat) (T : Nat → Prop) (W W' : World) : Prop where
  os : W'.os = W.os
  tape : W'.tape = W.tape
  output : W'.output = W.output
  size : W.heap.size ≤ W'.heap.size
  same : ∀ (k : Nat) (o : Obj), W.heap[k]? = some o → ¬ T k → (k < L ∨ o.isCells = true) → W'.heap[k]? = some o

section
variable {L L' : Nat} {T T' : Nat → Prop} {W W' W'' : World}
theorem Turn.refl (L : Nat) (T : Nat → Prop) (W : World) : Turn L T W W := ⟨rfl, rfl, rfl, Nat.le_refl _, fun _ _ h _ _ => h⟩
theorem Turn.trans (h : Turn L T W W') (k : Turn L T W' W'') : Turn L T W W'' :=
  ⟨k.os.trans h.os, k.tape.trans h.tape, k.output.trans h.output, Nat.le_trans h.size k.size, fun i o hi ht hc => k.same i o (h.same i o hi ht hc) ht hc⟩
theorem Turn.mono (h : Turn L T W W') (hL : L' ≤ L) (hT : ∀ k, T k → T' k) : Turn L' T' W W' :=
  ⟨h.os, h.tape, h.output, h.size, fun k o hk ht hc => h.same k o hk (fun e => ht (hT k e)) (hc.imp (fun h' => by omega) (fun h' => h'))⟩
theorem Turn.grown {row : Option Nat} (hg : W.grownBy W' row) (hr : ∀ k, row = some k → T k ∨ (L ≤ k ∧ ∃ o : Obj, W.heap[k]? = some o ∧ o.isCells = false)) : Turn L T W W' :=
  ⟨hg.os, hg.tape, hg.output, hg.size, fun k o hk ht hc => (hg.block k (Array.getElem?_eq_some_iff.1 hk).1 (fun e => by
    rcases hr k e.symm with h1 | ⟨h1, o', h2, h3⟩
    · exact ht h1
    · rw [hk] at h2
      cases h2
      rcases hc with hc | hc
      · omega
      · rw [h3] at hc; cases hc)).trans hk⟩
theorem Turn.putObj {l : Nat} {o : Obj} (o' : Obj) (hl : W.heap[l]? = some o) (hL : L ≤ l) (ho : o.isCells = false) : Turn L T W (W.putObj l o') :=
  Turn.grown (grownBy_putObj' W l o') (fun k e => by cases e; exact .inr ⟨hL, o, hl, ho⟩)
theorem Turn.alloc (o : Obj) : Turn L T W (W.alloc o) := Turn.grown (World.grownBy_alloc W o none) (fun k e => by cases e)
theorem Turn.below (h : Below W.heap.size W W') : Turn L T W W' := ⟨h.os, h.tape, h.output, h.size, fun k o hk _ _ => (h.block k (Array.getElem?_eq_some_iff.1 hk).1).trans hk⟩
theorem Turn.drew : Turn L T W W.drew := ⟨rfl, rfl, rfl, Nat.le_refl _, fun _ _ h _ _ => h⟩
theorem Turn.setCell (a : Addr) (v : Value) (ha : T a.block) : Turn L T W (W.setCell a v) :=
  ⟨rfl, rfl, rfl, by show W.heap.size ≤ (W.heap.modify _ _).size; rw [Array.size_modify]; exact Nat.le_refl _, fun k o hk ht _ => (Below.heap_setCell W a v k (fun e => ht (by rw [e]; exact ha))).trans hk⟩

/-- What abides such turns. -/
def Abid {β : Type} (L : Nat) (T : Nat → Prop) (I : β → World → Prop) : Prop := ∀ s W W', I s W → Turn L T W W' → I s W'
theorem Abid.and {β : Type} {I I' : β → World → Prop} (h : Abid L T I) (h' : Abid L T I') : Abid L T (fun s W => I s W ∧ I' s W) := fun s W W' hs ht => ⟨h s W W' hs.1 ht, h' s W W' hs.2 ht⟩
theorem Boxed.turn {B : Nat} {t : TypeId} {v : Value} (h : Boxed W B t v) (ht : Turn L T W W') (hB : ¬ T B) : Boxed W' B t v := ht.same B _ h hB (.inr rfl)
theorem cells_turn {B : Nat} {t : TypeId} {c : Array Value} {fr : Nat × Nat} (h : W.heap[B]? = some (.cells c t fr)) (ht : Turn L T W W') (hB : ¬ T B) : W'.heap[B]? = some (.cells c t fr) := ht.same B _ h hB (.inr rfl)
theorem below_turn {n₀ : Nat} {w : World} (h : Below n₀ w W) (ht : Turn L T W W') (hw : n₀ ≤ w.heap.size) (hL : n₀ ≤ L) (hT : ∀ k, T k → n₀ ≤ k) : Below n₀ w W' :=
  ⟨ht.os.trans h.os, ht.tape.trans h.tape, ht.output.trans h.output, Nat.le_trans h.size ht.size, fun i hi => by
    have h1 := h.block i hi
    have h2 : i < W.heap.size := by have := h.size; omega
    rw [← h1, Array.getElem?_eq_getElem h2]
    exact ht.same i _ (Array.getElem?_eq_getElem h2) (fun e => by have := hT i e; omega) (.inl (by omega))⟩
theorem row_turn {base : Nat} {e : TypeId} {size n : Nat} {v : Value} {xs : List Value} (h : W.ownsRow base e size v n xs) (ht : Turn L T W W') (hT : ∀ k, v.ownBlock = some k → ¬ T k) : W'.ownsRow base e size v n xs := by
  obtain ⟨h1, h2⟩ := h
  refine ⟨h1, ?_⟩
  rcases h2 with h2 | ⟨g, cap, cur, rfl, hg, hh, r⟩
  · exact .inl h2
  · exact .inr ⟨g, cap, cur, rfl, hg, ht.same g _ hh (hT g (by simp [Value.ownBlock])) (.inr rfl), r⟩
end

/-- The contract of an iterator that may write the blocks of T, its own. -/
def SeqG {α : Type} (n : Nat) (P : Program) (g : Nat) (lb : Array Value) (encs : α → Array Value) (Kp : World → World → Prop) (T : Nat → Prop) (S Sp : List α → Prop) (N : Nat) (w : World) : Prop :=
  ∀ (l : Nat) (J Jx : List α → World → Prop) (W : World), Turn w.heap.size (fun _ => False) w W → Abid W.heap.size T J → Abid W.heap.size T Jx →
    (∀ pre x W1, J pre W1 → pre.length < N → YieldAt Fence.wide (n - 1) P l (encs x) W1 fun e W' =>
      (e = .returned (.bool true) ∧ J (pre ++ [x]) W' ∧ Kp W1 W') ∨ (e = .returned (.bool false) ∧ Jx (pre ++ [x]) W')) →
    J [] W →
    CallsIn Fence.wide n P g (#[.func (.yield l) #[] #[]] ++ lb) W fun e W' => (∃ v, e = .returned v) ∧ ((∃ xs, S xs ∧ J xs W') ∨ (∃ pre, Sp pre ∧ Jx pre W'))

variable {n : Nat} {P : Program}
/-- The loop's law over such an iterator. -/
theorem rangeG {α : Type} {g : Operand} {ps : Array Tmp} {assign body : Code} {Q : Exit → Act → World → Prop} {a : Act} {w : World}
    {gf : Nat} {lb : Array Value} (hg : a.eval g = .func (.func gf) #[] lb) (eg : ∀ args w, (callFunc gf args).run P w = .ok (.enter gf args) w)
    {encs : α → Array Value} {Kp : World → World → Prop} {T : Nat → Prop} {S Sp : List α → Prop} {N : Nat} {w0 : World} (hseq : SeqG (n - 1) P gf lb encs Kp T S Sp N w0)
    (hT : ∀ k, T k → k < w.heap.size)
    (hKt : ∀ {A B C : World}, Kp A B → Kp B C → Kp A C) (hKb : ∀ (W : World) (l : Nat) (o o' : Obj), w.heap.size ≤ l → W.heap[l]? = some o → o.isCells = false → o.isWalk = false → Kp W (W.putObj l o'))
    (hb0 : Turn w0.heap.size (fun _ => False) w0 w) (hps : ∀ x, (encs x).size = ps.size)
    (I : List α → World → Prop) (Ix : Code → List α → World → Prop) (hI : Abid w.heap.size T I) (hIx : ∀ c, Abid w.heap.size T (Ix c)) (h0 : I [] w)
    (Ax : α → Act → World → Prop) (hAx : ∀ x a', Abid w.heap.size T (fun (_ : Unit) W => Ax x a' W))
    (hassign : ∀ (l : Nat) (pre : List α) (x : α) (W : World) (K : Act → World → Prop), I pre W → (∀ a' W', KeepsFrom w.heap.size W W' → Kp W W' → I pre W' → Ax x a' W' → K a' W') →
      assign.wpIn (Fence.wide.inRound l) (n - 1 - 1) P (Exit.then K (fun _ _ _ => False)) { tmps := (ps.zip (encs x)).foldl (fun t (p, v) => t.setIfInBounds p v) a.tmps, defers := [] } W)
    (hbody : ∀ (l : Nat) (pre : List α) (x : α) (a' : Act) (W : World), w.heap.size ≤ l → (∃ r, W.heap[l]? = some (.loop r)) → I pre W → Ax x a' W → pre.length < N → body.wpIn (Fence.wide.inRound l) (n - 1 - 1) P (ownPostG w.heap.size Kp I Ix (pre ++ [x]) W) a' W)
    (hdone : ∀ (D : Nat) (xs : List α) (W : World), w.heap.size ≤ D → S xs → I xs W → W.heap[D]? = some (.deferred (some [])) → Q .normal { a with defers := { target := .collected D, args := #[] } :: a.defers } W)
    (hstop : ∀ (D : Nat) (c : Code) (pre : List α) (W : World), w.heap.size ≤ D → Sp pre → Ix c pre W → W.heap[D]? = some (.deferred (some [])) → c.wpIn Fence.wide n P Q { a with defers := { target := .collected D, args := #[] } :: a.defers } W) :
    (Code.rangeFunc g ps assign body).wpIn Fence.wide n P Q a w := by
  refine wpIn_rangeFunc ?_
  intro fn hfn
  obtain ⟨rec, hrec⟩ : ∃ rec : LoopState → Option Code → Loop, rec = fun st pe => { state := st, pending := pe, fn, tmps := a.tmps, params := ps, assign, body, defers := w.heap.size } := ⟨_, rfl⟩
  obtain ⟨W1, hW1⟩ : ∃ W1, (w.alloc (.deferred (some []))).alloc (.loop (rec .ready none)) = W1 := ⟨_, rfl⟩
  have sz1 : W1.heap.size = w.heap.size + 2 := by rw [← hW1]; simp
  have hT1 : ∀ k, ¬ T (w.heap.size + k) := fun k e => by have := hT _ e; omega
  have rec1 : W1.heap[w.heap.size + 1]? = some (.loop (rec .ready none)) := by
    rw [← hW1]
    have := World.alloc_heap_new (w.alloc (.deferred (some []))) (.loop (rec .ready none))
    rwa [World.size_alloc] at this
  have def1 : W1.heap[w.heap.size]? = some (.deferred (some [])) := by
    rw [← hW1]; exact (Below.heap_alloc _ _ _ (by simp)).trans (World.alloc_heap_new w _)
  have tw : ∀ T', Turn w.heap.size T' w W1 := fun T' => by rw [← hW1]; exact (Turn.alloc _).trans (Turn.alloc _)
  have start : Turn w0.heap.size (fun _ => False) w0 W1 := hb0.trans ((tw _).mono hb0.size (fun _ h => h))
  refine ⟨w.heap.size + 1, [{ target := .collected w.heap.size, args := #[] }], W1, { target := .fn (.func gf) lb, args := #[.func (.yield (w.heap.size + 1)) #[] #[]] }, W1, gf,
    #[.func (.yield (w.heap.size + 1)) #[] #[]] ++ lb, W1, ?_, ?_, fun _ _ => trivial, ?_, (fun h => by cases h), ?_⟩
  · rw [← hW1, hrec]; exact run_enterLoop_outer _ _ _ _ _
  · simp only [resolve, hg]
    simp [go_sem]
  · simp [invoke, go_sem, eg]
  · have loose : ∀ {A B : World}, Turn W1.heap.size T A B → Turn w.heap.size T A B := fun h => h.mono (by omega) (fun _ h => h)
    refine (hseq (w.heap.size + 1)
      (fun pre W => I pre W ∧ W.heap[w.heap.size + 1]? = some (.loop (rec .ready none)) ∧ W.heap[w.heap.size]? = some (.deferred (some [])))
      (fun pre W => ∃ c, Ix c pre W ∧ W.heap[w.heap.size + 1]? = some (.loop (rec .done (some c))) ∧ W.heap[w.heap.size]? = some (.deferred (some [])))
      W1 start
      (fun s A B hs ht => ⟨hI s A B hs.1 (loose ht), ht.same _ _ hs.2.1 (hT1 1) (.inl (by omega)), ht.same _ _ hs.2.2 (hT1 0) (.inl (by omega))⟩)
      (fun s A B hs ht => by
        obtain ⟨c, h1, h2, h3⟩ := hs
        exact ⟨c, hIx c s A B h1 (loose ht), ht.same _ _ h2 (hT1 1) (.inl (by omega)), ht.same _ _ h3 (hT1 0) (.inl (by omega))⟩)
      ?_ ⟨hI _ _ _ h0 (tw T), rec1, def1⟩).mono ?_
    · rintro pre x W ⟨hi, hl, hk⟩ hlen
      have hy := run_yield (P := P) (args := encs x) hl (by rw [hrec]; exact hps x)
      rw [hrec] at hy
      refine ⟨fn, _, assign, body, hy, roundIn_of_wpIn hfn (hassign _ pre x W _ hi ?_)⟩
      clear hy
      intro a' Wa hfrom hkp hia hax
      have hla := hfrom.same _ _ (by omega) hl rfl
      have hka := hfrom.same _ _ (Nat.le_refl _) hk rfl
      have hlt : w.heap.size + 1 < Wa.heap.size := (Array.getElem?_eq_some_iff.1 hla).1
      obtain ⟨Wb, hWb⟩ : ∃ Wb, Wa.putObj (w.heap.size + 1) (.loop { rec .ready none with state := .busy }) = Wb := ⟨_, rfl⟩
      have tb : Turn w.heap.size T Wa Wb := by rw [← hWb]; exact Turn.putObj _ hla (by omega) rfl
      have lb2 : Wb.heap[w.heap.size + 1]? = some (.loop { rec .ready none with state := .busy }) := by rw [← hWb]; exact World.putObj_heap_same hlt
      have kb2 : Wb.heap[w.heap.size]? = some (.deferred (some [])) := by rw [← hWb]; exact (World.putObj_heap_other (by omega)).trans hka
      have pb : Kp Wa Wb := by rw [← hWb]; exact hKb _ _ _ _ (by omega) hla rfl rfl
      refine ⟨Wb, by rw [← hWb]; exact run_beginRound hla (by rw [hrec]), ?_⟩
      refine wpIn_mono (hbody _ pre x a' Wb (by omega) ⟨_, lb2⟩ (hI _ _ _ hia tb) (hAx x a' () _ _ hax tb) hlen) ?_
      have leave : ∀ (jump : Option Code) (W3 : World), KeepsFrom w.heap.size Wb W3 → ∃ W4, (Instr.endRound (w.heap.size + 1) jump).run P W3 = .ok (.bool jump.isNone) W4 ∧ Turn w.heap.size T W3 W4 ∧ Kp W3 W4 ∧
          W4.heap[w.heap.size + 1]? = some (.loop (rec (if jump.isNone then .ready else .done) jump)) ∧ W4.heap[w.heap.size]? = some (.deferred (some [])) := by
        intro jump W3 h3
        have hl3 := h3.same _ _ (by omega) lb2 rfl
        have he := run_endRound (P := P) jump hl3
        refine ⟨_, he, Turn.putObj _ hl3 (by omega) rfl, hKb _ _ _ _ (by omega) hl3 rfl rfl, ?_, (World.putObj_heap_other (by omega)).trans (h3.same _ _ (Nat.le_refl _) kb2 rfl)⟩
        rw [World.putObj_heap_same (Array.getElem?_eq_some_iff.1 hl3).1, hrec]
      rintro e a3 W3 hp
      cases e with
      | normal =>
        obtain ⟨h3, p3, i3⟩ := hp
        obtain ⟨W4, he, t4, p4, l4, k4⟩ := leave none W3 h3
        exact ⟨_, _, he, .inl ⟨rfl, ⟨hI _ _ _ i3 t4, l4, k4⟩, hKt hkp (hKt (hKt pb p3) p4)⟩⟩
      | ret =>
        obtain ⟨h3, i3⟩ := hp
        obtain ⟨W4, he, t4, p4, l4, k4⟩ := leave (some .ret) W3 h3
        exact ⟨_, _, he, .inr ⟨rfl, .ret, hIx _ _ _ _ i3 t4, l4, k4⟩⟩
      | exit id =>
        obtain ⟨h3, i3⟩ := hp
        obtain ⟨W4, he, t4, p4, l4, k4⟩ := leave (some (.exit id)) W3 h3
        exact ⟨_, _, he, .inr ⟨rfl, .exit id, hIx _ _ _ _ i3 t4, l4, k4⟩⟩
      | goto t =>
        obtain ⟨h3, i3⟩ := hp
        obtain ⟨W4, he, t4, p4, l4, k4⟩ := leave (some (.goto t)) W3 h3
        exact ⟨_, _, he, .inr ⟨rfl, .goto t, hIx _ _ _ _ i3 t4, l4, k4⟩⟩
      | panic ch => exact hp.elim
      | outgrown => exact hp.elim
    · rintro e W2 ⟨⟨v, rfl⟩, (⟨xs, hS, hi, hl, hk⟩ | ⟨pre, hSp, c, hi, hl, hk⟩)⟩
      · have he := run_endLoop (P := P) hl (by rw [hrec]; simp)
        rw [hrec] at he
        exact ⟨none, _, he, hdone _ xs _ (Nat.le_refl _) hS (hI _ _ _ hi (Turn.putObj _ hl (by omega) rfl)) ((World.putObj_heap_other (by omega)).trans hk)⟩
      · have he := run_endLoop (P := P) hl (by rw [hrec]; simp)
        rw [hrec] at he
        exact ⟨some c, _, he, hstop _ c pre _ (Nat.le_refl _) hSp (hIx c _ _ _ hi (Turn.putObj _ hl (by omega) rfl)) ((World.putObj_heap_other (by omega)).trans hk)⟩

/-- What lies below n₀, and the blocks of a list, stay. -/
def KeepL (n₀ : Nat) (L : List Nat) (W W' : World) : Prop := Below n₀ W W' ∧ ∀ b, b ∈ L → b < W.heap.size → W'.heap[b]? = W.heap[b]?
theorem keepL_refl (n₀ : Nat) (L : List Nat) (W : World) : KeepL n₀ L W W := ⟨Below.refl _ _, fun _ _ _ => rfl⟩
theorem keepL_t {n₀ : Nat} {L : List Nat} {A B C : World} (h : KeepL n₀ L A B) (k : KeepL n₀ L B C) : KeepL n₀ L A C := ⟨h.1.trans k.1, fun b hb hlt => by
  rw [← h.2 b hb hlt]
  exact k.2 b hb (by have := h.2 b hb hlt; rw [Array.getElem?_eq_getElem hlt] at this; exact (Array.getElem?_eq_some_iff.1 this).1)⟩
theorem keepL_b {n₀ : Nat} {L : List Nat} {w : World} (hn : n₀ ≤ w.heap.size) (hL : ∀ b, b ∈ L → b < w.heap.size) (W : World) (l : Nat) (o o' : Obj) (hl : w.heap.size ≤ l) (h : W.heap[l]? = some o) (h1 : o.isCells = false) (h2 : o.isWalk = false) : KeepL n₀ L W (W.putObj l o') :=
  ⟨belowK_b hn W l o o' hl h h1 h2, fun b hb _ => World.putObj_heap_other (by have := hL b hb; omega)⟩
theorem keepL_below {n₀ : Nat} {L : List Nat} {A W W' : World} (h : KeepL n₀ L A W) (hn : n₀ ≤ W.heap.size) (hb : Below W.heap.size W W') : KeepL n₀ L A W' :=
  keepL_t h ⟨hb.mono hn, fun b _ hlt => hb.block b hlt⟩
theorem keepL_alloc {n₀ : Nat} {L : List Nat} {A W : World} (h : KeepL n₀ L A W) (hn : n₀ ≤ W.heap.size) (o : Obj) : KeepL n₀ L A (W.alloc o) := keepL_below h hn ((Below.refl _ W).alloc (Nat.le_refl _) o)
theorem keepL_set {n₀ : Nat} {L : List Nat} {A W : World} (h : KeepL n₀ L A W) {a : Addr} (hn : n₀ ≤ a.block) (hne : a.block ∉ L) (v : Value) : KeepL n₀ L A (W.setCell a v) :=
  keepL_t h ⟨(Below.refl _ W).setCell hn v, fun b hb _ => Below.heap_setCell W a v b (fun e => hne (by rw [← e]; exact hb))⟩
theorem keepL_grown {n₀ : Nat} {L : List Nat} {A W W' : World} {row : Option Nat} (h : KeepL n₀ L A W) (hn : n₀ ≤ W.heap.size) (hg : W.grownBy W' row) (hr : ∀ k, row = some k → n₀ ≤ k ∧ k ∉ L) : KeepL n₀ L A W' :=
  keepL_t h ⟨(Below.refl n₀ W).grown hg hn (fun k e => (hr k e).1), fun b hb hlt => hg.block b hlt (fun e => (hr b e.symm).2 hb)⟩
/-- 'out = append(out, ..)' in a round, the variable boxed below L, its row made since: behind the append's law all that the round owes. -/
theorem append_step {W w1 : World} {L B n₀ : Nat} {t e : TypeId} {size k m : Nat} {v v' : Value} {xs ys : List Value} {tmp : Obj} {Ls : List Nat} (hv : Boxed W B t v) (hBL : B < L) (hrow : W.ownsRow L e size v k xs) (hLW : L ≤ W.heap.size)
    (hown' : w1.ownsRow L e size v' m ys) (hgrow : (W.alloc tmp).grownBy w1 v.ownBlock) (hn : n₀ ≤ B) (hLs : ∀ b, b ∈ Ls → b < L ∧ b ≠ B) :
    Boxed w1 B t v ∧ Boxed (w1.setCell ⟨B, 0, none⟩ v') B t v' ∧ (w1.setCell ⟨B, 0, none⟩ v').ownsRow L e size v' m ys ∧ KeepsFrom L W (w1.setCell ⟨B, 0, none⟩ v') ∧ KeepL n₀ Ls W (w1.setCell ⟨B, 0, none⟩ v') := by
  have base : ∀ {W : World} {v : Value} {k : Nat} {xs : List Value}, W.ownsRow L e size v k xs → ∀ g, v.ownBlock = some g → L ≤ g ∧ ∃ c, W.heap[g]? = some (.cells c e (0, 0)) := by
    intro W v k xs h g hg
    rcases h.2 with ⟨rfl, _⟩ | ⟨g', cap, cur, rfl, hb, hh, _⟩
    · simp [Value.ownBlock] at hg
    · obtain rfl : g' = g := by simpa [Value.ownBlock] using hg
      exact ⟨hb, cur, hh⟩
  have hne : some B ≠ v.ownBlock := fun e' => by have := (base hrow B e'.symm).1; omega
  have hne' : v'.ownBlock ≠ some B := fun e' => by have := (base hown' B e').1; omega
  have hv1 : Boxed w1 B t v := (hv.alloc tmp).kept hgrow hne
  refine ⟨hv1, hv1.set v', hown'.kept (grownBy_setCell' w1 B v') (.inr hne'), ?_, ?_⟩
  · refine ⟨by have := hgrow.size; simp at this ⊢; omega, fun j o hj ho hc => ?_⟩
    have h1 : (W.alloc tmp).heap[j]? = some o := (Below.heap_alloc W tmp j (Array.getElem?_eq_some_iff.1 ho).1).trans ho
    have h2 : w1.heap[j]? = some o := (hgrow.block j (Array.getElem?_eq_some_iff.1 h1).1 (fun e' => by
      obtain ⟨_, c, hh⟩ := base hrow j e'.symm
      rw [ho] at hh
      cases hh
      cases hc)).trans h1
    exact (Below.heap_setCell w1 ⟨B, 0, none⟩ v' j (by simp; omega)).trans h2
  · have k1 : KeepL n₀ Ls W (W.alloc tmp) := keepL_alloc (keepL_refl _ _ _) (by omega) tmp
    have k2 := keepL_grown k1 (by simp; omega) hgrow (fun g hg => ⟨by have := (base hrow g hg).1; omega, fun h => by have := (base hrow g hg).1; have := (hLs g h).1; omega⟩)
    exact keepL_set k2 (a := ⟨B, 0, none⟩) hn (fun h => (hLs B h).2 rfl) v'
/-- A loop whose measure stands in no slot. -/
theorem loopIn {Q : Exit → Act → World → Prop} {a : Act} {w : World} {c : Code} (I : Nat → Act → World → Prop) (n₀ : Nat) (h₀ : I n₀ a w)
    (round : ∀ k a w, I k a w → c.wpIn Fence.wide n P (Exit.then (fun a' w' => ∃ k', k' < k ∧ I k' a' w') Q) a w) : (Code.loop c).wpIn Fence.wide n P Q a w :=
  wpIn_wide.2 (wp_loop_ghost I n₀ h₀ fun k a w h => wpIn_wide.1 (round k a w h))
end Go.Proofs.Ytkfpmolplemdlaa.RangeG
