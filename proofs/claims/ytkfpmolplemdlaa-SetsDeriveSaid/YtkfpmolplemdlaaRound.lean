/- A region that draws its order, in a round of a range over a function: what holds of it in a plain function holds in the round (at the wide fence, where no operation defers). Own text, of no program. -/
import Derived.RangeFuncNested
import Derived.RangeFuncBound
import Derived.RangeFuncCalls
import Derived.RangeFuncLeaves
import Derived.RangeFuncBox
import Derived.Deep.Quiet
import Derived.StillTail
import Derived.OrdersIn
import Derived.Scope
import Derived.TacticsInMore
set_option linter.unusedVariables false
set_option linter.unusedSimpArgs false
namespace Go.Proofs.Ytkfpmolplemdlaa.Round
open Go Go.RowKit

section
variable {P : Program} {ops : Array Oper} {Q : Exit → Act → World → Prop} {l n : Nat}

/-- The same post, where running out of memory is no way out. -/
def Qn (Q : Exit → Act → World → Prop) : Exit → Act → World → Prop
  | .outgrown, _, _ => False
  | e, a, w => Q e a w
theorem not_letsOut : ¬ LetsOut (Qn Q) := fun ⟨_, _, h⟩ => h
@[go_sem] theorem Qn_normal (a : Act) (w : World) : Qn Q .normal a w = Q .normal a w := rfl

def deferless (ops : Array Oper) : Bool := ops.toList.all fun o => match o.op with | .defer _ => false | _ => true
theorem deferless_spec (h : deferless ops = true) {i : Nat} {o : Oper} (hi : ops[i]? = some o) : ∀ c, o.op ≠ .defer c := by
  intro c e
  have hm : o ∈ ops.toList := by
    obtain ⟨hlt, rfl⟩ := Array.getElem?_eq_some_iff.1 hi
    exact Array.getElem_mem_toList hlt
  have := List.all_eq_true.1 h o hm
  rw [e] at this
  cases this

theorem op_bridge {o : Oper} {a : Act} {w : World} {K K' : Act → World → Prop} (hd : ∀ c, o.op ≠ .defer c) (hK : ∀ a w, K a w → K' a w) (h : o.wp P a w K (Qn Q)) : o.wpIn (Fence.wide.inRound l) n P a w K' Q := by
  refine ⟨fun _ _ => trivial, ?_⟩
  show o.uponIn _ n P a K' Q ((o.semAt (some l) a.eval).run P w)
  rw [Oper.semAt_eq _ _ _ hd]
  unfold Oper.wp at h
  generalize (execOp a.eval o).run P w = r at *
  have post : ∀ e w'', (match e, w'' with
      | Ending.returned v, w'' => K (a.put o.dst v) w''
      | Ending.panicked chain, w'' => Qn Q (.panic chain) a w''
      | Ending.outgrown, _ => LetsOut (Qn Q)) → (match e, w'' with
      | Ending.returned v, w'' => K' (a.put o.dst v) w''
      | Ending.panicked chain, w'' => Q (.panic chain) a w''
      | Ending.outgrown, _ => LetsOut Q) := by
    intro e w'' he
    cases e with
    | returned v => exact hK _ _ he
    | panicked chain => exact he
    | outgrown => exact absurd he not_letsOut
  cases r with
  | ok x w' =>
    cases x with
    | value v => exact hK _ _ h
    | skip => exact hK _ _ h
    | defer d => exact hK _ _ h
    | enter f args => exact ⟨(fun e => by cases e), CallsIn.inRound l (callsIn_wide.2 (Calls.mono h post))⟩
    | row row args => exact ⟨(fun e => by cases e), fun c cs _ => let ⟨v, w', r, s⟩ := h c cs; ⟨v, w', hK _ _ r, stepsIn_wide.2 s⟩⟩
    | _ => exact False.elim h
  | halt x w' =>
    cases x with
    | panic v => exact h
    | _ => exact False.elim h

theorem any_bridge (hd : deferless ops = true) {md : Region.Mode} : ∀ (fuel : Nat) (listed : Array Bool) (a : Act) (w : World), wpAny P md ops (Qn Q) fuel listed a w → wpAnyIn (Fence.wide.inRound l) n P md ops Q fuel listed a w
  | 0, _, _, _, h => h
  | fuel + 1, listed, a, w, h => by
    refine ⟨h.1, fun i hi => ?_⟩
    have hw := h.2 i hi
    unfold wpOp at hw
    unfold wpOpIn
    cases ho : ops[i]? with
    | none =>
      rw [ho] at hw
      exact any_bridge hd fuel _ _ _ hw
    | some o =>
      rw [ho] at hw
      simp only at hw ⊢
      split
      · rename_i c
        rw [if_pos c] at hw
        rcases hw with hw | ⟨_, hw⟩
        · exact op_bridge (deferless_spec hd ho) (fun a w h => any_bridge hd fuel _ a w h) hw
        · exact absurd hw not_letsOut
      · rename_i c
        rw [if_neg c] at hw
        exact ⟨fun _ _ => trivial, any_bridge hd fuel _ _ _ hw⟩

theorem wpIn_region_round {id : Nat} {a : Act} {w : World} (hm : P.follows .mixedOrders = true) (hd : deferless ops = true)
    (h : wpAny P .any ops (Qn Q) ops.size (Array.replicate ops.size false) a { w with drawn := w.drawn + 1 }) : (Code.region id ops true).wpIn (Fence.wide.inRound l) n P Q a w :=
  wpIn_region_any hm (any_bridge hd _ _ _ _ h)

theorem round_quiet {id : Nat} {C : World → Prop} {a : Act} {w : World} (hm : P.follows .mixedOrders = true) (hd : deferless ops = true) (hB : Region.lexB .any ops = true) (hC : C { w with drawn := w.drawn + 1 })
    (h : wpQuiet P ops C (fun a' => ∀ w', C w' → Q .normal a' w') ops.toList a) : (Code.region id ops true).wpIn (Fence.wide.inRound l) n P Q a w := by
  simp only [Region.lexB, Bool.and_eq_true] at hB
  refine wpIn_region_round hm hd (wpAny_of_quiet (Q := fun a' => ∀ w', C w' → Q .normal a' w') (Q' := Qn Q) (fun _ w' hw' h => h w' hw') _ _ _ _ hC ?_)
  have := wpAnyQ_lex (C := C) (md := .any) hB.1 ops.toList 0 (Array.replicate ops.size false) a (by simp) (by simpa using hB.2) h
  simpa using this
/-- A region that only reads. -/
theorem round_quiet_lit {id : Nat} {a : Act} {w : World} {ol : List Oper} (hm : P.follows .mixedOrders = true) (hd : deferless ol.toArray = true) (hB : Region.lexB .any ol.toArray = true)
    (h : wpQuiet P ol.toArray (fun w' => ∃ n, w' = w.drewN n) (fun a' => ∀ w', (∃ n, w' = w.drewN n) → Q .normal a' w') ol a) : (Code.region id ol.toArray true).wpIn (Fence.wide.inRound l) n P Q a w :=
  round_quiet (C := fun w' => ∃ n, w' = w.drewN n) hm hd hB ⟨1, rfl⟩ (by simpa using h)
/-- A region that reads, and then does the rest (from operation m on) in the text's order. -/
theorem round_still_tail {id : Nat} {a : Act} {w : World} {ol : List Oper} (m : Nat) (hm : P.follows .mixedOrders = true) (hd : deferless ol.toArray = true) (hB : Region.lexTailB .any ol.toArray m = true)
    (h : wpStill P ol.toArray { w with drawn := w.drawn + 1 } (fun a' => wpList P ol.toArray (Qn Q) (ol.drop m) a' { w with drawn := w.drawn + 1 }) (ol.take m) a) : (Code.region id ol.toArray true).wpIn (Fence.wide.inRound l) n P Q a w := by
  simp only [Region.lexTailB, Bool.and_eq_true, decide_eq_true_eq] at hB
  obtain ⟨⟨⟨⟨hsel, hn⟩, hs⟩, hc⟩, hlex⟩ := hB
  have hn' : m < ol.length := by simpa using hn
  have htl : (ol.take m).length = m := by simp; omega
  have hdl : (ol.drop m).length = ol.toArray.size - m := by simp
  have inv0 : HeadInv .any ol.toArray m (Array.replicate ol.toArray.size false) :=
    ⟨by simp, fun j oj _ hl => (by rw [getD_replicate_false] at hl; cases hl), fun t _ ht => getD_in (by simpa using ht) (getD_replicate_false _ _)⟩
  have H := wpAnyL_lex (md := .any) (g := ol.toArray.size - m) hsel hs hc hn (ol.take m) 0 _ a (fun j hj => by
    have hj' : j < m := by rw [htl] at hj; exact hj
    simp [hj']) (by simpa using htl) inv0 (by rw [htl]; exact hlex) h
  refine wpIn_region_round hm hd ?_
  have := wpAny_of_head (Q' := Qn Q) (g := ol.toArray.size - m) (fun listed a' hL => by
    have := wpAny_of_seq (md := .any) (Q' := Qn Q) (ol.drop m) m listed a' { w with drawn := w.drawn + 1 } (fun j => by simp [List.getElem?_drop]) (by rw [hdl]; exact hL.1) hL.2
    rwa [hdl] at this) _ _ _ H
  rw [htl, show m + (ol.toArray.size - m) = ol.toArray.size by omega] at this
  exact this

/-! ### small words for loops over iterators -/
/-- What a round that goes on keeps: one cell. -/
def KeepsCell (B : Nat) (W W' : World) : Prop := ∀ v, W.cell? ⟨B, 0, none⟩ = some v → W'.cell? ⟨B, 0, none⟩ = some v
theorem keepsCell_b {w : World} {Bs : Nat} (hb : Bs < w.heap.size) (W : World) (l : Nat) (o o' : Obj) (hl : w.heap.size ≤ l) (_ : W.heap[l]? = some o) (_ : o.isCells = false) (_ : o.isWalk = false) : KeepsCell Bs W (W.putObj l o') := by
  intro v hv
  have e : (W.putObj l o').heap[Bs]? = W.heap[Bs]? := World.putObj_heap_other (by omega)
  unfold World.cell? at hv ⊢
  rw [e]
  exact hv
theorem keepsCell_t {Bs : Nat} {A B C : World} (h : KeepsCell Bs A B) (k : KeepsCell Bs B C) : KeepsCell Bs A C := fun v hv => k v (h v hv)
theorem keepsCell_set {Bs B : Nat} {W : World} (hne : Bs ≠ B) (v : Value) : KeepsCell Bs W (W.setCell ⟨B, 0, none⟩ v) := by
  intro u hu
  have e : (W.setCell ⟨B, 0, none⟩ v).heap[Bs]? = W.heap[Bs]? := Below.heap_setCell _ _ _ _ hne
  unfold World.cell? at hu ⊢
  rw [e]
  exact hu
theorem keepsCell_refl (Bs : Nat) (W : World) : KeepsCell Bs W W := fun _ h => h
theorem keepsCell_drewN (Bs : Nat) (W : World) (n : Nat) : KeepsCell Bs W (W.drewN n) := fun v h => by
  rw [← h]
  unfold World.cell? World.drewN
  rfl
theorem own_cells {β : Type} (b : Nat) (c : β → Array Value) (t : TypeId) (fr : Nat × Nat) : Own (fun (s : β) W => W.heap[b]? = some (.cells (c s) t fr)) := fun s X Y row hs hg hrow =>
  (hg.block b (Array.getElem?_eq_some_iff.1 hs).1 (fun e' => by obtain ⟨o, ho, hc⟩ := hrow b e'.symm; rw [hs] at ho; cases ho; cases hc)).trans hs
/-- .. of one state. -/
theorem own_cells1 {b : Nat} {c : Array Value} {t : TypeId} {fr : Nat × Nat} {X Y : World} {row : Option Nat} (hs : X.heap[b]? = some (.cells c t fr)) (hg : X.grownBy Y row) (hrow : ∀ r, row = some r → ∃ o : Obj, X.heap[r]? = some o ∧ o.isCells = false) : Y.heap[b]? = some (.cells c t fr) :=
  own_cells b (fun (_ : Unit) => c) t fr () X Y row hs hg hrow
theorem boxed_far {W : World} {B B' : Nat} {t : TypeId} {v : Value} (h : Boxed W B t v) (hne : B ≠ B') (u : Value) : Boxed (W.setCell ⟨B', 0, none⟩ u) B t v := (Below.heap_setCell _ _ _ _ hne).trans h
theorem boxed_drewN {W : World} {B : Nat} {t : TypeId} {v : Value} (h : Boxed W B t v) (n : Nat) : Boxed (W.drewN n) B t v := h
theorem block_far {W : World} {B B' : Nat} {o : Obj} (h : W.heap[B]? = some o) (hne : B ≠ B') (u : Value) : (W.setCell ⟨B', 0, none⟩ u).heap[B]? = some o := (Below.heap_setCell _ _ _ _ hne).trans h
/-- What lies below n₀, and one box, stay. -/
def Keeps2 (n₀ B : Nat) (W W' : World) : Prop := Below n₀ W W' ∧ KeepsCell B W W'
theorem keeps2_t {n₀ Bs : Nat} {A B C : World} (h : Keeps2 n₀ Bs A B) (k : Keeps2 n₀ Bs B C) : Keeps2 n₀ Bs A C := ⟨h.1.trans k.1, keepsCell_t h.2 k.2⟩
theorem keeps2_b {w : World} {n₀ Bs : Nat} (hn : n₀ ≤ w.heap.size) (hb : Bs < w.heap.size) (W : World) (l : Nat) (o o' : Obj) (hl : w.heap.size ≤ l) (h : W.heap[l]? = some o) (h1 : o.isCells = false) (h2 : o.isWalk = false) : Keeps2 n₀ Bs W (W.putObj l o') :=
  ⟨belowK_b hn W l o o' hl h h1 h2, keepsCell_b hb W l o o' hl h h1 h2⟩
theorem keeps2_refl (n₀ Bs : Nat) (W : World) : Keeps2 n₀ Bs W W := ⟨Below.refl _ _, keepsCell_refl _ _⟩
theorem keepsCell_alloc (Bs : Nat) (W : World) (o : Obj) : KeepsCell Bs W (W.alloc o) := by
  intro v h
  have hlt := World.block_lt_of_cell? W _ h
  have e : (W.alloc o).heap[Bs]? = W.heap[Bs]? := Below.heap_alloc _ _ _ hlt
  unfold World.cell? at h ⊢
  rw [e]
  exact h
theorem keeps2_alloc {n₀ Bs : Nat} {A W : World} (h : Keeps2 n₀ Bs A W) (hn : n₀ ≤ W.heap.size) (o : Obj) : Keeps2 n₀ Bs A (W.alloc o) := ⟨h.1.alloc hn o, keepsCell_t h.2 (keepsCell_alloc _ _ _)⟩
theorem keeps2_set {n₀ Bs : Nat} {A W : World} (h : Keeps2 n₀ Bs A W) {B : Nat} (hn : n₀ ≤ B) (hne : Bs ≠ B) (v : Value) : Keeps2 n₀ Bs A (W.setCell ⟨B, 0, none⟩ v) := ⟨h.1.setCell (p := ⟨B, 0, none⟩) hn v, keepsCell_t h.2 (keepsCell_set hne v)⟩
theorem keeps2_drew {n₀ Bs : Nat} {A W : World} (h : Keeps2 n₀ Bs A W) : Keeps2 n₀ Bs A W.drew := ⟨⟨h.1.os, h.1.tape, h.1.output, h.1.size, h.1.block⟩, h.2⟩
end
end Go.Proofs.Ytkfpmolplemdlaa.Round
