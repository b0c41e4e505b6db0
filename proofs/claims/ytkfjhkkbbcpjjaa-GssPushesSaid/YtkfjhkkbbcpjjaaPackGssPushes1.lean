import Derived.Below
import Derived.Deep.Draws
import Derived.Deep.AppendLies
import Derived.Maps.AppendAt
import Derived.OwnWalk
import Derived.Laws.BytesArg
import Derived.Laws.MakeOwn
import Derived.Laws.OwnMore
import Derived.Deep.OwnRows
import Derived.Tactics
import Derived.Lib.ConvBytes
import Derived.Laws.Slices
import Derived.WalkKit
import Derived.KernelRfl
import Derived.RowKit3
import Derived.Deep.LoopGhost
import Derived.Deep.QuietTactic
import Derived.BigQuiet
import Derived.WideLaws
import Derived.Deep.DeepCutAuto
import Derived.Deep.CutBlock
import Derived.Deep.RegionHeld3
import Derived.Laws.Rows
import Derived.Lib.AppendStr
import Derived.ArgAppend
import Derived.Laws.IdiomCopy
import Derived.RowKit
import Derived.OrdersHeld
import Derived.Laws.BitsLemmas
import Derived.Laws.StructEq
import Derived.Maps.OwnIn
import Derived.Maps.OwnSet
import Derived.Maps.Ext
import Derived.RangeFuncNested
import Derived.RangeFuncBound
import Derived.RangeFuncCalls
import Derived.RangeFuncLeaves
import Derived.RangeFuncBox
import Derived.Deep.Quiet
import Derived.StillTail
import Derived.OrdersIn
import Derived.Scope
import Derived.TacticsInMore
import Derived.Test.YtkfjhkkbbcpjjaaProg
import Derived.Maps.Keyed
import Derived.Maps.RangeWalk
import Derived.DeepKeys4
import Derived.Lib.Hide
import Derived.Shelf.SlGeneric
import Derived.Shelf.SlSortCmp.WholeK
import Derived.Ground.SlsfProg
import Derived.Shelf.GgSortFunc.InsertionK
import Derived.Shelf.SlSortCmp.NoneTotal
import Derived.Sort.AssemblyPlain
set_option linter.unusedVariables false
set_option linter.unusedSimpArgs false
set_option maxRecDepth 100000
set_option maxHeartbeats 8000000
namespace Go.Proofs
abbrev Yt : Bool := true
abbrev Nf : Bool := false
def Ymk (n m : Nat) : Array Bool := ((List.range n).map fun i => m.testBit i).toArray
theorem Y1 {α : Type _} (l : List α) (i : Nat) (v : α) : l.toArray.setIfInBounds i v = (l.set i v).toArray := List.setIfInBounds_toArray _ _ _
theorem Y2 {α : Type _} {a b : α} {t : List α} : (a :: t).set 0 b = b :: t := List.set_cons_zero
theorem Y3 {α : Type _} {a b : α} {t : List α} {n : Nat} : (a :: t).set (n + 1) b = a :: t.set n b := List.set_cons_succ
end Go.Proofs
section
namespace Go.Proofs.ZW.PrintWords
open Go.RowKit
structure zab (p : Prop) : Prop where mk :: (out : p)
structure zbc (w w' : World) : Prop where mk :: (out : ∃ n, w' = w.drewN n)
theorem zbc.refl (w : World) : zbc w w := ⟨⟨0, rfl⟩⟩
theorem zbc.step {w w' : World} (h : zbc w w') (n : Nat) : zbc w (w'.drewN n) := by
  obtain ⟨m, rfl⟩ := h
  exact ⟨⟨m + n, World.drewN_drewN ..⟩⟩
theorem zbc.below {w w' : World} (h : zbc w w') : Below w.heap.size w w' := by
  obtain ⟨n, rfl⟩ := h
  induction n with
  | zero => exact Below.refl _ _
  | succ n ih => rw [← World.drew_drewN]; exact ih.drew
def rd (xs : List Int) (i : Int) : Int := xs.getD i.toNat 0
def bt (s : ByteArray) (i : Int) : Int := if h : i.toNat < s.size then ((s[i.toNat]'h).toNat : Int) else 0
def nums (k : IntKind) (xs : List Int) : List Value := xs.map fun x => .int k x
theorem za8 {w W : World} (h : Below w.heap.size w W) (o : Obj) : Below w.heap.size w (W.alloc o) := h.alloc h.size o
theorem zb7 {B : Nat} {w W : World} (h : Below B w W) : Below B w W.drew := ⟨h.os, h.tape, h.output, h.size, h.block⟩
theorem za2 {B : Nat} {w W : World} (h : Below B w W) (n : Nat) : Below B w (W.drewN n) := ⟨h.os, h.tape, h.output, h.size, h.block⟩
theorem below_then {B : Nat} {w w1 w2 : World} (h : Below B w w1) (hB : B ≤ w1.heap.size) (k : Below w1.heap.size w1 w2) : Below B w w2 :=
  h.trans ⟨k.os, k.tape, k.output, k.size, fun i hi => k.block i (Nat.lt_of_lt_of_le hi hB)⟩
theorem zai {w w1 : World} (h : Below w.heap.size w w1) {a : Addr} {v : Value} (hc : w.cell? a = some v) : w1.cell? a = some v := (h.cell (World.block_lt_of_cell? w a hc)).trans hc
theorem add_plain (g j : Nat) : (⟨g, 0, none⟩ : Addr).add j = ⟨g, j, none⟩ := by unfold Addr.add; split <;> simp_all
def ReadsInt (w : World) (k : IntKind) (A : Option Addr) (n : Nat) (xs : List Int) : Prop :=
  xs.length = n ∧ n ≤ 9223372036854775807 ∧ (0 < n → ∃ ad, A = some ad ∧ ∀ j, j < n → w.cell? (ad.add j) = some (.int k (xs.getD j 0)))
theorem ReadsInt.at_ {w : World} {k : IntKind} {A : Option Addr} {n : Nat} {xs : List Int} (h : ReadsInt w k A n xs) (i : Int) (h0 : 0 ≤ i) (h1 : i < n) : ∃ ad, A = some ad ∧ w.cell? (ad.add i.toNat) = some (.int k (rd xs i)) := by
  obtain ⟨ad, e, hc⟩ := h.2.2 (by omega)
  exact ⟨ad, e, hc _ (by omega)⟩
theorem own_nil (W : World) (base : Nat) (e : TypeId) (size : Nat) : W.ownsRow base e size (.slice none 0 0) 0 [] := ⟨by simp, .inl ⟨rfl, rfl⟩⟩
theorem zck {w : World} {base : Nat} {e : TypeId} {size n : Nat} {v : Value} {xs : List Value} (h : w.ownsRow base e size v n xs) (k : Nat) (hk : v.ownBlock = some k) : base ≤ k := by
  rcases h.2 with ⟨rfl, _⟩ | ⟨g, cap, cur, rfl, hb, _⟩
  · simp [Value.ownBlock] at hk
  · have : g = k := by simpa [Value.ownBlock] using hk
    omega
theorem zdz {w : World} {base : Nat} {e : TypeId} {size n : Nat} {v : Value} {xs : List Value} (h : w.ownsRow base e size v n xs) (k : Nat) (hk : v.ownBlock = some k) : k < w.heap.size := by
  rcases h.2 with ⟨rfl, _⟩ | ⟨g, cap, cur, rfl, hb, hh, _⟩
  · simp [Value.ownBlock] at hk
  · have : g = k := by simpa [Value.ownBlock] using hk
    subst this
    exact (Array.getElem?_eq_some_iff.1 hh).1
theorem own_slice {w : World} {base n : Nat} {e : TypeId} {size : Nat} {v : Value} {xs : List Value} (h : w.ownsRow base e size v n xs) : ∃ A c, v = .slice A n c := by
  rcases h.2 with ⟨rfl, rfl⟩ | ⟨g, cap, cur, rfl, _⟩
  · exact ⟨none, 0, rfl⟩
  · exact ⟨_, cap, rfl⟩
section
variable {P : Program} {ops : Array Oper} {rest : List Oper} {o : Oper} {a : Act} {Q : Exit → Act → World → Prop}
end
section
variable {P : Program}
end
section
variable {P : Program} {ops : Array Oper} {rest : List Oper} {o : Oper} {a : Act} {Q : Exit → Act → World → Prop}
end
def bytesOf (s : ByteArray) : List Int := s.data.toList.map fun b => (b.toNat : Int)
def Reps {α : Type} (R : α → List Value → Prop) (size : Nat) (ps : List α) (cs : List Value) : Prop :=
  cs.length = ps.length * size ∧ ∀ j p, ps[j]? = some p → R p ((cs.drop (j * size)).take size)
theorem Reps.none {α : Type} (R : α → List Value → Prop) (size : Nat) : Reps R size [] [] := ⟨by simp, fun j p h => by simp at h⟩
theorem Reps.snoc {α : Type} {R : α → List Value → Prop} {size : Nat} {ps : List α} {cs c : List Value} {p : α} (h : Reps R size ps cs) (hp : R p c) (hc : c.length = size) : Reps R size (ps ++ [p]) (cs ++ c) := by
  refine ⟨by rw [List.length_append, h.1, hc, List.length_append, List.length_singleton, Nat.add_mul, Nat.one_mul], fun j q hq => ?_⟩
  rcases Nat.lt_or_ge j ps.length with hj | hj
  · rw [List.getElem?_append_left hj] at hq
    have h1 : j * size + size ≤ cs.length := by rw [h.1, ← Nat.succ_mul]; exact Nat.mul_le_mul_right _ hj
    have h2 := h.2 j q hq
    rw [List.drop_append_of_le_length (by omega), List.take_append_of_le_length (by rw [List.length_drop]; omega)]
    exact h2
  · have hj' : j = ps.length := by
      have := (List.getElem?_eq_some_iff.1 hq).1
      rw [List.length_append, List.length_singleton] at this
      omega
    subst hj'
    have hq' : p = q := by simpa using hq
    subst hq'
    rw [← h.1, List.drop_left, ← hc, List.take_length]
    exact hp
theorem Reps.imp_ {α : Type} {R R' : α → List Value → Prop} {size : Nat} {ps : List α} {cs : List Value} (h : Reps R size ps cs) (hR : ∀ p c, R p c → R' p c) : Reps R' size ps cs := ⟨h.1, fun j p hj => hR _ _ (h.2 j p hj)⟩
def zb2 {α : Type} (R : α → List Value → Prop) (size : Nat) (w : World) (A : Option Addr) (n : Nat) (ps : List α) : Prop :=
  ps.length = n ∧ n ≤ 9223372036854775807 ∧ (0 < n → ∃ ad, A = some ad ∧ ∀ j p, ps[j]? = some p → ∃ c, c.length = size ∧ R p c ∧ ∀ i u, c[i]? = some u → w.cell? (ad.add (j * size + i)) = some u)
theorem zb2.get_ {α : Type} {R : α → List Value → Prop} {size : Nat} {w : World} {A : Option Addr} {n : Nat} {ps : List α} (h : zb2 R size w A n ps) (d : α) (i : Int) (h0 : 0 ≤ i) (h1 : i < n) :
    ∃ ad c, A = some ad ∧ c.length = size ∧ R (ps.getD i.toNat d) c ∧ ∀ j u, c[j]? = some u → w.cell? (ad.add (i.toNat * size + j)) = some u := by
  obtain ⟨ad, e, hc⟩ := h.2.2 (by omega)
  have hl : i.toNat < ps.length := by have := h.1; omega
  obtain ⟨c, hs, hr, hcell⟩ := hc i.toNat _ (List.getElem?_eq_getElem hl)
  refine ⟨ad, c, e, hs, ?_, hcell⟩
  rw [List.getD_eq_getElem?_getD, List.getElem?_eq_getElem hl]
  exact hr
theorem zb2.imp_ {α : Type} {R R' : α → List Value → Prop} {size : Nat} {w w1 : World} {A : Option Addr} {n : Nat} {ps : List α} (h : zb2 R size w A n ps) (hb : Below w.heap.size w w1) (hR : ∀ p c, R p c → R' p c) : zb2 R' size w1 A n ps :=
  ⟨h.1, h.2.1, fun hn => by
    obtain ⟨ad, e, hc⟩ := h.2.2 hn
    refine ⟨ad, e, fun j p hj => ?_⟩
    obtain ⟨c, hs, hr, hcell⟩ := hc j p hj
    exact ⟨c, hs, hR _ _ hr, fun i u hu => zai hb (hcell i u hu)⟩⟩
theorem ziv {α : Type} {R : α → List Value → Prop} {w : World} {base n size : Nat} {e : TypeId} {v : Value} {ps : List α} {cs : List Value} (h : w.ownsRow base e size v n cs) (hR : Reps R size ps cs) (hn : ps.length = n) :
    ∃ A c, v = .slice A n c ∧ zb2 R size w A n ps := by
  rcases Nat.eq_zero_or_pos n with h0 | h0
  · rcases h.2 with ⟨rfl, rfl⟩ | ⟨g, cap, cur, rfl, _⟩
    · exact ⟨none, 0, rfl, hn, by omega, fun hp => absurd hp (by omega)⟩
    · exact ⟨_, cap, rfl, hn, by omega, fun hp => absurd hp (by omega)⟩
  · obtain ⟨g, cap, rfl, _, _⟩ := h.form h0
    have hm : n ≤ 9223372036854775807 := by
      rcases h.2 with ⟨_, h1⟩ | ⟨g', cap', cur, he, _, _, h1, h2, _⟩
      · omega
      · simp only [maxLen] at h2
        omega
    refine ⟨_, cap, rfl, hn, hm, fun _ => ⟨_, rfl, fun j p hj => ⟨(cs.drop (j * size)).take size, ?_, hR.2 j p hj, fun i u hu => ?_⟩⟩⟩
    · have hjl := (List.getElem?_eq_some_iff.1 hj).1
      have h1 : j * size + size ≤ cs.length := by rw [hR.1, ← Nat.succ_mul]; exact Nat.mul_le_mul_right _ hjl
      rw [List.length_take, List.length_drop]
      omega
    · refine h.cells (g := g) rfl _ u ?_
      rw [List.getElem?_take] at hu
      split at hu
      · rw [List.getElem?_drop] at hu
        exact hu
      · cases hu
theorem zb0 (ad : Addr) (m j : Nat) (hj : 0 < j) : ad.add (m + j) = ⟨(ad.add m).block, (ad.add m).off + j, none⟩ := by
  unfold Addr.add
  by_cases hm : m = 0
  · subst hm
    simp [Nat.ne_of_gt hj]
  · simp [hm, Nat.add_assoc]
section
variable {P : Program} {ops : Array Oper} {rest : List Oper} {o : Oper} {a : Act} {Q : Exit → Act → World → Prop}
theorem zg3 {w0 W : World} (base : Nat) (hgd : o.guard = none) (s x : Operand) (t e : TypeId) (z : Value) (size bytes : Nat)
    (ho : o.op = .call { callee := .builtin .append, args := #[s, x], argTypes := #[t, t] })
    (ht : P.underlying t = some (.slice e)) (hinfo : (P.info? e).map (fun i => (i.zero, i.size, i.bytes)) = some (some z, size, bytes)) (hz : z.cells.size = size) (hs0 : 0 < size) (hb0 : 0 < bytes)
    (v : Value) (n : Nat) (xs ys : List Value) (hs : a.eval s = v) (hx : a.eval x = .slice (some ⟨W.heap.size, 0, none⟩) 1 1) (hys : ys.length = size) (h1 : ∀ u ∈ ys, u.oneCell' = true)
    (HO : W.ownsRow base e size v n xs) (HB : Below base w0 W) (hbase : base ≤ W.heap.size) (hl : (n + 1) * bytes ≤ 140737488355328)
    (h : ∀ v1 w1, w1.ownsRow base e size v1 (n + 1) (xs ++ ys) → Below base w0 w1 → W.grownBy w1 v.ownBlock → (v1.ownBlock = v.ownBlock ∨ ∃ b, v1.ownBlock = some b ∧ W.heap.size ≤ b) → wpList P ops Q rest (a.put o.dst v1) w1) :
    wpList P ops Q (o :: rest) a (W.alloc (.cells ys.toArray e)) := by
  obtain ⟨i0, hi, hzz⟩ := Option.map_eq_some_iff.1 hinfo
  simp only [Prod.mk.injEq] at hzz
  obtain ⟨hz0, hz1, hz2⟩ := hzz
  have hlen : n + 1 ≤ 140737488355328 := Nat.le_trans (Nat.le_mul_of_pos_right _ hb0) hl
  refine wpList_append_own_at (W.alloc (.cells ys.toArray e)) hgd s x t ho base e i0 z size bytes ht hi hz0 hz1 hz2 hz hs0 v n xs hs (HO.alloc _) ⟨W.heap.size, 0, none⟩ 1 1 ys hx (by rw [hys]; simp)
    (by simpa using World.news_of_block (cs := ys.toArray) (t := e) (fr := (0, 0)) (heap_alloc_new W (.cells ys.toArray e))) h1 (by simp only [maxLen]; omega) hl (by simp; omega) ?_
  intro v1 w1 hown hg _ hat
  refine h v1 w1 hown ((HB.alloc hbase _).grown hg (by simp; omega) (zck HO)) (World.grownBy.trans (World.grownBy_alloc W _ _) hg) ?_
  rcases hat with hat | hat
  · exact .inl hat
  · exact .inr ⟨_, hat, by simp⟩
end
theorem own_ne {w : World} {base : Nat} {e t : TypeId} {size n g : Nat} {v : Value} {xs : List Value} {cs : Array Value} (h : w.ownsRow base e size v n xs) (hg : w.heap[g]? = some (.cells cs t (0, 0))) (hne : e ≠ t) : some g ≠ v.ownBlock := by
  rcases h.2 with ⟨rfl, _⟩ | ⟨g', cap, cur, rfl, _, hh, _⟩
  · simp [Value.ownBlock]
  · intro he
    have : g = g' := by simpa [Value.ownBlock] using he
    subst this
    rw [hg] at hh
    injection hh with hh
    injection hh with _ ht
    exact hne ht.symm
theorem blk_set {w : World} {g : Nat} {t : TypeId} {cs : Array Value} (h : w.heap[g]? = some (.cells cs t (0, 0))) (i : Nat) (u : Value) : (w.setCell ⟨g, i, none⟩ u).heap[g]? = some (.cells (cs.setIfInBounds i u) t (0, 0)) := by
  simp [World.setCell, Array.getElem?_modify, h]
theorem zaj {w : World} {g : Nat} {t : TypeId} {cs : Array Value} (h : w.heap[g]? = some (.cells cs t (0, 0))) {p : Addr} (hp : g ≠ p.block) (u : Value) : (w.setCell p u).heap[g]? = some (.cells cs t (0, 0)) := (Below.heap_setCell w p u g hp).trans h
theorem zbj {w : World} {g : Nat} {o : Obj} (h : w.heap[g]? = some o) : g < w.heap.size := (Array.getElem?_eq_some_iff.1 h).1
theorem zaf {w : World} {g : Nat} {t : TypeId} {cs : Array Value} (h : w.heap[g]? = some (.cells cs t (0, 0))) (i : Nat) : w.cell? ⟨g, i, none⟩ = cs[i]? := cell_of_row w g i cs t (0, 0) h
theorem zbr {w : World} {g : Nat} {t : TypeId} {cs : Array Value} (h : w.heap[g]? = some (.cells cs t (0, 0))) (i : Nat) : w.frozen? ⟨g, i, none⟩ = false := by simp [World.frozen?, h]
theorem zbm {w w1 : World} {g : Nat} {o : Obj} {row : Option Nat} (h : w.heap[g]? = some o) (hg : w.grownBy w1 row) (hne : some g ≠ row) : w1.heap[g]? = some o := (hg.block g (zbj h) hne).trans h
def zhe (w w' : World) (g : Nat) (row : Option Nat) : Prop := w.heap.size ≤ w'.heap.size ∧ ∀ i, i < w.heap.size → i ≠ g → some i ≠ row → w'.heap[i]? = w.heap[i]?
theorem zhe.trans {w w1 w2 : World} {g : Nat} {row row1 : Option Nat} (h : zhe w w1 g row) (k : zhe w1 w2 g row1) (hr : row1 = row ∨ ∃ b, row1 = some b ∧ w.heap.size ≤ b) : zhe w w2 g row :=
  ⟨Nat.le_trans h.1 k.1, fun i hi hg hn => by
    refine (k.2 i (Nat.lt_of_lt_of_le hi h.1) hg ?_).trans (h.2 i hi hg hn)
    rcases hr with rfl | ⟨b, rfl, hb⟩
    · exact hn
    · intro e
      injection e with e
      omega⟩
def Ev {α : Type} (g : Nat → Option α) (r : α) : Prop := ∃ K, ∀ k, K ≤ k → g k = some r
theorem Ev.now {α : Type} (r : α) : Ev (fun _ => some r) r := ⟨0, fun _ _ => rfl⟩
theorem Ev.rounds {α : Type} {g : Nat → Option α} {r : α} (h : Ev g r) : ∃ k, g k = some r := by
  obtain ⟨K, h⟩ := h
  exact ⟨K, h K (Nat.le_refl _)⟩
theorem Ev.bind {α β : Type} {g : Nat → Option α} {f : Nat → α → Option β} {a : α} {r : β} (h : Ev g a) (k : Ev (fun n => f n a) r) : Ev (fun n => (g n).bind (f n)) r := by
  obtain ⟨K, h⟩ := h
  obtain ⟨K', k⟩ := k
  refine ⟨max K K', fun n hn => ?_⟩
  have h1 := h n (by omega)
  have h2 := k n (by omega)
  simp only [h1, Option.bind_some]
  exact h2
theorem Ev.step {α : Type} {g f : Nat → Option α} {r : α} (h : ∀ k, g (k + 1) = f k) (k : Ev f r) : Ev g r := by
  obtain ⟨K, k⟩ := k
  refine ⟨K + 1, fun n hn => ?_⟩
  obtain ⟨m, rfl⟩ : ∃ m, n = m + 1 := ⟨n - 1, by omega⟩
  rw [h]
  exact k m (by omega)
theorem Ev.congr {α : Type} {g f : Nat → Option α} {r : α} (h : ∀ k, g k = f k) (k : Ev f r) : Ev g r := by
  obtain ⟨K, k⟩ := k
  exact ⟨K, fun n hn => (h n).trans (k n hn)⟩
section
variable {P : Program} {ops : Array Oper} {o : Oper} {a : Act} {Q : Exit → Act → World → Prop} {K : Act → World → Prop}
theorem zhk {w0 W : World} (base : Nat) (hw : Region.wanted o (yielded ops a.tmps) = true) (s x : Operand) (t e : TypeId) (z : Value) (size bytes : Nat)
    (ho : o.op = .call { callee := .builtin .append, args := #[s, x], argTypes := #[t, t] })
    (ht : P.underlying t = some (.slice e)) (hinfo : (P.info? e).map (fun i => (i.zero, i.size, i.bytes)) = some (some z, size, bytes)) (hz : z.cells.size = size) (hs0 : 0 < size) (hb0 : 0 < bytes)
    (v : Value) (n : Nat) (xs ys : List Value) (hs : a.eval s = v) (hx : a.eval x = .slice (some ⟨W.heap.size, 0, none⟩) 1 1) (hys : ys.length = size) (h1 : ∀ u ∈ ys, u.oneCell' = true)
    (HO : W.ownsRow base e size v n xs) (HB : Below base w0 W) (hbase : base ≤ W.heap.size) (hl : (n + 1) * bytes ≤ 140737488355328)
    (h : ∀ v1 w1, w1.ownsRow base e size v1 (n + 1) (xs ++ ys) → Below base w0 w1 → W.grownBy w1 v.ownBlock → (v1.ownBlock = v.ownBlock ∨ ∃ b, v1.ownBlock = some b ∧ W.heap.size ≤ b) → K (a.put o.dst v1) w1) :
    if Region.wanted o (yielded ops a.tmps) = true then Oper.wp P o a (W.alloc (.cells ys.toArray e)) K Q else K (a.put o.dst undef) (W.alloc (.cells ys.toArray e)) := by
  obtain ⟨i0, hi, hzz⟩ := Option.map_eq_some_iff.1 hinfo
  simp only [Prod.mk.injEq] at hzz
  obtain ⟨hz0, hz1, hz2⟩ := hzz
  have hlen : n + 1 ≤ 140737488355328 := Nat.le_trans (Nat.le_mul_of_pos_right _ hb0) hl
  rw [if_pos hw]
  obtain ⟨v1, w1, hr, hown, hg, _, hat⟩ := run_append_own_at (P := P) (W.alloc (.cells ys.toArray e)) base t o.type e i0 z size bytes ht hi hz0 hz1 hz2 hz hs0 v n xs (HO.alloc _) ⟨W.heap.size, 0, none⟩ 1 1 ys (by rw [hys]; simp)
    (by simpa using World.news_of_block (cs := ys.toArray) (t := e) (fr := (0, 0)) (heap_alloc_new W (.cells ys.toArray e))) h1 (by simp only [maxLen]; omega) hl (by simp; omega)
  unfold Oper.wp execOp
  simp only [ho, resolve, invoke, builtin, Sem.run_bind, Sem.run_pure, Result.andThen_ok, List.map_toArray, List.map_cons, List.map_nil, hs, hx, hr]
  refine h v1 w1 hown ((HB.alloc hbase _).grown hg (by simp; omega) (zck HO)) (World.grownBy.trans (World.grownBy_alloc W _ _) hg) ?_
  rcases hat with hat | hat
  · exact .inl hat
  · exact .inr ⟨_, hat, by simp⟩
end
theorem zgp {w : World} {base base' : Nat} {e : TypeId} {size n : Nat} {v : Value} {xs : List Value} (h : w.ownsRow base e size v n xs) (hb : base' ≤ base) : w.ownsRow base' e size v n xs := by
  obtain ⟨h1, h2⟩ := h
  refine ⟨h1, ?_⟩
  rcases h2 with h2 | ⟨g, cap, cur, rfl, hg, r⟩
  · exact .inl h2
  · exact .inr ⟨g, cap, cur, rfl, Nat.le_trans hb hg, r⟩
section
variable {α : Type} {enc : α → Value} {d : α}
def encs (enc : α → Value) (xs : List α) : List Value := xs.map enc
def rdOf (d : α) (xs : List α) (i : Int) : α := xs.getD i.toNat d
theorem encs_length (xs : List α) : (encs enc xs).length = xs.length := by simp [encs]
def zhf (enc : α → Value) (d : α) (w : World) (A : Option Addr) (n : Nat) (xs : List α) : Prop :=
  xs.length = n ∧ n ≤ 9223372036854775807 ∧ (0 < n → ∃ ad, A = some ad ∧ ∀ j, j < n → w.cell? (ad.add j) = some (enc (xs.getD j d)))
theorem zhf.at_ {w : World} {A : Option Addr} {n : Nat} {xs : List α} (h : zhf enc d w A n xs) (i : Int) (h0 : 0 ≤ i) (h1 : i < n) : ∃ ad, A = some ad ∧ w.cell? (ad.add i.toNat) = some (enc (rdOf d xs i)) := by
  obtain ⟨ad, e, hc⟩ := h.2.2 (by omega)
  exact ⟨ad, e, hc _ (by omega)⟩
end
section
variable {α : Type} {P : Program} {ops : Array Oper} {rest : List Oper} {o : Oper} {a : Act} {Q : Exit → Act → World → Prop}
end
theorem zad {w : World} {g : Nat} {o : Obj} (h : w.heap[g]? = some o) (o' : Obj) : (w.alloc o').heap[g]? = some o := (Below.heap_alloc w o' g (zbj h)).trans h
theorem zac {w : World} {g : Nat} {o : Obj} (h : w.heap[g]? = some o) : w.drew.heap[g]? = some o := h
theorem zae {w : World} {g : Nat} {o : Obj} (h : w.heap[g]? = some o) (n : Nat) : (w.drewN n).heap[g]? = some o := h
theorem zax {w w1 : World} {g : Nat} {o : Obj} (h : w.heap[g]? = some o) (hb : Below w.heap.size w w1) : w1.heap[g]? = some o := (hb.block g (zbj h)).trans h
theorem zbp (w : World) (o : Obj) : (w.alloc o).heap[w.heap.size]? = some o := heap_alloc_new w o
section
variable {P : Program}
theorem zcc {fn : Func} {p u v : Tmp} {ty : TypeId} (h : fn.results = #[.cell p ty, .tmp u, .tmp v]) (tmps : Array Value) (w : World) (g : Nat) (t : TypeId) (cs : Array Value) (fr : Nat × Nat) (d : TypeDesc)
    (hp : tmps.getD p undef = .pointer (some ⟨g, 0, none⟩)) (hg : w.heap[g]? = some (.cells cs t fr))
    (hu : P.underlying ty = some d) (hd : (match d with | .struct _ | .array _ _ => true | _ => false) = true) (hi : (P.info? ty).map (·.size) = some cs.size) :
    (results fn tmps).run P w = .ok (.tuple #[.agg cs, tmps.getD u undef, tmps.getD v undef]) w := by
  have hp' : tmps[p]?.getD undef = .pointer (some ⟨g, 0, none⟩) := by simpa using hp
  simp [results, h, hp', asAddr, run_loadVar_row w g t ty cs fr d hg hu hd hi]
end
theorem own_le {w : World} {base n m c size : Nat} {e : TypeId} {A : Option Addr} {xs : List Value} (h : w.ownsRow base e size (.slice A m c) n xs) : m ≤ c := by
  rcases h.2 with ⟨he, _⟩ | ⟨g, cap, cur, he, _, _, hnc, _⟩
  · injection he with _ h2 h3
    omega
  · injection he with _ h2 h3
    omega
def zdm {α : Type} (R : α → List Value → Prop) (e : TypeId) (size : Nat) (w : World) (base : Nat) (v : Value) (ps : List α) : Prop :=
  ∃ inner, w.ownsRow base e size v ps.length inner ∧ Reps R size ps inner
section
variable {α : Type} {R R' : α → List Value → Prop} {e : TypeId} {size : Nat} {w w1 : World} {base : Nat} {v : Value} {ps : List α}
theorem zdm.none_ (R : α → List Value → Prop) (e : TypeId) (size : Nat) (w : World) (base : Nat) : zdm R e size w base (.slice none 0 0) [] := ⟨[], own_nil _ _ _ _, Reps.none _ _⟩
theorem zdm.imp_ (h : zdm R e size w base v ps) (hR : ∀ p c, R p c → R' p c) : zdm R' e size w base v ps := by
  obtain ⟨inner, ho, hr⟩ := h
  exact ⟨inner, ho, hr.imp_ hR⟩
theorem zdm.reads (h : zdm R e size w base v ps) : ∃ A c, v = .slice A ps.length c ∧ ps.length ≤ c ∧ zb2 R size w A ps.length ps := by
  obtain ⟨inner, ho, hr⟩ := h
  obtain ⟨A, c, rfl, hrow⟩ := ziv ho hr rfl
  exact ⟨A, c, rfl, own_le ho, hrow⟩
theorem zdm.ne_block (h : zdm R e size w base v ps) {g : Nat} {t : TypeId} {cells : Array Value} (hb : w.heap[g]? = some (.cells cells t (0, 0))) (ht : e ≠ t) : some g ≠ v.ownBlock := by
  obtain ⟨inner, ho, hr⟩ := h
  exact own_ne ho hb ht
end
section
variable {P : Program} {ops : Array Oper} {rest : List Oper} {o : Oper} {a : Act} {Q : Exit → Act → World → Prop} {α : Type} {R : α → List Value → Prop}
end
section
variable {P : Program} {ops : Array Oper} {o : Oper} {a : Act} {Q : Exit → Act → World → Prop} {K : Act → World → Prop} {α : Type} {R : α → List Value → Prop}
end
theorem zb2.inner_ {α : Type} {R : α → List Value → Prop} {size : Nat} {w : World} {ad : Addr} {n : Nat} {ps : List α} (h : zb2 R size w (some ad) n ps) :
    ∃ inner, Reps R size ps inner ∧ ∀ j u, inner[j]? = some u → w.cell? (ad.add j) = some u := by
  have key : ∀ m, m ≤ ps.length → ∃ inner, Reps R size (ps.take m) inner ∧ ∀ j u, inner[j]? = some u → w.cell? (ad.add j) = some u := by
    intro m
    induction m with
    | zero => exact fun _ => ⟨[], Reps.none _ _, fun j u hu => by simp at hu⟩
    | succ m ih =>
      intro hm
      obtain ⟨inner, hr, hc⟩ := ih (by omega)
      obtain ⟨ad', he, hcell⟩ := h.2.2 (by have := h.1; omega)
      injection he with he
      subst he
      obtain ⟨c, hcl, hp, hcc⟩ := hcell m _ (List.getElem?_eq_getElem (show m < ps.length by omega))
      refine ⟨inner ++ c, ?_, fun j u hu => ?_⟩
      · rw [List.take_succ_eq_append_getElem (show m < ps.length by omega)]
        exact hr.snoc hp hcl
      · have hil : inner.length = m * size := by rw [hr.1, List.length_take, Nat.min_eq_left (by omega)]
        rcases Nat.lt_or_ge j inner.length with hj | hj
        · rw [List.getElem?_append_left hj] at hu
          exact hc j u hu
        · rw [List.getElem?_append_right hj] at hu
          have := hcc (j - inner.length) u hu
          rwa [hil, Nat.add_sub_cancel' (by omega)] at this
  obtain ⟨inner, hr, hc⟩ := key ps.length (Nat.le_refl _)
  rw [List.take_length] at hr
  exact ⟨inner, hr, hc⟩
section
variable {α : Type} {P : Program}
end
section
variable {P : Program} {ops : Array Oper} {rest : List Oper} {o : Oper} {a : Act} {Q : Exit → Act → World → Prop}
end
structure Kd (α : Type) where
  sz : Nat
  E : List Nat
  K : World → α → List Value → Prop
  M : World → Nat → (Nat → Prop) → α → List Value → Prop
  K_len : ∀ {w x cs}, K w x cs → cs.length = sz
  K_one : ∀ {w x cs}, K w x cs → ∀ u ∈ cs, u.oneCell' = true
  K_below : ∀ {w w1 : World} {x cs}, Below w.heap.size w w1 → K w x cs → K w1 x cs
  K_of_M : ∀ {w base ok x cs}, M w base ok x cs → K w x cs
  M_mono : ∀ {w base ok ok' x cs}, (∀ k, ok k → ok' k) → M w base ok x cs → M w base ok' x cs
  M_bound : ∀ {w : World} {base ok x cs}, M w base ok x cs → M w base (fun k => ok k ∧ base ≤ k ∧ k < w.heap.size ∧ ∃ q, q ∈ E ∧ ∃ cells, w.heap[k]? = some (.cells cells q (0, 0))) x cs
  M_move : ∀ {w w1 : World} {base ok x cs}, (∀ k, ok k → w1.heap[k]? = w.heap[k]?) → M w base ok x cs → M w1 base ok x cs
  M_lower : ∀ {w base base' ok x cs}, base' ≤ base → M w base ok x cs → M w base' ok x cs
theorem own_move {w w1 : World} {base : Nat} {e : TypeId} {size n : Nat} {v : Value} {xs : List Value} (h : w.ownsRow base e size v n xs) (hm : ∀ k, v.ownBlock = some k → w1.heap[k]? = w.heap[k]?) : w1.ownsRow base e size v n xs := by
  obtain ⟨h1, h2⟩ := h
  refine ⟨h1, ?_⟩
  rcases h2 with h2 | ⟨g, cap, cur, rfl, hg, hh, r⟩
  · exact .inl h2
  · exact .inr ⟨g, cap, cur, rfl, hg, (hm g (by simp [Value.ownBlock])).trans hh, r⟩
theorem zdq {w : World} {base : Nat} {e : TypeId} {size n : Nat} {v : Value} {xs : List Value} (h : w.ownsRow base e size v n xs) (k : Nat) (hk : v.ownBlock = some k) : ∃ cells, w.heap[k]? = some (.cells cells e (0, 0)) := by
  rcases h.2 with ⟨rfl, _⟩ | ⟨g, cap, cur, rfl, hg, hh, r⟩
  · simp [Value.ownBlock] at hk
  · have : g = k := by simpa [Value.ownBlock] using hk
    subst this
    exact ⟨cur, hh⟩
namespace Kd
def C {α : Type} (d : Kd α) (w : World) (A : Option Addr) (n : Nat) (xs : List α) : Prop := zb2 (d.K w) d.sz w A n xs
def R {α : Type} (d : Kd α) (e : Nat) (w : World) (base : Nat) (ok : Nat → Prop) (v : Value) (xs : List α) : Prop :=
  (∀ k, v.ownBlock = some k → ok k) ∧ zdm (d.M w base (fun k => ok k ∧ some k ≠ v.ownBlock)) e d.sz w base v xs
section
variable {α : Type} {d : Kd α} {e : Nat} {w w1 : World} {base : Nat} {ok ok' : Nat → Prop} {v : Value} {xs : List α}
theorem za4 {A : Option Addr} {n : Nat} (h : d.C w A n xs) (hb : Below w.heap.size w w1) : d.C w1 A n xs := zb2.imp_ h hb (fun _ _ hp => d.K_below hb hp)
theorem zef (d : Kd α) (e : Nat) (w : World) (base : Nat) (ok : Nat → Prop) : d.R e w base ok (.slice none 0 0) [] := ⟨fun k hk => by simp [Value.ownBlock] at hk, zdm.none_ _ _ _ _ _⟩
theorem zbw (h : d.R e w base ok v xs) (hok : ∀ k, ok k → ok' k) : d.R e w base ok' v xs := ⟨fun k hk => hok k (h.1 k hk), h.2.imp_ (fun _ _ hp => d.M_mono (fun k hk => ⟨hok k hk.1, hk.2⟩) hp)⟩
theorem zc7 (h : d.R e w base ok v xs) : d.R e w base (fun k => ok k ∧ base ≤ k ∧ k < w.heap.size ∧ ∃ q, q ∈ e :: d.E ∧ ∃ cells, w.heap[k]? = some (.cells cells q (0, 0))) v xs := by
  obtain ⟨h0, inner, ho, hr⟩ := h
  refine ⟨fun k hk => ?_, inner, ho, hr.imp_ (fun _ _ hp => d.M_mono (fun k hk => ?_) (d.M_bound hp))⟩
  · obtain ⟨cells, hc⟩ := zdq ho k hk
    exact ⟨h0 k hk, zck ho k hk, zdz ho k hk, e, List.mem_cons_self, cells, hc⟩
  · obtain ⟨⟨h1, h2⟩, h3, h4, q, hq, hc⟩ := hk
    exact ⟨⟨h1, h3, h4, q, List.mem_cons_of_mem _ hq, hc⟩, h2⟩
theorem R_move (h : d.R e w base ok v xs) (hm : ∀ k, ok k → w1.heap[k]? = w.heap[k]?) : d.R e w1 base ok v xs := by
  obtain ⟨h0, inner, ho, hr⟩ := h
  exact ⟨h0, inner, own_move ho (fun k hk => hm k (h0 k hk)), hr.imp_ (fun _ _ hp => d.M_move (fun k hk => hm k hk.1) hp)⟩
theorem zde {base' : Nat} (h : d.R e w base ok v xs) (hb : base' ≤ base) : d.R e w base' ok v xs := by
  obtain ⟨h0, inner, ho, hr⟩ := h
  exact ⟨h0, inner, zgp ho hb, hr.imp_ (fun _ _ hp => d.M_lower hb hp)⟩
theorem zfi (h : d.R e w base ok v xs) (hm : ∀ k, ok k → k < w.heap.size → w1.heap[k]? = w.heap[k]?) : d.R e w1 base ok v xs :=
  zbw (R_move (zc7 h) (fun k hk => hm k hk.1 hk.2.2.1)) (fun _ hk => hk.1)
theorem M_step {x : α} {cs : List Value} (h : d.M w base ok x cs) (hm : ∀ k, ok k → k < w.heap.size → w1.heap[k]? = w.heap[k]?) : d.M w1 base ok x cs :=
  d.M_mono (fun _ hk => hk.1) (d.M_move (fun k hk => hm k hk.1 hk.2.2.1) (d.M_bound h))
theorem zdd (h : d.R e w base ok v xs) (hb : Below w.heap.size w w1) : d.R e w1 base ok v xs := zfi h (fun k _ hk => hb.block k hk)
theorem M_below {x : α} {cs : List Value} (h : d.M w base ok x cs) (hb : Below w.heap.size w w1) : d.M w1 base ok x cs := M_step h (fun k _ hk => hb.block k hk)
theorem R_grown (h : d.R e w base ok v xs) {row : Option Nat} (hg : w.grownBy w1 row) (hok : ∀ k, ok k → some k ≠ row) : d.R e w1 base ok v xs := zfi h (fun k ho hk => hg.block k hk (hok k ho))
theorem zeb (h : d.R e w base ok v xs) {p : Addr} (hok : ∀ k, ok k → k ≠ p.block) (u : Value) : d.R e (w.setCell p u) base ok v xs := zfi h (fun k ho _ => Below.heap_setCell w p u k (hok k ho))
theorem zdn (h : d.R e w base ok v xs) {g t : Nat} {cells : Array Value} (hb : w.heap[g]? = some (.cells cells t (0, 0))) (ht : ∀ q, q ∈ e :: d.E → q ≠ t) : d.R e w base (fun k => ok k ∧ k ≠ g) v xs :=
  zbw (zc7 h) (fun k hk => ⟨hk.1, by
    obtain ⟨_, _, _, q, hq, cells', hc⟩ := hk
    rintro rfl
    rw [hc] at hb
    injection hb with hb
    injection hb with _ hb
    exact ht q hq hb⟩)
theorem R_set (h : d.R e w base ok v xs) {g t : Nat} {cells : Array Value} (hb : w.heap[g]? = some (.cells cells t (0, 0))) (ht : ∀ q, q ∈ e :: d.E → q ≠ t) (j : Nat) (u : Value) : d.R e (w.setCell ⟨g, j, none⟩ u) base ok v xs :=
  zbw (zeb (p := ⟨g, j, none⟩) (zdn h hb ht) (fun _ hk => hk.2) u) (fun _ hk => hk.1)
theorem zdh (h : d.R e w base ok v xs) : ∃ A c, v = .slice A xs.length c ∧ xs.length ≤ c ∧ d.C w A xs.length xs := by
  obtain ⟨A, c, he, hl, hr⟩ := zdm.reads h.2
  exact ⟨A, c, he, hl, hr.imp_ (Below.refl _ _) (fun _ _ hp => d.K_of_M hp)⟩
theorem zcf (h : d.R e w base ok v xs) : ∃ A c, v = .slice A xs.length c := by
  obtain ⟨A, c, he, _⟩ := zdh h
  exact ⟨A, c, he⟩
theorem zek (h : d.R e w base ok v xs) : ∃ inner, w.ownsRow base e d.sz v xs.length inner := by
  obtain ⟨_, inner, ho, _⟩ := h
  exact ⟨inner, ho⟩
theorem R_ne (h : d.R e w base ok v xs) {g t : Nat} {cells : Array Value} (hb : w.heap[g]? = some (.cells cells t (0, 0))) (ht : e ≠ t) : some g ≠ v.ownBlock := zdm.ne_block h.2 hb ht
end
def scalar {α : Type} (enc : α → Value) (h1 : ∀ x, (enc x).oneCell' = true) : Kd α where
  sz := 1
  E := []
  K := fun _ x cs => cs = [enc x]
  M := fun _ _ _ x cs => cs = [enc x]
  K_len := fun h => by rw [h]; rfl
  K_one := fun h u hu => by
    rw [h] at hu
    rw [List.mem_singleton.1 hu]
    exact h1 _
  K_below := fun _ h => h
  K_of_M := fun h => h
  M_mono := fun _ h => h
  M_bound := fun h => h
  M_move := fun _ h => h
  M_lower := fun _ h => h
def int (k : IntKind) : Kd Int := scalar (Value.int k) (fun _ => rfl)
def bool : Kd Bool := scalar Value.bool (fun _ => rfl)
def string : Kd ByteArray := scalar Value.string (fun _ => rfl)
def slice {α : Type} (e : Nat) (d : Kd α) : Kd (List α) where
  sz := 1
  E := e :: d.E
  K := fun w xs cs => ∃ A c, cs = [.slice A xs.length c] ∧ xs.length ≤ c ∧ d.C w A xs.length xs
  M := fun w base ok xs cs => ∃ v, cs = [v] ∧ d.R e w base ok v xs
  K_len := by
    rintro w x cs ⟨A, c, rfl, _⟩
    rfl
  K_one := by
    rintro w x cs ⟨A, c, rfl, _⟩ u hu
    rw [List.mem_singleton.1 hu]
    rfl
  K_below := by
    rintro w w1 x cs hb ⟨A, c, rfl, hl, hr⟩
    exact ⟨A, c, rfl, hl, za4 hr hb⟩
  K_of_M := by
    rintro w base ok x cs ⟨v, rfl, h⟩
    obtain ⟨A, c, rfl, hl, hr⟩ := zdh h
    exact ⟨A, c, rfl, hl, hr⟩
  M_mono := by
    rintro w base ok ok' x cs hok ⟨v, rfl, h⟩
    exact ⟨v, rfl, zbw h hok⟩
  M_bound := by
    rintro w base ok x cs ⟨v, rfl, h⟩
    exact ⟨v, rfl, zc7 h⟩
  M_move := by
    rintro w w1 base ok x cs hm ⟨v, rfl, h⟩
    exact ⟨v, rfl, R_move h hm⟩
  M_lower := by
    rintro w base base' ok x cs hb ⟨v, rfl, h⟩
    exact ⟨v, rfl, zde h hb⟩
def pair {α β : Type} (a : Kd α) (b : Kd β) : Kd (α × β) where
  sz := a.sz + b.sz
  E := a.E ++ b.E
  K := fun w x cs => ∃ c0 c1, cs = c0 ++ c1 ∧ a.K w x.1 c0 ∧ b.K w x.2 c1
  M := fun w base ok x cs => ∃ c0 c1, cs = c0 ++ c1 ∧ a.M w base ok x.1 c0 ∧ b.M w base ok x.2 c1
  K_len := by
    rintro w x cs ⟨c0, c1, rfl, h0, h1⟩
    rw [List.length_append, a.K_len h0, b.K_len h1]
  K_one := by
    rintro w x cs ⟨c0, c1, rfl, h0, h1⟩ u hu
    rcases List.mem_append.1 hu with hu | hu
    · exact a.K_one h0 u hu
    · exact b.K_one h1 u hu
  K_below := by
    rintro w w1 x cs hb ⟨c0, c1, rfl, h0, h1⟩
    exact ⟨c0, c1, rfl, a.K_below hb h0, b.K_below hb h1⟩
  K_of_M := by
    rintro w base ok x cs ⟨c0, c1, rfl, h0, h1⟩
    exact ⟨c0, c1, rfl, a.K_of_M h0, b.K_of_M h1⟩
  M_mono := by
    rintro w base ok ok' x cs hok ⟨c0, c1, rfl, h0, h1⟩
    exact ⟨c0, c1, rfl, a.M_mono hok h0, b.M_mono hok h1⟩
  M_bound := by
    rintro w base ok x cs ⟨c0, c1, rfl, h0, h1⟩
    refine ⟨c0, c1, rfl, a.M_mono ?_ (a.M_bound h0), b.M_mono ?_ (b.M_bound h1)⟩
    · rintro k ⟨h2, h3, h4, q, hq, hc⟩
      exact ⟨h2, h3, h4, q, List.mem_append_left _ hq, hc⟩
    · rintro k ⟨h2, h3, h4, q, hq, hc⟩
      exact ⟨h2, h3, h4, q, List.mem_append_right _ hq, hc⟩
  M_move := by
    rintro w w1 base ok x cs hm ⟨c0, c1, rfl, h0, h1⟩
    exact ⟨c0, c1, rfl, a.M_move hm h0, b.M_move hm h1⟩
  M_lower := by
    rintro w base base' ok x cs hb ⟨c0, c1, rfl, h0, h1⟩
    exact ⟨c0, c1, rfl, a.M_lower hb h0, b.M_lower hb h1⟩
def iso {α β : Type} (d : Kd α) (f : β → α) : Kd β where
  sz := d.sz
  E := d.E
  K := fun w x cs => d.K w (f x) cs
  M := fun w base ok x cs => d.M w base ok (f x) cs
  K_len := d.K_len
  K_one := d.K_one
  K_below := d.K_below
  K_of_M := d.K_of_M
  M_mono := d.M_mono
  M_bound := d.M_bound
  M_move := d.M_move
  M_lower := d.M_lower
def bot {α : Type} (sz : Nat) (E : List Nat) : Kd α where
  sz := sz
  E := E
  K := fun _ _ _ => False
  M := fun _ _ _ _ _ => False
  K_len := fun h => h.elim
  K_one := fun h => h.elim
  K_below := fun _ h => h
  K_of_M := fun h => h
  M_mono := fun _ h => h
  M_bound := fun h => h
  M_move := fun _ h => h
  M_lower := fun _ h => h
def upto {α : Type} (F : Kd α → Kd α) (sz : Nat) (E : List Nat) : Nat → Kd α
  | 0 => bot sz E
  | n + 1 => F (upto F sz E n)
theorem C_get {α : Type} {d : Kd α} {w : World} {A : Option Addr} {n : Nat} {xs : List α} (h : d.C w A n xs) (z : α) (i : Int) (h0 : 0 ≤ i) (h1 : i < n) :
    ∃ ad c, A = some ad ∧ c.length = d.sz ∧ d.K w (xs.getD i.toNat z) c ∧ ∀ j u, c[j]? = some u → w.cell? (ad.add (i.toNat * d.sz + j)) = some u := zb2.get_ h z i h0 h1
theorem zh8 {α : Type} {d : Kd α} {e base : Nat} {ok okp : Nat → Prop} {W w1 : World} {v v1 : Value} {xs : List α} {p : α} {inner cs : List Value} (h0 : ∀ k, v.ownBlock = some k → ok k) (hr : Reps (d.M W base (fun k => ok k ∧ some k ≠ v.ownBlock)) d.sz xs inner) (hp : d.M W base okp p cs) (hokp : ∀ k, okp k → ok k ∧ some k ≠ v.ownBlock) (hfresh : ∀ k, W.heap.size ≤ k → ok k)
    (hown : w1.ownsRow base e d.sz v1 (xs.length + 1) (inner ++ cs)) (hg : W.grownBy w1 v.ownBlock) (hat : v1.ownBlock = v.ownBlock ∨ ∃ b, v1.ownBlock = some b ∧ W.heap.size ≤ b) : d.R e w1 base ok v1 (xs ++ [p]) := by
  have hne : ∀ k, some k ≠ v.ownBlock → k < W.heap.size → some k ≠ v1.ownBlock := by
    intro k hk hlt
    rcases hat with hat | ⟨b, hb, hle⟩
    · rw [hat]; exact hk
    · rw [hb]
      intro he
      injection he with he
      omega
  have step : ∀ {q : α} {c : List Value} {o : Nat → Prop}, d.M W base o q c → (∀ k, o k → ok k ∧ some k ≠ v.ownBlock) → d.M w1 base (fun k => ok k ∧ some k ≠ v1.ownBlock) q c := by
    intro q c o hq ho
    have h1 := d.M_move (w1 := w1) (fun k hk => hg.block k hk.2.2.1 (ho k hk.1).2) (d.M_bound hq)
    exact d.M_mono (fun k hk => ⟨(ho k hk.1).1, hne k (ho k hk.1).2 hk.2.2.1⟩) h1
  refine ⟨fun k hk => ?_, inner ++ cs, by rw [List.length_append, List.length_singleton]; exact hown, ?_⟩
  · rcases hat with hat | ⟨b, hb, hle⟩
    · exact h0 k (hat ▸ hk)
    · rw [hb] at hk
      injection hk with hk
      exact hfresh k (by omega)
  · exact (hr.imp_ (fun _ _ hq => step hq (fun _ hk => hk))).snoc (step hp hokp) (d.K_len (d.K_of_M hp))
section
variable {P : Program} {ops : Array Oper} {rest : List Oper} {o : Oper} {a : Act} {Q : Exit → Act → World → Prop} {α : Type}
theorem zeg (d : Kd α) {w0 W : World} (base : Nat) (hgd : o.guard = none) (s x : Operand) (t e : TypeId) (z : Value) (bytes : Nat)
    (ho : o.op = .call { callee := .builtin .append, args := #[s, x], argTypes := #[t, t] })
    (ht : P.underlying t = some (.slice e)) (hinfo : (P.info? e).map (fun i => (i.zero, i.size, i.bytes)) = some (some z, d.sz, bytes)) (hz : z.cells.size = d.sz) (hs0 : 0 < d.sz) (hb0 : 0 < bytes)
    (v : Value) (xs : List α) (p : α) (cs : List Value) (ok okp : Nat → Prop) (hs : a.eval s = v) (hx : a.eval x = .slice (some ⟨W.heap.size, 0, none⟩) 1 1) (hp : d.M W base okp p cs) (hokp : ∀ k, okp k → ok k ∧ some k ≠ v.ownBlock) (hfresh : ∀ k, W.heap.size ≤ k → ok k)
    (HO : d.R e W base ok v xs) (HB : Below base w0 W) (hbase : base ≤ W.heap.size) (hl : (xs.length + 1) * bytes ≤ 140737488355328)
    (h : ∀ v1 w1, d.R e w1 base ok v1 (xs ++ [p]) → Below base w0 w1 → W.grownBy w1 v.ownBlock → (v1.ownBlock = v.ownBlock ∨ ∃ b, v1.ownBlock = some b ∧ W.heap.size ≤ b) → wpList P ops Q rest (a.put o.dst v1) w1) :
    wpList P ops Q (o :: rest) a (W.alloc (.cells cs.toArray e)) := by
  obtain ⟨h0, inner, hown, hr⟩ := HO
  refine zg3 base hgd s x t e z d.sz bytes ho ht hinfo hz hs0 hb0 v xs.length inner cs hs hx (d.K_len (d.K_of_M hp)) (d.K_one (d.K_of_M hp)) hown HB hbase hl ?_
  intro v1 w1 hown1 hb1 hg1 hat1
  exact h v1 w1 (zh8 h0 hr hp hokp hfresh hown1 hg1 hat1) hb1 hg1 hat1
end
section
variable {P : Program} {ops : Array Oper} {o : Oper} {a : Act} {Q : Exit → Act → World → Prop} {Kc : Act → World → Prop} {α : Type}
theorem ziu (d : Kd α) {w0 W : World} (base : Nat) (hw : Region.wanted o (yielded ops a.tmps) = true) (s x : Operand) (t e : TypeId) (z : Value) (bytes : Nat)
    (ho : o.op = .call { callee := .builtin .append, args := #[s, x], argTypes := #[t, t] })
    (ht : P.underlying t = some (.slice e)) (hinfo : (P.info? e).map (fun i => (i.zero, i.size, i.bytes)) = some (some z, d.sz, bytes)) (hz : z.cells.size = d.sz) (hs0 : 0 < d.sz) (hb0 : 0 < bytes)
    (v : Value) (xs : List α) (p : α) (cs : List Value) (ok okp : Nat → Prop) (hs : a.eval s = v) (hx : a.eval x = .slice (some ⟨W.heap.size, 0, none⟩) 1 1) (hp : d.M W base okp p cs) (hokp : ∀ k, okp k → ok k ∧ some k ≠ v.ownBlock) (hfresh : ∀ k, W.heap.size ≤ k → ok k)
    (HO : d.R e W base ok v xs) (HB : Below base w0 W) (hbase : base ≤ W.heap.size) (hl : (xs.length + 1) * bytes ≤ 140737488355328)
    (h : ∀ v1 w1, d.R e w1 base ok v1 (xs ++ [p]) → Below base w0 w1 → W.grownBy w1 v.ownBlock → (v1.ownBlock = v.ownBlock ∨ ∃ b, v1.ownBlock = some b ∧ W.heap.size ≤ b) → Kc (a.put o.dst v1) w1) :
    if Region.wanted o (yielded ops a.tmps) = true then Oper.wp P o a (W.alloc (.cells cs.toArray e)) Kc Q else Kc (a.put o.dst undef) (W.alloc (.cells cs.toArray e)) := by
  obtain ⟨h0, inner, hown, hr⟩ := HO
  refine zhk base hw s x t e z d.sz bytes ho ht hinfo hz hs0 hb0 v xs.length inner cs hs hx (d.K_len (d.K_of_M hp)) (d.K_one (d.K_of_M hp)) hown HB hbase hl ?_
  intro v1 w1 hown1 hb1 hg1 hat1
  exact h v1 w1 (zh8 h0 hr hp hokp hfresh hown1 hg1 hat1) hb1 hg1 hat1
end
theorem reps_scalar {α : Type} {enc : α → Value} (xs : List α) : Reps (fun (x : α) (cs : List Value) => cs = [enc x]) 1 xs (encs enc xs) := by
  refine ⟨by simp [encs], fun j p hj => ?_⟩
  obtain ⟨hl, hp⟩ := List.getElem?_eq_some_iff.1 hj
  have hl' : j < (encs enc xs).length := by rw [encs_length]; exact hl
  rw [Nat.mul_one, List.drop_eq_getElem_cons hl']
  simp [encs, hp]
theorem R_of_own {α : Type} {enc : α → Value} {h1 : ∀ x, (enc x).oneCell' = true} {e : Nat} {w : World} {base : Nat} {ok : Nat → Prop} {v : Value} {xs : List α} (ho : w.ownsRow base e 1 v xs.length (encs enc xs)) (hok : ∀ k, v.ownBlock = some k → ok k) : (scalar enc h1).R e w base ok v xs := ⟨hok, encs enc xs, ho, reps_scalar xs⟩
theorem reads_of_C {α : Type} {enc : α → Value} {d : α} {h1 : ∀ x, (enc x).oneCell' = true} {w : World} {A : Option Addr} {n : Nat} {xs : List α} (h : (scalar enc h1).C w A n xs) : zhf enc d w A n xs := by
  refine ⟨h.1, h.2.1, fun hn => ?_⟩
  obtain ⟨ad, e, hc⟩ := h.2.2 hn
  refine ⟨ad, e, fun j hj => ?_⟩
  have hl : j < xs.length := by have := h.1; omega
  obtain ⟨c, _, hK, hcell⟩ := hc j _ (List.getElem?_eq_getElem hl)
  have hK' : c = [enc xs[j]] := hK
  subst hK'
  have := hcell 0 _ rfl
  simpa [scalar, List.getD_eq_getElem?_getD, List.getElem?_eq_getElem hl] using this
end Kd
namespace Kd
section
variable {α : Type} {F : Kd α → Kd α} {sz : Nat} {E : List Nat} {hs : ∀ n, (upto F sz E n).sz = sz} {hE : ∀ n q, q ∈ (upto F sz E n).E → q ∈ E}
end
end Kd
namespace Kd
theorem R_after {α : Type} {d : Kd α} {e base : Nat} {ok : Nat → Prop} {W w1 : World} {u v v1 : Value} {xs : List α} (h : d.R e W base (fun k => ok k ∧ some k ≠ v.ownBlock) u xs) (hg : W.grownBy w1 v.ownBlock) (hat : v1.ownBlock = v.ownBlock ∨ ∃ b, v1.ownBlock = some b ∧ W.heap.size ≤ b) : d.R e w1 base (fun k => ok k ∧ some k ≠ v1.ownBlock) u xs := by
  refine zbw (R_move (zc7 h) (fun k hk => hg.block k hk.2.2.1 hk.1.2)) (fun k hk => ⟨hk.1.1, ?_⟩)
  rcases hat with hat | ⟨b, hb, hle⟩
  · rw [hat]; exact hk.1.2
  · rw [hb]
    intro he
    injection he with he
    have := hk.2.2.1
    omega
end Kd
namespace Kd
section
variable {α β : Type} {d : Kd α} {d' : Kd β} {e e' : Nat} {w w1 W : World} {base b b' : Nat} {ok ok' okv oku : Nat → Prop} {v u : Value} {xs : List α} {ys : List β}
theorem zc1 (h : d.R e w base ok v xs) (o : Obj) : d.R e (w.alloc o) base ok v xs := zdd h (za8 (Below.refl _ _) o)
theorem zdj (h : d.R e w base ok v xs) : d.R e w.drew base ok v xs := zdd h (zb7 (Below.refl _ _))
theorem C_nil (d : Kd α) (w : World) : d.C w none ([] : List α).length [] := ⟨rfl, by simp, fun h => absurd h (Nat.lt_irrefl 0)⟩
theorem R_reads' {A : Option Addr} {n c : Nat} (h : d.R e w base ok (.slice A n c) xs) : n = xs.length ∧ n ≤ c ∧ d.C w A xs.length xs := by
  obtain ⟨A', c', he, hl, hr⟩ := zdh h
  injection he with h1 h2 h3
  subst h1
  exact ⟨h2, by omega, hr⟩
theorem R_lt (h : d.R e w base ok v xs) : ∀ k, v.ownBlock = some k → k < w.heap.size := by
  obtain ⟨inner, ho⟩ := zek h
  exact zdz ho
theorem zdi (h : d.R e w base ok v xs) : ∀ k, v.ownBlock = some k → base ≤ k := by
  obtain ⟨inner, ho⟩ := zek h
  exact zck ho
theorem R_away (h : d.R e w base ok v xs) {g : Nat} (hok : ∀ k, ok k → k ≠ g) : some g ≠ v.ownBlock := fun e => hok g (h.1 g e.symm) rfl
theorem R_form (h : d.R e w base ok v xs) (hp : 0 < xs.length) : ∃ g cap, v = .slice (some ⟨g, 0, none⟩) xs.length cap ∧ base ≤ g ∧ g < w.heap.size ∧ ∃ cells, w.heap[g]? = some (.cells cells e (0, 0)) := by
  obtain ⟨inner, ho⟩ := zek h
  obtain ⟨g, cap, he, hb, hl⟩ := ho.form hp
  obtain ⟨cells, hc⟩ := zdq ho g (by rw [he]; simp [Value.ownBlock])
  exact ⟨g, cap, he, hb, hl, cells, hc⟩
end
section
variable {w W : World} {A : Option Addr} {n : Nat}
theorem zb1 {k : IntKind} {xs : List Int} (h : (Kd.int k).C w A n xs) (i : Int) (h0 : 0 ≤ i) (h1 : i < n) : ∃ ad, A = some ad ∧ w.cell? (ad.add i.toNat) = some (.int k (rd xs i)) :=
  zhf.at_ (reads_of_C (enc := Value.int k) (d := (0 : Int)) (h1 := fun _ => rfl) h) i h0 h1
variable {α : Type} {enc : α → Value} {h1 : ∀ x, (enc x).oneCell' = true} {e base g cap : Nat} {ok : Nat → Prop} {xs : List α}
end
section
variable {P : Program} {ops : Array Oper} {rest : List Oper} {o : Oper} {a : Act} {Q : Exit → Act → World → Prop}
theorem event_run {W w1 : World} {v : Value} (hgd : o.guard = none) (hrun : (execOp a.eval o).run P W = .ok (.value v) w1) (h : wpList P ops Q rest (a.put o.dst v) w1) : wpList P ops Q (o :: rest) a W := by
  refine wpList_plain hgd fun K hK => ?_
  unfold Oper.wp
  rw [hrun]
  exact hK _ _ h
variable {α : Type}
theorem R_lit (d : Kd α) {w0 W : World} (base e : Nat) (hgd : o.guard = none) {N : Tmp} (_hd : o.dst = some N) {xs : List α} {inner : List Value} {ok okp : Nat → Prop}
    (hrun : (execOp a.eval o).run P W = .ok (.value (.slice (some ⟨W.heap.size, 0, none⟩) xs.length xs.length)) (W.alloc (.cells inner.toArray e)))
    (hrep : Reps (d.M W base okp) d.sz xs inner) (hok : ∀ k, okp k → ok k) (hfresh : ok W.heap.size) (HB : Below base w0 W) (hbase : base ≤ W.heap.size) (hm : xs.length ≤ 9223372036854775807)
    (h : ∀ v1 w1, d.R e w1 base ok v1 xs → Below base w0 w1 → W.grownBy w1 none → (∃ b, v1.ownBlock = some b ∧ W.heap.size ≤ b) → wpList P ops Q rest (a.put o.dst v1) w1) : wpList P ops Q (o :: rest) a W := by
  refine event_run hgd hrun (h _ _ ⟨fun k hk => ?_, inner, ?_, ?_⟩ (HB.alloc hbase _) (World.grownBy_alloc W _ none) ⟨W.heap.size, by simp [Value.ownBlock], Nat.le_refl _⟩)
  · have : W.heap.size = k := by simpa [Value.ownBlock] using hk
    subst this
    exact hfresh
  · have h2 := World.ownsRow_lit (base := base) (e := e) (size := d.sz) W inner.toArray xs.length hbase (by simpa [maxLen] using hm) (by simpa using hrep.1)
    simpa using h2
  · refine hrep.imp_ (fun p c hp => d.M_mono (fun k hk => ⟨hok k hk.1, fun he => ?_⟩) (M_below (d.M_bound hp) (za8 (Below.refl _ _) _)))
    have h3 : k = W.heap.size := by simpa [Value.ownBlock] using he
    have := hk.2.2.1
    omega
end
end Kd
section
variable {P : Program}
theorem cut_to (t e : TypeId) (kh : IntKind) {i : TypeInfo} (ht : P.underlying t = some (.slice e)) (hi : P.info? e = some i) (A : Option Addr) (n c : Nat) (j : Int) (h0 : 0 ≤ j) (hm : j ≤ n) (hc : n ≤ c) :
    ∀ W : World, (Instr.slice t (.slice A n c) none (some (.int kh j)) none).run P W = .ok (.slice A j.toNat c) W := by
  intro W
  have hel : P.elem t = e := by simp [Program.elem, ht]
  have hu : P.underlying t = some (.slice (P.elem t)) := by rw [hel]; exact ht
  have ha : (A.map fun x => x.add 0) = A := by cases A <;> simp [Addr.add]
  rw [run_slice_h W t A n c hu kh j h0 (by omega), hel]
  simp [sizeOf, typeInfo, hi, sliced, Result.andThen, ha]
theorem cut_from (t e : TypeId) (kl : IntKind) {i : TypeInfo} (ht : P.underlying t = some (.slice e)) (hi : P.info? e = some i) (size : Nat) (hsz : i.size = size) (A : Option Addr) (n c : Nat) (j : Int) (h0 : 0 ≤ j) (hm : j ≤ n) :
    ∀ W : World, (Instr.slice t (.slice A n c) (some (.int kl j)) none none).run P W = .ok (.slice (if c = j.toNat then A else A.map (·.add (j.toNat * size))) (n - j.toNat) (c - j.toNat)) W := by
  intro W
  have hel : P.elem t = e := by simp [Program.elem, ht]
  have hu : P.underlying t = some (.slice (P.elem t)) := by rw [hel]; exact ht
  rw [run_slice_l W t A n c hu kl j h0 hm, hel]
  simp [sizeOf, typeInfo, hi, hsz, sliced, Result.andThen]
end
def QRow (w : World) (base : Nat) (e : TypeId) (size : Nat) (v : Value) (n : Nat) (xs : List Value) : Prop :=
  xs.length = n * size ∧
  ((n = 0 ∧ ∃ A, v = .slice A 0 0 ∧ ∀ a, A = some a → base ≤ a.block ∧ ∃ cur, w.heap[a.block]? = some (.cells cur e (0, 0))) ∨
   ∃ g off cap cur, v = .slice (some ⟨g, off * size, none⟩) n cap ∧ base ≤ g ∧ w.heap[g]? = some (.cells cur e (0, 0)) ∧ n ≤ cap ∧ off + cap ≤ maxLen ∧ cur.size = (off + cap) * size ∧ (cur.toList.drop (off * size)).take (n * size) = xs)
section
variable {w w1 : World} {base n size : Nat} {e : TypeId} {v : Value} {xs : List Value}
theorem add_at (g o j : Nat) : (⟨g, o, none⟩ : Addr).add j = ⟨g, o + j, none⟩ := by unfold Addr.add; split <;> simp_all
theorem zha {g : Nat} : ∀ (vs : List Value) (o : Nat) {w : World} (k : Nat), k ≠ g → (w.setCells g o vs).heap[k]? = w.heap[k]?
  | [], _, _, _, _ => rfl
  | v :: r, o, w, k, hk => by
    rw [World.setCells, zha r (o + 1) k hk]
    exact Below.heap_setCell w ⟨g, o, none⟩ v k hk
theorem zgt (g : Nat) : ∀ (vs : List Value) (o : Nat) (w : World), (w.setCells g o vs).os = w.os ∧ (w.setCells g o vs).tape = w.tape ∧ (w.setCells g o vs).output = w.output ∧ (w.setCells g o vs).heap.size = w.heap.size
  | [], _, _ => ⟨rfl, rfl, rfl, rfl⟩
  | v :: r, o, w => by
    obtain ⟨h1, h2, h3, h4⟩ := zgt g r (o + 1) (w.setCell ⟨g, o, none⟩ v)
    rw [World.setCells]
    exact ⟨h1, h2, h3, by rw [h4]; simp [World.setCell]⟩
theorem zhb {g : Nat} {e : TypeId} : ∀ (vs : List Value) (o : Nat) (w : World) (cur : Array Value), w.heap[g]? = some (.cells cur e (0, 0)) → o + vs.length ≤ cur.size →
    ∃ cur', (w.setCells g o vs).heap[g]? = some (.cells cur' e (0, 0)) ∧ cur'.size = cur.size ∧ cur'.toList = cur.toList.take o ++ vs ++ cur.toList.drop (o + vs.length)
  | [], o, w, cur, h, _ => ⟨cur, h, rfl, by simp⟩
  | v :: r, o, w, cur, h, hl => by
    have h2 := blk_set h o v
    simp only [List.length_cons] at hl
    obtain ⟨cur', h3, h4, h5⟩ := zhb r (o + 1) (w.setCell ⟨g, o, none⟩ v) _ h2 (by simp; omega)
    refine ⟨cur', h3, by rw [h4]; simp, ?_⟩
    rw [h5, Array.toList_setIfInBounds]
    have ho : o < cur.toList.length := by rw [Array.length_toList]; omega
    rw [List.take_set, List.drop_set_of_lt (by omega)]
    simp only [List.length_cons]
    rw [show o + 1 + r.length = o + (r.length + 1) by omega]
    congr 1
    rw [List.take_succ_eq_append_getElem ho, List.set_append_right _ _ (by rw [List.length_take]; omega)]
    have ho' : o < cur.size := by omega
    simp [Nat.min_eq_left (Nat.le_of_lt ho')]
end
section
variable {P : Program}
end
namespace Kd
def Q {α : Type} (d : Kd α) (e : Nat) (w : World) (base : Nat) (ok : Nat → Prop) (v : Value) (xs : List α) : Prop :=
  (∀ k, v.ownBlock = some k → ok k) ∧ ∃ inner, QRow w base e d.sz v xs.length inner ∧ Reps (d.M w base (fun k => ok k ∧ some k ≠ v.ownBlock)) d.sz xs inner
section
variable {α : Type} {d : Kd α} {e : Nat} {w w1 W : World} {base : Nat} {ok ok' : Nat → Prop} {v : Value} {xs : List α}
end
section
variable {P : Program} {ops : Array Oper} {rest : List Oper} {o : Oper} {a : Act} {Q' : Exit → Act → World → Prop} {Kc : Act → World → Prop} {α : Type}
end
end Kd
namespace Kd
section
variable {α : Type} {d : Kd α} {e e' : Nat} {w w1 W : World} {base : Nat} {ok : Nat → Prop} {u v : Value} {xs : List α}
theorem R_typed (h : d.R e w base ok v xs) : ∀ k, v.ownBlock = some k → ∃ cells, w.heap[k]? = some (.cells cells e (0, 0)) := by
  obtain ⟨inner, ho⟩ := zek h
  exact fun k hk => zdq ho k hk
theorem R_apart' (h : d.R e W base ok u xs) (hty : ∀ k, v.ownBlock = some k → ∃ cells, W.heap[k]? = some (.cells cells e' (0, 0))) (ht : ∀ q, q ∈ e :: d.E → q ≠ e') : d.R e W base (fun k => ok k ∧ some k ≠ v.ownBlock) u xs := by
  refine zbw (zc7 h) (fun k hk => ⟨hk.1, fun he => ?_⟩)
  obtain ⟨_, _, _, q, hq, cells, hc⟩ := hk
  obtain ⟨cells', hc'⟩ := hty k he.symm
  rw [hc] at hc'
  injection hc' with hc'
  injection hc' with _ hc'
  exact ht q hq hc'
theorem fresh' (hlt : ∀ k, u.ownBlock = some k → k < W.heap.size) : ∀ k, W.heap.size ≤ k → some k ≠ u.ownBlock := fun k hk he => by have := hlt k he.symm; omega
end
end Kd
theorem zgc {α : Type} (a seg : List α) (o : Nat) (h : o + seg.length ≤ a.length) (q : Nat) :
    (a.take o ++ seg ++ a.drop (o + seg.length))[q]? = if q < o then a[q]? else if q < o + seg.length then seg[q - o]? else a[q]? := by
  have hl : (a.take o).length = o := by rw [List.length_take]; omega
  rw [List.append_assoc]
  by_cases h1 : q < o
  · rw [if_pos h1, List.getElem?_append_left (by omega), List.getElem?_take, if_pos h1]
  · rw [if_neg h1, List.getElem?_append_right (by omega), hl]
    by_cases h2 : q < o + seg.length
    · rw [if_pos h2, List.getElem?_append_left (by omega)]
    · rw [if_neg h2, List.getElem?_append_right (by omega), List.getElem?_drop]
      congr 1
      omega
namespace Kd
section
variable {α : Type} {d : Kd α} {e base g n cap : Nat} {ok okp : Nat → Prop} {W : World} {xs : List α}
theorem R_elem (h : d.R e W base ok (.slice (some ⟨g, 0, none⟩) n cap) xs) (z : α) (i : Int) (h0 : 0 ≤ i) (h1 : i < n) :
    ∃ c, c.length = d.sz ∧ d.M W base (fun k => ok k ∧ k ≠ g) (xs.getD i.toNat z) c ∧ (∀ j u, c[j]? = some u → W.cell? ⟨g, i.toNat * d.sz + j, none⟩ = some u) ∧ ∀ j, W.frozen? ⟨g, i.toNat * d.sz + j, none⟩ = false := by
  obtain ⟨hn, hnc, hC⟩ := R_reads' h
  obtain ⟨_, inner, ho, hr⟩ := h
  have hil : i.toNat < xs.length := by omega
  have hseg : i.toNat * d.sz + d.sz ≤ inner.length := by rw [hr.1, ← Nat.succ_mul]; exact Nat.mul_le_mul_right _ hil
  have hM := hr.2 i.toNat _ (List.getElem?_eq_getElem hil)
  refine ⟨(inner.drop (i.toNat * d.sz)).take d.sz, by rw [List.length_take, List.length_drop]; omega, ?_, fun j u hu => ?_, fun j => ?_⟩
  · rw [List.getD_eq_getElem?_getD, List.getElem?_eq_getElem hil]
    exact d.M_mono (fun k hk => ⟨hk.1, fun he => hk.2 (by rw [he]; simp [Value.ownBlock])⟩) hM
  · rw [List.getElem?_take] at hu
    split at hu
    · rw [List.getElem?_drop] at hu
      have := ho.cells (g := g) (by simp [Value.ownBlock]) _ u hu
      rwa [add_plain] at this
    · cases hu
  · obtain ⟨cells, hc⟩ := zdq ho g (by simp [Value.ownBlock])
    exact zbr hc _
theorem R_seg (h : d.R e W base ok (.slice (some ⟨g, 0, none⟩) n cap) xs) (i : Int) (h0 : 0 ≤ i) (h1 : i < n) {c seg : List Value} {j : Nat} (hcl : c.length = d.sz) (hcc : ∀ j u, c[j]? = some u → W.cell? ⟨g, i.toNat * d.sz + j, none⟩ = some u)
    (hj : j + seg.length ≤ d.sz) {x' : α} (hM : d.M W base okp x' (c.take j ++ seg ++ c.drop (j + seg.length))) (hokp : ∀ k, okp k → ok k ∧ k ≠ g) :
    d.R e (W.setCells g (i.toNat * d.sz + j) seg) base ok (.slice (some ⟨g, 0, none⟩) n cap) (xs.set i.toNat x') ∧ W.grownBy (W.setCells g (i.toNat * d.sz + j) seg) (some g) := by
  obtain ⟨hn, hnc, _⟩ := R_reads' h
  obtain ⟨hok, inner, ho, hr⟩ := h
  have hil : i.toNat < xs.length := by omega
  have hseg : i.toNat * d.sz + d.sz ≤ inner.length := by rw [hr.1, ← Nat.succ_mul]; exact Nat.mul_le_mul_right _ hil
  have hin : inner.length = n * d.sz := by rw [hr.1, hn]
  obtain ⟨ho1, ho2⟩ := ho
  rcases ho2 with ⟨hv, _⟩ | ⟨g', cap', cur, hv, hb, hh, hnc', hcm, hcs, ht⟩
  · cases hv
  injection hv with ha _ hc
  injection ha with ha
  injection ha with hg
  subst hg; subst hc
  have hfit : i.toNat * d.sz + j + seg.length ≤ cur.size := by
    have : n * d.sz ≤ cap * d.sz := Nat.mul_le_mul_right _ hnc
    omega
  obtain ⟨cur', h3, h4, h5⟩ := zhb seg (i.toNat * d.sz + j) W cur hh hfit
  obtain ⟨s1, s2, s3, s4⟩ := zgt g seg (i.toNat * d.sz + j) W
  have hfar : ∀ k, k ≠ g → (W.setCells g (i.toNat * d.sz + j) seg).heap[k]? = W.heap[k]? := fun k hk => zha seg _ k hk
  have hcin : ∀ q, q < d.sz → c[q]? = inner[i.toNat * d.sz + q]? := by
    intro q hq
    have hq' : q < c.length := by omega
    have h6 := hcc q _ (List.getElem?_eq_getElem hq')
    rw [cell_of_row W g _ cur e (0, 0) hh] at h6
    rw [List.getElem?_eq_getElem hq', ← h6, ← ht, List.getElem?_take, if_pos (by rw [← hn]; omega), Array.getElem?_toList]
  refine ⟨⟨hok, inner.take (i.toNat * d.sz + j) ++ seg ++ inner.drop (i.toNat * d.sz + j + seg.length), ⟨?_, .inr ⟨g, cap, cur', by rw [List.length_set, hn], hb, h3, by rw [List.length_set, ← hn]; exact hnc, hcm, by rw [h4, hcs], ?_⟩⟩, ?_⟩,
    ⟨s1, s2, s3, by rw [s4]; exact Nat.le_refl _, fun k _ hk => hfar k (fun he => hk (by rw [he]))⟩⟩
  · rw [List.length_set]
    simp only [List.length_append, List.length_take, List.length_drop]
    rw [hr.1] at hseg ⊢
    omega
  · rw [List.length_set, ← hn]
    apply List.ext_getElem?
    intro q
    rw [List.getElem?_take, h5]
    rw [zgc cur.toList seg (i.toNat * d.sz + j) (by rw [Array.length_toList]; omega) q, zgc inner seg (i.toNat * d.sz + j) (by omega) q]
    have hcur : ∀ q, q < n * d.sz → cur.toList[q]? = inner[q]? := by
      intro q hq
      rw [← ht, List.getElem?_take, if_pos (by rw [← hn]; exact hq)]
    by_cases hq : q < n * d.sz
    · rw [if_pos hq, hcur q hq]
    · rw [if_neg hq, if_neg (by omega), if_neg (by omega), List.getElem?_eq_none (by omega)]
  · refine ⟨?_, fun m p hm => ?_⟩
    · rw [List.length_set]
      simp only [List.length_append, List.length_take, List.length_drop]
      rw [hr.1] at hseg ⊢
      omega
    · have hml : m < xs.length := by
        have := (List.getElem?_eq_some_iff.1 hm).1
        rwa [List.length_set] at this
      have hmfit : m * d.sz + d.sz ≤ inner.length := by rw [hr.1, ← Nat.succ_mul]; exact Nat.mul_le_mul_right _ hml
      have hgo : some g = (Value.slice (some ⟨g, 0, none⟩) n cap).ownBlock := by simp [Value.ownBlock]
      by_cases hmi : m = i.toNat
      · subst hmi
        rw [List.getElem?_set_self (by omega)] at hm
        injection hm with hm
        subst hm
        have hcells : ((inner.take (i.toNat * d.sz + j) ++ seg ++ inner.drop (i.toNat * d.sz + j + seg.length)).drop (i.toNat * d.sz)).take d.sz = c.take j ++ seg ++ c.drop (j + seg.length) := by
          apply List.ext_getElem?
          intro q
          rw [List.getElem?_take, List.getElem?_drop, zgc inner seg _ (by omega), zgc c seg j (by omega) q]
          by_cases hq : q < d.sz
          · rw [if_pos hq, hcin q hq]
            by_cases hq1 : q < j
            · rw [if_pos (by omega), if_pos hq1]
            · rw [if_neg (by omega), if_neg hq1]
              by_cases hq2 : q < j + seg.length
              · rw [if_pos (by omega), if_pos hq2]
                congr 1
                omega
              · rw [if_neg (by omega), if_neg hq2]
          · rw [if_neg hq, if_neg (by omega), if_neg (by omega), List.getElem?_eq_none (by omega)]
        rw [hcells]
        refine d.M_mono (fun k hk => ?_) (d.M_move (w1 := W.setCells g (i.toNat * d.sz + j) seg) (fun k hk => hfar k (hokp k hk).2) hM)
        exact ⟨(hokp k hk).1, fun he => (hokp k hk).2 (by rw [← hgo] at he; injection he)⟩
      · rw [List.getElem?_set_ne (by omega)] at hm
        have hold := hr.2 m p hm
        have hcells : ((inner.take (i.toNat * d.sz + j) ++ seg ++ inner.drop (i.toNat * d.sz + j + seg.length)).drop (m * d.sz)).take d.sz = (inner.drop (m * d.sz)).take d.sz := by
          apply List.ext_getElem?
          intro q
          rw [List.getElem?_take, List.getElem?_take, List.getElem?_drop, List.getElem?_drop, zgc inner seg _ (by omega)]
          by_cases hq : q < d.sz
          · rw [if_pos hq, if_pos hq]
            rcases Nat.lt_or_gt_of_ne hmi with hlt | hgt
            · have : m * d.sz + d.sz ≤ i.toNat * d.sz := by rw [← Nat.succ_mul]; exact Nat.mul_le_mul_right _ hlt
              rw [if_pos (by omega)]
            · have : i.toNat * d.sz + d.sz ≤ m * d.sz := by rw [← Nat.succ_mul]; exact Nat.mul_le_mul_right _ hgt
              rw [if_neg (by omega), if_neg (by omega)]
          · rw [if_neg hq, if_neg hq]
        rw [hcells]
        refine d.M_move (fun k hk => hfar k (fun he => hk.2 (by rw [he]; exact hgo))) hold
end
end Kd
namespace Kd
section
variable {α : Type} {F : Kd α → Kd α} {sz : Nat} {E : List Nat} {hs : ∀ n, (upto F sz E n).sz = sz} {hE : ∀ n q, q ∈ (upto F sz E n).E → q ∈ E}
end
end Kd
namespace Kd
theorem reps_append {α : Type} {R : α → List Value → Prop} {size : Nat} {ps qs : List α} {cs ds : List Value} (h : Reps R size ps cs) (h' : Reps R size qs ds) : Reps R size (ps ++ qs) (cs ++ ds) := by
  refine ⟨by rw [List.length_append, List.length_append, h.1, h'.1, Nat.add_mul], fun j p hj => ?_⟩
  rcases Nat.lt_or_ge j ps.length with hlt | hge
  · rw [List.getElem?_append_left hlt] at hj
    have hle : j * size + size ≤ cs.length := by rw [h.1, ← Nat.succ_mul]; exact Nat.mul_le_mul_right _ hlt
    rw [List.drop_append_of_le_length (by omega), List.take_append_of_le_length (by rw [List.length_drop]; omega)]
    exact h.2 j p hj
  · rw [List.getElem?_append_right hge] at hj
    have h2 := h'.2 (j - ps.length) p hj
    have hle : ps.length * size ≤ j * size := Nat.mul_le_mul_right _ hge
    rw [List.drop_append, List.drop_eq_nil_of_le (by rw [h.1]; exact hle), List.nil_append, h.1, ← Nat.sub_mul]
    exact h2
section
variable {P : Program} {ops : Array Oper} {rest : List Oper} {o : Oper} {a : Act} {Q : Exit → Act → World → Prop} {α : Type}
theorem zc8 (d : Kd α) {Rr : α → List Value → Prop} {w0 W : World} (base : Nat) (hgd : o.guard = none) (s x : Operand) (t e : TypeId) (z : Value) (bytes : Nat)
    (ho : o.op = .call { callee := .builtin .append, args := #[s, x], argTypes := #[t, t] })
    (ht : P.underlying t = some (.slice e)) (hinfo : (P.info? e).map (fun i => (i.zero, i.size, i.bytes)) = some (some z, d.sz, bytes)) (hz : z.cells.size = d.sz) (hs0 : 0 < d.sz) (hb0 : 0 < bytes)
    (v : Value) (xs ys : List α) (A : Option Addr) (m c : Nat) (ok okp : Nat → Prop) (hs : a.eval s = v) (hx : a.eval x = .slice A m c)
    (HO : d.R e W base ok v xs) (HR : zb2 Rr d.sz W A m ys) (hKM : ∀ x cs, Rr x cs → d.M W base okp x cs) (hokp : ∀ k, okp k → ok k ∧ some k ≠ v.ownBlock) (hfresh : ∀ k, W.heap.size ≤ k → ok k)
    (HB : Below base w0 W) (hbase : base ≤ W.heap.size) (hl : (xs.length + m) * bytes ≤ 140737488355328)
    (h : ∀ v1 w1, d.R e w1 base ok v1 (xs ++ ys) → Below base w0 w1 → W.grownBy w1 v.ownBlock → (v1.ownBlock = v.ownBlock ∨ ∃ b, v1.ownBlock = some b ∧ W.heap.size ≤ b) → wpList P ops Q rest (a.put o.dst v1) w1) :
    wpList P ops Q (o :: rest) a W := by
  obtain ⟨i0, hi, hzz⟩ := Option.map_eq_some_iff.1 hinfo
  simp only [Prod.mk.injEq] at hzz
  obtain ⟨hz0, hz1, hz2⟩ := hzz
  have hm : ys.length = m := HR.1
  have hlen : xs.length + m ≤ 140737488355328 := Nat.le_trans (Nat.le_mul_of_pos_right _ hb0) hl
  obtain ⟨hok, inner, hown, hr⟩ := HO
  have hrun : ∃ v1 w1, (Builtin.append_ #[t, t] o.type #[v, .slice A m c]).run P W = .ok v1 w1 ∧ d.R e w1 base ok v1 (xs ++ ys) ∧ W.grownBy w1 v.ownBlock ∧ (v1.ownBlock = v.ownBlock ∨ ∃ b, v1.ownBlock = some b ∧ W.heap.size ≤ b) := by
    rcases A with _ | ad
    · have h0 : m = 0 := by
        rcases Nat.eq_zero_or_pos m with h0 | h0
        · exact h0
        · obtain ⟨ad, h, _⟩ := HR.2.2 h0
          cases h
      subst h0
      obtain rfl : ys = [] := List.eq_nil_of_length_eq_zero hm
      refine ⟨v, W, ?_, by rw [List.append_nil]; exact ⟨hok, inner, hown, hr⟩, World.grownBy.refl W _, .inl rfl⟩
      rcases hown.2 with ⟨rfl, hn⟩ | ⟨g, cap, cur, rfl, _, _, hnc, _⟩
      · simp [Builtin.append_, run_underlying ht, sizeOf, typeInfo, hi, Builtin.lenOf, Builtin.firstCells]
      · simp [Builtin.append_, run_underlying ht, sizeOf, typeInfo, hi, Builtin.lenOf, Builtin.firstCells, hnc, storeCells]
    · obtain ⟨news, hnr, hnc⟩ := zb2.inner_ HR
      have hnM : Reps (d.M W base okp) d.sz ys news := hnr.imp_ (fun p c hp => hKM p c hp)
      have hone : ∀ u ∈ news, u.oneCell' = true := by
        intro u hu
        obtain ⟨q, hq, rfl⟩ := List.mem_iff_getElem.1 hu
        have hql : q / d.sz < ys.length := by
          rw [Nat.div_lt_iff_lt_mul hs0]
          rw [← hnM.1]
          exact hq
        have hc := hnM.2 (q / d.sz) _ (List.getElem?_eq_getElem hql)
        refine d.K_one (d.K_of_M hc) _ ?_
        rw [List.mem_iff_getElem?]
        refine ⟨q % d.sz, ?_⟩
        rw [List.getElem?_take, if_pos (Nat.mod_lt _ hs0), List.getElem?_drop, Nat.mul_comm, Nat.div_add_mod, List.getElem?_eq_getElem hq]
      obtain ⟨v1, w1, hrun, h2, hg, _, hat⟩ := run_append_own_at (P := P) W base t o.type e i0 z d.sz bytes ht hi hz0 hz1 hz2 hz hs0 v xs.length inner hown ad m c news (by rw [hnM.1, hm]) hnc hone (by simp only [maxLen]; omega) hl hbase
      have hat' : v1.ownBlock = v.ownBlock ∨ ∃ b, v1.ownBlock = some b ∧ W.heap.size ≤ b := by
        rcases hat with hat | hat
        · exact .inl hat
        · exact .inr ⟨_, hat, Nat.le_refl _⟩
      have hne : ∀ k, some k ≠ v.ownBlock → k < W.heap.size → some k ≠ v1.ownBlock := by
        intro k hk hlt
        rcases hat' with hat | ⟨b, hb, hle⟩
        · rw [hat]; exact hk
        · rw [hb]
          intro he
          injection he with he
          omega
      have step : ∀ {q : α} {c : List Value} {o : Nat → Prop}, d.M W base o q c → (∀ k, o k → ok k ∧ some k ≠ v.ownBlock) → d.M w1 base (fun k => ok k ∧ some k ≠ v1.ownBlock) q c := by
        intro q c o hq ho
        have h1 := d.M_move (w1 := w1) (fun k hk => hg.block k hk.2.2.1 (ho k hk.1).2) (d.M_bound hq)
        exact d.M_mono (fun k hk => ⟨(ho k hk.1).1, hne k (ho k hk.1).2 hk.2.2.1⟩) h1
      refine ⟨v1, w1, hrun, ⟨fun k hk => ?_, inner ++ news, by rw [List.length_append, hm]; exact h2, reps_append (hr.imp_ (fun _ _ hq => step hq (fun _ hk => hk))) (hnM.imp_ (fun _ _ hq => step hq hokp))⟩, hg, hat'⟩
      rcases hat' with hat | ⟨b, hb, hle⟩
      · exact hok k (hat ▸ hk)
      · rw [hb] at hk
        injection hk with hk
        exact hfresh k (by omega)
  obtain ⟨v1, w1, hr1, h1, hg, hat⟩ := hrun
  refine wpList_plain hgd fun K hK => ?_
  unfold Oper.wp execOp
  simp only [ho, resolve, invoke, builtin, Sem.run_bind, Sem.run_pure, Result.andThen_ok, List.map_toArray, List.map_cons, List.map_nil, hs, hx, hr1]
  exact hK _ _ (h v1 w1 h1 (HB.grown hg hbase (zck hown)) hg hat)
end
end Kd
namespace Kd
section
variable {P : Program} {ops : Array Oper} {rest : List Oper} {o : Oper} {a : Act} {Q : Exit → Act → World → Prop} {α : Type}
end
end Kd
theorem add_add (a : Addr) (i j : Nat) : (a.add i).add j = a.add (i + j) := by
  unfold Addr.add
  by_cases h1 : i = 0 <;> by_cases h2 : j = 0 <;> simp [h1, h2, Nat.add_assoc]
namespace Kd
section
variable {α : Type} {k : Kd α} {w : World} {A : Option Addr} {xs : List α} {m c : Nat}
theorem C_take (h : k.C w A xs.length xs) (hm : m ≤ xs.length) : k.C w A (xs.take m).length (xs.take m) := by
  have hl : (xs.take m).length = m := by rw [List.length_take]; omega
  refine ⟨rfl, by rw [hl]; have := h.2.1; omega, fun hp => ?_⟩
  obtain ⟨ad, e, hc⟩ := h.2.2 (by omega)
  refine ⟨ad, e, fun j p hj => hc j p ?_⟩
  rw [List.getElem?_take] at hj
  split at hj
  · exact hj
  · cases hj
theorem C_drop (h : k.C w A xs.length xs) (hm : m ≤ xs.length) (hc : xs.length ≤ c) : k.C w (if c = m then A else A.map (·.add (m * k.sz))) (xs.drop m).length (xs.drop m) := by
  have hl : (xs.drop m).length = xs.length - m := List.length_drop
  refine ⟨rfl, by rw [hl]; have := h.2.1; omega, fun hp => ?_⟩
  rw [hl] at hp
  obtain ⟨ad, rfl, hcell⟩ := h.2.2 (by omega)
  rw [if_neg (by omega)]
  refine ⟨ad.add (m * k.sz), rfl, fun j p hj => ?_⟩
  rw [List.getElem?_drop] at hj
  obtain ⟨cs, h1, h2, h3⟩ := hcell (m + j) p hj
  refine ⟨cs, h1, h2, fun i u hu => ?_⟩
  rw [add_add, show m * k.sz + (j * k.sz + i) = (m + j) * k.sz + i by rw [Nat.add_mul]; omega]
  exact h3 i u hu
end
end Kd
section
variable {P : Program}
end
theorem za7 {w W : World} (h : Below w.heap.size w W) : w.heap.size ≤ W.heap.size := h.size
theorem za1 {w W w2 : World} (h : Below w.heap.size w W) (k : Below W.heap.size W w2) : Below w.heap.size w w2 := below_then h h.size k
theorem zau {w W : World} {g j : Nat} {v : Value} (h : Below w.heap.size w W) (hg : w.heap.size ≤ g) : Below w.heap.size w (W.setCell ⟨g, j, none⟩ v) := h.setCell hg _
theorem add_block (a : Addr) (i : Nat) : (a.add i).block = a.block := by unfold Addr.add; split <;> rfl
theorem cell_far {W : World} {p a : Addr} (h : a.block ≠ p.block) (u : Value) : (W.setCell p u).cell? a = W.cell? a := by
  have := Below.heap_setCell W p u a.block h
  simp [World.cell?, this]
theorem zas {w : World} {g : Nat} {t : TypeId} {cs cs' : Array Value} (h : w.heap[g]? = some (.cells cs t (0, 0))) (i : Nat) (u : Value) (e : cs.setIfInBounds i u = cs') : (w.setCell ⟨g, i, none⟩ u).heap[g]? = some (.cells cs' t (0, 0)) := e ▸ blk_set h i u
theorem zav {base : Nat} {w W : World} (h : Below base w W) : Below base w W.drew := h.drew
namespace Kd
section
variable {α β : Type} {d : Kd α} {d' : Kd β} {e e' base base' n : Nat} {ok ok' : Nat → Prop} {w W w1 W1 : World} {v u : Value} {xs : List α} {ys : List β} {A : Option Addr} {c : Nat}
end
section
variable {α : Type} {enc : α → Value} {h1 : ∀ x, (enc x).oneCell' = true} {w W : World} {A : Option Addr} {n g : Nat} {xs : List α}
end
end Kd
namespace Kd
section
variable {α : Type} {d : Kd α} {e base g : Nat} {ok : Nat → Prop} {w w1 : World} {v : Value} {xs : List α} {o : Obj}
theorem R_elderB (h : d.R e w base ok v xs) (a : Nat) (ha : w.heap.size ≤ a) : d.R e w base (fun k => ok k ∧ k ≠ a) v xs := zbw (zc7 h) (fun k hk => ⟨hk.1, by have := hk.2.2.1; omega⟩)
theorem zbh (hb : w.heap[g]? = some o) : ∀ k, w.heap.size ≤ k → k ≠ g := fun k hk => by have := zbj hb; omega
end
end Kd
section
variable {P : Program} {ops : Array Oper} {rest : List Oper} {o : Oper} {a : Act} {Q : Exit → Act → World → Prop}
theorem box_event {W : World} (hgd : o.guard = none) {N : Tmp} (_hd : o.dst = some N) {cs : Array Value} {t : TypeId}
    (hrun : (execOp a.eval o).run P W = .ok (.value (.pointer (some ⟨W.heap.size, 0, none⟩))) (W.alloc (.cells cs t (0, 0))))
    (h : ∀ g, g = W.heap.size → ∀ w1, w1.heap[g]? = some (.cells cs t (0, 0)) → Below W.heap.size W w1 → wpList P ops Q rest (a.put o.dst (.pointer (some ⟨g, 0, none⟩))) w1) : wpList P ops Q (o :: rest) a W :=
  Kd.event_run hgd hrun (h _ rfl _ (zbp W _) (za8 (Below.refl _ _) _))
end
namespace Kd
section
variable {α : Type} {enc : α → Value} {h1 : ∀ x, (enc x).oneCell' = true} {e base g n cap : Nat} {ok : Nat → Prop} {W : World} {xs : List α}
end
end Kd
section
variable {P : Program} {ops : Array Oper} {rest : List Oper} {o : Oper} {a : Act} {Q : Exit → Act → World → Prop}
theorem zdl {W w1 : World} (hgd : o.guard = none) {t : TypeId} {p : Tmp} {v : Operand} (_ho : o.op = .store t (.tmp p) v) (hN : o.dst = none)
    (hrun : (execOp a.eval o).run P W = .ok .skip w1) (h : ∀ w', w' = w1 → wpList P ops Q rest a w') : wpList P ops Q (o :: rest) a W := by
  refine wpList_plain hgd fun K hK => ?_
  unfold Oper.wp
  rw [hrun]
  show K (a.put o.dst undef) w1
  rw [hN]
  exact hK _ _ (h _ rfl)
end
namespace Kd
section
variable {α : Type} {enc : α → Value} {h1 : ∀ x, (enc x).oneCell' = true} {e base g n cap : Nat} {ok : Nat → Prop} {W : World} {xs : List α}
end
end Kd
section
variable {P : Program} {ops : Array Oper} {rest : List Oper} {o : Oper} {a : Act} {Q : Exit → Act → World → Prop} {W : World}
theorem zbb {N : Tmp} (_hN : o.dst = some N) (h : wpList P ops Q (o :: rest) a W) : wpList P ops Q (o :: rest) a W := h
theorem zdt {t : TypeId} {p : Tmp} {v : Operand} (_ho : o.op = .store t (.tmp p) v) (h : wpList P ops Q (o :: rest) a W) : wpList P ops Q (o :: rest) a W := h
end
section
variable {P : Program} {ops : Array Oper} {o : Oper} {a : Act} {Q : Exit → Act → World → Prop} {Kc : Act → World → Prop}
theorem zib {W w1 : World} {v : Value} (hw : Region.wanted o (yielded ops a.tmps) = true) (hrun : (execOp a.eval o).run P W = .ok (.value v) w1) (h : Kc (a.put o.dst v) w1) : if Region.wanted o (yielded ops a.tmps) = true then Oper.wp P o a W Kc Q else Kc (a.put o.dst undef) W := by
  rw [if_pos hw]
  unfold Oper.wp
  rw [hrun]
  exact h
theorem zfk {W : World} (hw : Region.wanted o (yielded ops a.tmps) = true) {N : Tmp} (_hd : o.dst = some N) {cs : Array Value} {t : TypeId}
    (hrun : (execOp a.eval o).run P W = .ok (.value (.pointer (some ⟨W.heap.size, 0, none⟩))) (W.alloc (.cells cs t (0, 0))))
    (h : ∀ g, g = W.heap.size → ∀ w1, w1.heap[g]? = some (.cells cs t (0, 0)) → Below W.heap.size W w1 → Kc (a.put o.dst (.pointer (some ⟨g, 0, none⟩))) w1) : if Region.wanted o (yielded ops a.tmps) = true then Oper.wp P o a W Kc Q else Kc (a.put o.dst undef) W :=
  zib hw hrun (h _ rfl _ (zbp W _) (za8 (Below.refl _ _) _))
namespace Kd
variable {α : Type}
theorem R_lit_step (d : Kd α) {w0 W : World} (base e : Nat) (hw : Region.wanted o (yielded ops a.tmps) = true) {N : Tmp} (_hd : o.dst = some N) {xs : List α} {inner : List Value} {ok okp : Nat → Prop}
    (hrun : (execOp a.eval o).run P W = .ok (.value (.slice (some ⟨W.heap.size, 0, none⟩) xs.length xs.length)) (W.alloc (.cells inner.toArray e)))
    (hrep : Reps (d.M W base okp) d.sz xs inner) (hok : ∀ k, okp k → ok k) (hfresh : ok W.heap.size) (HB : Below base w0 W) (hbase : base ≤ W.heap.size) (hm : xs.length ≤ 9223372036854775807)
    (h : ∀ v1 w1, d.R e w1 base ok v1 xs → Below base w0 w1 → W.grownBy w1 none → (∃ b, v1.ownBlock = some b ∧ W.heap.size ≤ b) → Kc (a.put o.dst v1) w1) : if Region.wanted o (yielded ops a.tmps) = true then Oper.wp P o a W Kc Q else Kc (a.put o.dst undef) W := by
  refine zib hw hrun (h _ _ ⟨fun k hk => ?_, inner, ?_, ?_⟩ (HB.alloc hbase _) (World.grownBy_alloc W _ none) ⟨W.heap.size, by simp [Value.ownBlock], Nat.le_refl _⟩)
  · have : W.heap.size = k := by simpa [Value.ownBlock] using hk
    subst this
    exact hfresh
  · have h2 := World.ownsRow_lit (base := base) (e := e) (size := d.sz) W inner.toArray xs.length hbase (by simpa [maxLen] using hm) (by simpa using hrep.1)
    simpa using h2
  · refine hrep.imp_ (fun p c hp => d.M_mono (fun k hk => ⟨hok k hk.1, fun he => ?_⟩) (M_below (d.M_bound hp) (za8 (Below.refl _ _) _)))
    have h3 : k = W.heap.size := by simpa [Value.ownBlock] using he
    have := hk.2.2.1
    omega
end Kd
end
section
variable {P : Program} {tmps : Array Value} {w : World}
end
namespace Kd
section
variable {P : Program} {α : Type}
end
section
variable {P : Program} {ops : Array Oper} {rest : List Oper} {o : Oper} {a : Act} {Q : Exit → Act → World → Prop} {Kc : Act → World → Prop} {α : Type}
end
end Kd
end Go.Proofs.ZW.PrintWords
end
section
namespace Go.Proofs.ZW.PrintLast
section
variable {P : Program} {ops : Array Oper} {Q : Exit → Act → World → Prop} {md : Region.Mode} {S : World → Prop} {ds : List Nat}
def Region.zd1 (md : Region.Mode) (ops : Array Oper) (i : Nat) : Nat → Nat → Bool
 | 0, _ => false
 | fuel + 1, d => match ops[d]? with
  | some o => o.after.any fun e => Region.binds md e && (e.on == i || Region.zd1 md ops i fuel e.on)
  | none => false
def Region.zf4 (md : Region.Mode) (ops : Array Oper) (listed : Array Bool) : Bool :=
 (List.range ops.size).all fun j => !listed.getD j false || match ops[j]? with
  | some o => o.after.all fun e => !Region.binds md e || listed.getD e.on false
  | none => true
def Region.lastB (md : Region.Mode) (ops : Array Oper) (listed : Array Bool) (ds : List Nat) (i : Nat) : Bool :=
 ds.all fun d => listed.getD d true || Region.zd1 md ops i ops.size d
def zdf (md : Region.Mode) (ops : Array Oper) (listed : Array Bool) : Prop :=
 ∀ j oj, ops[j]? = some oj → listed.getD j false = true → ∀ e ∈ oj.after, Region.binds md e = true → listed.getD e.on false = true
theorem Region.closedB_spec {listed : Array Bool} (h : Region.zf4 md ops listed = true) : zdf md ops listed := by
 intro j oj hj hl e he hb
 have hlt : j < ops.size := (Array.getElem?_eq_some_iff.1 hj).1
 have h1 := List.all_eq_true.1 h j (List.mem_range.2 hlt)
 simp only [hl, hj, Bool.not_true, Bool.false_or] at h1
 have h2 := Array.all_eq_true_iff_forall_mem.1 h1 e he
 simpa [hb] using h2
theorem zdf.set {listed : Array Bool} {i : Nat} (h : zdf md ops listed) (hi : i ∈ Region.ready md ops listed) : zdf md ops (listed.setIfInBounds i true) := by
 obtain ⟨_, oi, hoi, hall⟩ := mem_ready.1 hi
 intro j oj hj hl e he hb
 by_cases hij : i = j
 ·subst hij
  have : oj = oi := Option.some.inj (hj.symm.trans hoi)
  subst this
  exact getD_set_true (hall e he hb)
 ·rw [getD_set_ne false hij] at hl
  exact getD_set_true (h j oj hj hl e he hb)
theorem Region.zg4 {listed : Array Bool} {i : Nat} (hc : zdf md ops listed) : ∀ (fuel d : Nat), Region.zd1 md ops i fuel d = true → listed.getD d false = true → listed.getD i false = true
 | 0, _, h, _ => by simp [Region.zd1] at h
 | fuel + 1, d, h, hl => by
  unfold Region.zd1 at h
  cases ho : ops[d]? with
  | none => rw [ho] at h; simp at h
  | some o =>
   rw [ho] at h
   obtain ⟨e, he, h1⟩ := Array.any_eq_true'.1 h
   simp only [Bool.and_eq_true, Bool.or_eq_true, beq_iff_eq] at h1
   have hle := hc d o ho hl e he h1.1
   rcases h1.2 with h2 | h2
   ·rw [← h2]; exact hle
   ·exact Region.zg4 hc fuel e.on h2 hle
theorem Region.zik {listed : Array Bool} {i d fuel : Nat} (hc : zdf md ops listed) (hr : Region.zd1 md ops i fuel d = true) (hun : listed.getD i true = false) : d ∉ Region.ready md ops listed := by
 intro hd
 obtain ⟨_, o, ho, hall⟩ := mem_ready.1 hd
 have hi : listed.getD i false = true := by
  cases fuel with
  | zero => simp [Region.zd1] at hr
  | succ n =>
   unfold Region.zd1 at hr
   rw [ho] at hr
   obtain ⟨e, he, h1⟩ := Array.any_eq_true'.1 hr
   simp only [Bool.and_eq_true, Bool.or_eq_true, beq_iff_eq] at h1
   have hle := hall e he h1.1
   rcases h1.2 with h2 | h2
   ·rw [← h2]; exact hle
   ·exact Region.zg4 hc n e.on h2 hle
 rcases Nat.lt_or_ge i listed.size with h' | h'
 ·simp [h'] at hun hi
  rw [hun] at hi
  cases hi
 ·simp [Array.getElem?_eq_none h'] at hun
def zbd (P : Program) (md : Region.Mode) (ops : Array Oper) (Q : Exit → Act → World → Prop) (S : World → Prop) (ds : List Nat) : Nat → Array Bool → Act → World → Prop
 | 0, listed, a, w => Region.ready md ops listed = [] ∧ Q .normal a w
 | fuel + 1, listed, a, w =>
  (Region.ready md ops listed = [] → Q .normal a w) ∧
  ∀ i ∈ Region.ready md ops listed, wpOp P ops Q i (fun a' w' => (i ∉ ds → S w → S w') ∧ zbd P md ops Q S ds fuel (listed.setIfInBounds i true) a' w') a w
theorem zgv : ∀ (fuel : Nat) (listed : Array Bool) (a : Act) (w : World), zbd P md ops Q S ds fuel listed a w → wpAny P md ops Q fuel listed a w
 | 0, _, _, _, h => h
 | fuel + 1, _, _, _, h => ⟨h.1, fun i hi => wpOp_mono (fun a' w' h' => zgv fuel _ a' w' h'.2) (h.2 i hi)⟩
theorem ziq {i : Nat} {oi : Oper} {v : Value} (hi : ops[i]? = some oi) (hsel : ∀ (j : Nat) (o : Oper) cs b, ops[j]? = some o → o.op ≠ .select cs b)
  (hQ : ∀ c a w, Q (.panic c) (a.put oi.dst v) w → Q (.panic c) a w) (n : Nat) :
  ∀ (fuel : Nat) (listed : Array Bool) (a : Act) (w : World),
   (∀ j oj, ops[j]? = some oj → j ≠ i → listed.getD j true = false → (∀ e ∈ oj.after, Region.binds md e = true → e.on ≠ i) → oi.apart ops oj = true) →
   zdf md ops listed → (∀ d ∈ ds, listed.getD d true = false → Region.zd1 md ops i n d = true) →
   i ∈ Region.ready md ops listed → YieldsIf P ops S oi v a → S w →
   zbd P md ops Q S ds fuel (listed.setIfInBounds i true) (a.put oi.dst v) w → zbd P md ops Q S ds (fuel + 1) listed a w := by
 intro fuel
 induction fuel with
 | zero =>
  intro listed a w _ _ _ hr hy hS H
  refine ⟨fun h => (by rw [h] at hr; cases hr), fun j hj => ?_⟩
  by_cases hji : j = i
  ·subst hji; exact hy.wpOp hi hS ⟨fun _ h => h, H⟩
  ·have := ready_mono hj hji
   rw [H.1] at this
   cases this
 | succ fuel ih =>
  intro listed a w hfree hc hd hr hy hS H
  refine ⟨fun h => (by rw [h] at hr; cases hr), fun j hj => ?_⟩
  by_cases hji : j = i
  ·subst hji; exact hy.wpOp hi hS ⟨fun _ h => h, H⟩
  ·have h1 := H.2 j (ready_mono hj hji)
   obtain ⟨hjun, oj, hoj, hall⟩ := mem_ready.1 hj
   have hiun := (mem_ready.1 hr).1
   have hnot : ∀ e ∈ oj.after, Region.binds md e = true → e.on ≠ i := fun e he hb heq => by
    have h1 := hall e he hb
    rw [heq] at h1
    rcases Nat.lt_or_ge i listed.size with h' | h'
    ·simp [h'] at hiun h1; rw [hiun] at h1; cases h1
    ·simp [Array.getElem?_eq_none h'] at h1
   have hjd : j ∉ ds := fun hm => Region.zik hc (hd j hm hjun) hiun hj
   have h2 := wpOp_putIf hoj (hfree j oj hoj hji hjun hnot) (fun cs b => hsel i oi cs b hi) (fun cs b => hsel j oj cs b hoj) hQ hy h1
   have hfree' : ∀ k ok, ops[k]? = some ok → k ≠ i → (listed.setIfInBounds j true).getD k true = false →
     (∀ e ∈ ok.after, Region.binds md e = true → e.on ≠ i) → oi.apart ops ok = true := fun k ok hk hki hun hno => by
    refine hfree k ok hk hki ?_ hno
    by_cases hjk : j = k
    ·subst hjk; exact hjun
    ·rw [getD_set_ne true hjk] at hun; exact hun
   have hd' : ∀ d ∈ ds, (listed.setIfInBounds j true).getD d true = false → Region.zd1 md ops i n d = true := fun d hm hun => by
    refine hd d hm ?_
    by_cases hjk : j = d
    ·subst hjk; exact hjun
    ·rw [getD_set_ne true hjk] at hun; exact hun
   refine wpOp_mono (fun a' w' h3 => ⟨h3.2.1, ih (listed.setIfInBounds j true) a' w' hfree' (hc.set hj) hd' (ready_mono hr (Ne.symm hji)) h3.1 (h3.2.1 hjd hS) ?_⟩) h2
   rw [Array.setIfInBounds_comm _ _ hji]
   exact h3.2.2
theorem zix {i : Nat} {oi : Oper} {v : Value} (hi : ops[i]? = some oi) (hsel : ∀ (j : Nat) (o : Oper) cs b, ops[j]? = some o → o.op ≠ .select cs b)
  (hQ : ∀ c a w, Q (.panic c) (a.put oi.dst v) w → Q (.panic c) a w) :
  ∀ (fuel : Nat) (listed : Array Bool) (a : Act) (w : World),
   (∀ j oj, ops[j]? = some oj → j ≠ i → listed.getD j true = false → (∀ e ∈ oj.after, Region.binds md e = true → e.on ≠ i) → oi.apart ops oj = true) →
   i ∈ Region.ready md ops listed → Yields P ops oi v a →
   zbd P md ops Q S ds fuel (listed.setIfInBounds i true) (a.put oi.dst v) w → zbd P md ops Q S ds (fuel + 1) listed a w := by
 intro fuel
 induction fuel with
 | zero =>
  intro listed a w _ hr hy H
  refine ⟨fun h => (by rw [h] at hr; cases hr), fun j hj => ?_⟩
  by_cases hji : j = i
  ·subst hji; exact (hy.yieldsIf (S := fun _ => True)).wpOp hi trivial ⟨fun _ h => h, H⟩
  ·have := ready_mono hj hji
   rw [H.1] at this
   cases this
 | succ fuel ih =>
  intro listed a w hfree hr hy H
  refine ⟨fun h => (by rw [h] at hr; cases hr), fun j hj => ?_⟩
  by_cases hji : j = i
  ·subst hji; exact (hy.yieldsIf (S := fun _ => True)).wpOp hi trivial ⟨fun _ h => h, H⟩
  ·have h1 := H.2 j (ready_mono hj hji)
   obtain ⟨hjun, oj, hoj, hall⟩ := mem_ready.1 hj
   have hiun := (mem_ready.1 hr).1
   have hnot : ∀ e ∈ oj.after, Region.binds md e = true → e.on ≠ i := fun e he hb heq => by
    have h1 := hall e he hb
    rw [heq] at h1
    rcases Nat.lt_or_ge i listed.size with h' | h'
    ·simp [h'] at hiun h1; rw [hiun] at h1; cases h1
    ·simp [Array.getElem?_eq_none h'] at h1
   have h2 := wpOp_put hoj (hfree j oj hoj hji hjun hnot) (fun cs b => hsel i oi cs b hi) (fun cs b => hsel j oj cs b hoj) hQ hy h1
   have hfree' : ∀ k ok, ops[k]? = some ok → k ≠ i → (listed.setIfInBounds j true).getD k true = false →
     (∀ e ∈ ok.after, Region.binds md e = true → e.on ≠ i) → oi.apart ops ok = true := fun k ok hk hki hun hno => by
    refine hfree k ok hk hki ?_ hno
    by_cases hjk : j = k
    ·subst hjk; exact hjun
    ·rw [getD_set_ne true hjk] at hun; exact hun
   refine wpOp_mono (fun a' w' h3 => ⟨h3.2.1, ih (listed.setIfInBounds j true) a' w' hfree' (ready_mono hr (Ne.symm hji)) h3.1 ?_⟩) h2
   rw [Array.setIfInBounds_comm _ _ hji]
   exact h3.2.2
theorem zis {i : Nat} {oi : Oper} {v : Value} {fuel : Nat} {listed : Array Bool} {a : Act} {w : World} (hi : ops[i]? = some oi)
  (hs : Region.noSelect ops = true) (hf : Region.free md ops listed i = true) (hr : (Region.ready md ops listed).contains i = true)
  (hc : Region.zf4 md ops listed = true) (hl : Region.lastB md ops listed ds i = true)
  (hQ : ∀ c a w, Q (.panic c) (a.put oi.dst v) w → Q (.panic c) a w) (hy : YieldsIf P ops S oi v a) (hS : S w)
  (h : zbd P md ops Q S ds fuel (listed.setIfInBounds i true) (a.put oi.dst v) w) : zbd P md ops Q S ds (fuel + 1) listed a w :=
 ziq hi (Region.noSelect_spec hs) hQ ops.size fuel listed a w (Region.free_spec hi hf) (Region.closedB_spec hc)
  (fun d hm hun => by have := List.all_eq_true.1 hl d hm; rw [hun] at this; simpa using this) (by simpa using hr) hy hS h
theorem ziw {rs : List Nat} {fuel : Nat} {listed : Array Bool} {a : Act} {w : World} (hr : Region.ready md ops listed = rs) (hne : rs ≠ [])
  (h : ∀ i ∈ rs, wpOp P ops Q i (fun a' w' => (i ∉ ds → S w → S w') ∧ zbd P md ops Q S ds fuel (listed.setIfInBounds i true) a' w') a w) : zbd P md ops Q S ds (fuel + 1) listed a w :=
 ⟨fun h0 => absurd (hr ▸ h0) hne, hr ▸ h⟩
theorem zir {listed : Array Bool} {a : Act} {w : World} (hr : Region.ready md ops listed = []) (h : Q .normal a w) :
  ∀ fuel, zbd P md ops Q S ds fuel listed a w
 | 0 => ⟨hr, h⟩
 | _ + 1 => ⟨fun _ => h, by rw [hr]; simp⟩
theorem zit {id : Nat} {a : Act} {w : World} (hm : P.follows .mixedOrders = true)
  (h : zbd P .any ops Q S ds ops.size (Array.replicate ops.size false) a { w with drawn := w.drawn + 1 }) : (Code.region id ops true).wp P Q a w :=
 wp_region_any hm (zgv _ _ _ _ h)
end
section
variable {P : Program} {ops : Array Oper} {Q : Exit → Act → World → Prop} {md : Region.Mode} {S : World → Prop} {ds : List Nat}
def zcp (P : Program) (md : Region.Mode) (ops : Array Oper) (Q : Exit → Act → World → Prop) (S : World → Prop) (ds : List Nat) (fuel : Nat) (listed : Array Bool) (a : Act) (w : World) (rs : List Nat) : Prop :=
 ∀ i ∈ rs, wpOp P ops Q i (fun a' w' => (i ∉ ds → S w → S w') ∧ zbd P md ops Q S ds fuel (listed.setIfInBounds i true) a' w') a w
theorem zcp.nil {fuel : Nat} {listed : Array Bool} {a : Act} {w : World} : zcp P md ops Q S ds fuel listed a w [] := fun _ h => by cases h
theorem zcp.cons {fuel : Nat} {listed : Array Bool} {a : Act} {w : World} {i : Nat} {o : Oper} {rs : List Nat} (ho : ops[i]? = some o) (hd : i ∉ ds)
  (h : ∀ K' : Act → World → Prop, Shut (∀ a w, S w → (S w → zbd P md ops Q S ds fuel (listed.setIfInBounds i true) a w) → K' a w) → if Region.wanted o (yielded ops a.tmps) = true then Oper.wp P o a w K' Q else K' (a.put o.dst undef) w)
  (hs : zcp P md ops Q S ds fuel listed a w rs) : zcp P md ops Q S ds fuel listed a w (i :: rs) := fun j hj => by
 rcases List.mem_cons.1 hj with rfl | hj
 ·exact wpOp_step ho (fun K' hK => h K' (fun a w hS hW => hK a w ⟨fun _ _ => hS, hW hS⟩))
 ·exact hs j hj
theorem zcp.cons_last {fuel : Nat} {listed : Array Bool} {a : Act} {w : World} {i : Nat} {o : Oper} {rs : List Nat} (ho : ops[i]? = some o) (hd : i ∈ ds)
  (h : ∀ K' : Act → World → Prop, Shut (∀ a w, zbd P md ops Q S ds fuel (listed.setIfInBounds i true) a w → K' a w) → if Region.wanted o (yielded ops a.tmps) = true then Oper.wp P o a w K' Q else K' (a.put o.dst undef) w)
  (hs : zcp P md ops Q S ds fuel listed a w rs) : zcp P md ops Q S ds fuel listed a w (i :: rs) := fun j hj => by
 rcases List.mem_cons.1 hj with rfl | hj
 ·exact wpOp_step ho (fun K' hK => h K' (fun a w hW => hK a w ⟨fun hn => absurd hd hn, hW⟩))
 ·exact hs j hj
theorem zfy {rs : List Nat} {fuel : Nat} {listed : Array Bool} {a : Act} {w : World} (hr : Region.ready md ops listed = rs) (hne : rs ≠ [])
  (h : zcp P md ops Q S ds fuel listed a w rs) : zbd P md ops Q S ds (fuel + 1) listed a w := ziw hr hne h
theorem zbt {id n : Nat} {a : Act} {w : World} (l : Array Bool) (hm : P.follows .mixedOrders = true) (hn : ops.size = n) (hl : Array.replicate n false = l) (hS : S w.drew)
  (h : S w.drew → zbd P .any ops Q S ds n l a w.drew) : (Code.region id ops true).wp P Q a w := by
 subst hn;subst hl
 exact zit hm (h hS)
def takeB (md : Region.Mode) (ops : Array Oper) (ds : List Nat) (l l' : Array Bool) (i : Nat) : Bool :=
 Region.noSelect ops && Region.free md ops l i && (Region.ready md ops l).contains i && Region.zf4 md ops l && Region.lastB md ops l ds i && (l.setIfInBounds i true == l')
theorem take_ {i : Nat} {N : Option Tmp} {oi : Oper} {v : Value} {fuel : Nat} {l : Array Bool} {a : Act} {w : World} (l' : Array Bool) (hi : ops[i]? = some oi) (hN : oi.dst = N) (hc : takeB md ops ds l l' i = true)
  (hQ : ∀ c a w, Q (.panic c) (a.put oi.dst v) w → Q (.panic c) a w) (hy : YieldsIf P ops S oi v a) (hS : S w) {a' : Act} (ha : a.put N v = a')
  (h : zbd P md ops Q S ds fuel l' a' w) : zbd P md ops Q S ds (fuel + 1) l a w := by
 subst ha;subst hN
 simp only [takeB, Bool.and_eq_true, beq_iff_eq] at hc
 obtain ⟨⟨⟨⟨⟨h1, h2⟩, h3⟩, h4⟩, h5⟩, h6⟩ := hc
 subst h6
 exact zis hi h1 h2 h3 h4 h5 hQ hy hS h
def anyB (md : Region.Mode) (ops : Array Oper) (l l' : Array Bool) (i : Nat) : Bool :=
 Region.noSelect ops && Region.free md ops l i && (Region.ready md ops l).contains i && (l.setIfInBounds i true == l')
theorem pure_ {i : Nat} {N : Option Tmp} {oi : Oper} {v : Value} {fuel : Nat} {l : Array Bool} {a : Act} {w : World} (l' : Array Bool) (hi : ops[i]? = some oi) (hN : oi.dst = N) (hc : anyB md ops l l' i = true)
  (hQ : ∀ c a w, Q (.panic c) (a.put oi.dst v) w → Q (.panic c) a w) (hy : Yields P ops oi v a) {a' : Act} (ha : a.put N v = a')
  (h : zbd P md ops Q S ds fuel l' a' w) : zbd P md ops Q S ds (fuel + 1) l a w := by
 subst ha;subst hN
 simp only [anyB, Bool.and_eq_true, beq_iff_eq] at hc
 obtain ⟨⟨⟨h1, h2⟩, h3⟩, h6⟩ := hc
 subst h6
 exact zix hi (Region.noSelect_spec h1) hQ fuel l a w (Region.free_spec hi h2) (by simpa using h3) hy h
def zfs (md : Region.Mode) (ops : Array Oper) (l l' : Array Bool) (i : Nat) : Bool := (Region.ready md ops l == [i]) && (l.setIfInBounds i true == l')
theorem one_ {i : Nat} {N : Option Tmp} {oi : Oper} {fuel : Nat} {l : Array Bool} {a : Act} {w : World} (l' : Array Bool) (hi : ops[i]? = some oi) (hN : oi.dst = N) (hc : zfs md ops l l' i = true) (hd : i ∉ ds)
  (h : ∀ K : Act → World → Prop, Shut (∀ a' w', S w' → (S w' → zbd P md ops Q S ds fuel l' a' w') → K a' w') → if Region.wanted oi (yielded ops a.tmps) = true then Oper.wp P oi a w K Q else K (a.put N undef) w) :
  zbd P md ops Q S ds (fuel + 1) l a w := by
 subst hN
 simp only [zfs, Bool.and_eq_true, beq_iff_eq] at hc
 obtain ⟨h1, h2⟩ := hc
 subst h2
 exact zfy h1 (by simp) (zcp.cons hi hd (fun K hK => h K hK) zcp.nil)
theorem last_ {i : Nat} {N : Option Tmp} {oi : Oper} {fuel : Nat} {l : Array Bool} {a : Act} {w : World} (l' : Array Bool) (hi : ops[i]? = some oi) (hN : oi.dst = N) (hc : zfs md ops l l' i = true) (hd : i ∈ ds)
  (h : ∀ K : Act → World → Prop, Shut (∀ a' w', zbd P md ops Q S ds fuel l' a' w' → K a' w') → if Region.wanted oi (yielded ops a.tmps) = true then Oper.wp P oi a w K Q else K (a.put N undef) w) :
  zbd P md ops Q S ds (fuel + 1) l a w := by
 subst hN
 simp only [zfs, Bool.and_eq_true, beq_iff_eq] at hc
 obtain ⟨h1, h2⟩ := hc
 subst h2
 exact zfy h1 (by simp) (zcp.cons_last hi hd (fun K hK => h K hK) zcp.nil)
theorem zby {l : Array Bool} {a : Act} {w : World} {n : Nat} (hr : (Region.ready md ops l == []) = true) (h : Q .normal a w) : zbd P md ops Q S ds n l a w := zir (by simpa using hr) h n
def zd0 : Act → List (Tmp × Value) → Act
 | a, [] => a
 | a, (n, v) :: r => zd0 (a.put (some n) v) r
theorem norm_ {fuel : Nat} {l : Array Bool} {a a' : Act} {w : World} (ha : a = a') (h : zbd P md ops Q S ds fuel l a' w) : zbd P md ops Q S ds fuel l a w := by
 subst ha
 exact h
theorem call_ {oi : Oper} {N : Option Tmp} {a : Act} {w : World} {K : Act → World → Prop} (f : FuncId) (args : Array Value) (hw : Region.wanted oi (yielded ops a.tmps) = true) (hN : oi.dst = N) (hrun : (execOp a.eval oi).run P w = .ok (.enter f args) w)
  (h : Calls P f args w fun e w' => ∃ v, e = .returned v ∧ K (a.put N v) w') : if Region.wanted oi (yielded ops a.tmps) = true then Oper.wp P oi a w K Q else K (a.put N undef) w := by
 rw [if_pos hw]
 subst hN
 unfold Oper.wp
 rw [hrun, Oper.upon_enter]
 refine h.mono fun e w'' hh => ?_
 obtain ⟨v, rfl, hk⟩ := hh
 exact hk
theorem enters_ {f : FuncId} {fn : Func} (hf : P.funcs[f]? = some fn) (hname : (fn.name == "runtime.NumGoroutine") = false) (hb : fn.body.isSome = true) (args : Array Value) (w : World) : (callFunc f args).run P w = .ok (.enter f args) w := by
 have h1 : fn.name ≠ "runtime.NumGoroutine" := by simpa using hname
 obtain ⟨c, hc⟩ := Option.isSome_iff_exists.1 hb
 simp [callFunc, hf, h1, hc]
theorem goes_ {oi : Oper} {N : Option Tmp} {a : Act} {w : World} {K : Act → World → Prop} {f : FuncId} {fn : Func} {as_ : Array Operand} {ts : Array TypeId} (hf : P.funcs[f]? = some fn) (hname : (fn.name == "runtime.NumGoroutine") = false) (hb : fn.body.isSome = true) (args : Array Value)
  (hw : Region.wanted oi (yielded ops a.tmps) = true) (hN : oi.dst = N) (hop : oi.op = .call { callee := .value (.func f), args := as_, argTypes := ts }) (hargs : as_.map a.eval = args)
  (h : Calls P f args w fun e w' => ∃ v, e = .returned v ∧ K (a.put N v) w') : if Region.wanted oi (yielded ops a.tmps) = true then Oper.wp P oi a w K Q else K (a.put N undef) w := by
 refine call_ f args hw hN ?_ h
 have he := enters_ hf hname hb args w
 unfold execOp
 simp [hop, resolve, Deferred.ofValue, invoke, Act.eval, hargs, he]
theorem goesL_ {rest : List Oper} {oi : Oper} {a : Act} {w : World} (N : Option Tmp) (hd : oi.dst = N) (hg : oi.guard = none) {f : FuncId} {fn : Func} {as_ : Array Operand} {ts : Array TypeId} (hf : P.funcs[f]? = some fn) (hname : (fn.name == "runtime.NumGoroutine") = false) (hb : fn.body.isSome = true) (args : Array Value)
  (hop : oi.op = .call { callee := .value (.func f), args := as_, argTypes := ts }) (hargs : as_.map a.eval = args)
  (h : Calls P f args w fun e w' => ∃ v, e = .returned v ∧ wpList P ops Q rest (a.put N v) w') : wpList P ops Q (oi :: rest) a w := by
 refine wpList_plain hg fun K hK => ?_
 have he := enters_ hf hname hb args w
 have hrun : (execOp a.eval oi).run P w = .ok (.enter f args) w := by
  unfold execOp
  simp [hop, resolve, Deferred.ofValue, invoke, Act.eval, hargs, he]
 unfold Oper.wp
 rw [hrun, Oper.upon_enter]
 refine h.mono fun e w'' hh => ?_
 obtain ⟨v, rfl, hk⟩ := hh
 subst hd
 exact hK _ _ hk
theorem value_ {oi : Oper} {N : Option Tmp} {a : Act} {w w1 : World} {v : Value} {K : Act → World → Prop} (hw : Region.wanted oi (yielded ops a.tmps) = true) (hN : oi.dst = N) (hrun : (execOp a.eval oi).run P w = .ok (.value v) w1)
  (h : K (a.put N v) w1) : if Region.wanted oi (yielded ops a.tmps) = true then Oper.wp P oi a w K Q else K (a.put N undef) w := by
 rw [if_pos hw]
 subst hN
 unfold Oper.wp
 rw [hrun]
 exact h
theorem zfb {oi : Oper} {a : Act} {w w1 : World} {K : Act → World → Prop} (hw : Region.wanted oi (yielded ops a.tmps) = true) (hN : oi.dst = none) (hrun : (execOp a.eval oi).run P w = .ok .skip w1)
  (h : K a w1) : if Region.wanted oi (yielded ops a.tmps) = true then Oper.wp P oi a w K Q else K (a.put none undef) w := by
 rw [if_pos hw]
 unfold Oper.wp
 rw [hrun]
 show K (a.put oi.dst undef) w1
 rw [hN]
 exact h
theorem zcm (n : Int) : IntKind.i64.wrap n = Go.RowKit.wrap64 n := by unfold Go.RowKit.wrap64; exact IntKind.wrap_i64 n
theorem zcz (n : Int) : IntKind.i32.wrap n = Go.RowKit.wrap32 n := by unfold Go.RowKit.wrap32; exact IntKind.wrap_i32 n
end
end Go.Proofs.ZW.PrintLast
end
section
namespace Go.Proofs.ZW.PrintWords
open Go.RowKit
namespace Kd
def tag {α : Type} (f : Nat → Nat) (d : Kd α) : Kd (α × Nat) where
 sz := d.sz
 E := d.E
 K := fun w x cs => d.K w x.1 cs
 M := fun w base ok x cs => d.M w base (fun k => ok k ∧ f k = x.2) x.1 cs
 K_len := fun h => d.K_len h
 K_one := fun h => d.K_one h
 K_below := fun hb h => d.K_below hb h
 K_of_M := fun h => d.K_of_M h
 M_mono := fun hok h => d.M_mono (fun k hk => ⟨hok k hk.1, hk.2⟩) h
 M_bound := fun h => d.M_mono (fun _ hk => ⟨⟨hk.1.1, hk.2⟩, hk.1.2⟩) (d.M_bound h)
 M_move := fun hm h => d.M_move (fun k hk => hm k hk.1) h
 M_lower := fun hb h => d.M_lower hb h
def raw (sz : Nat) : Kd (List Value) where
 sz := sz
 E := []
 K := fun _ x cs => cs = x ∧ cs.length = sz ∧ ∀ u ∈ cs, u.oneCell' = true
 M := fun _ _ _ x cs => cs = x ∧ cs.length = sz ∧ ∀ u ∈ cs, u.oneCell' = true
 K_len := fun h => h.2.1
 K_one := fun h => h.2.2
 K_below := fun _ h => h
 K_of_M := fun h => h
 M_mono := fun _ h => h
 M_bound := fun h => h
 M_move := fun _ h => h
 M_lower := fun _ h => h
def S {α : Type} (d : Kd α) (e : Nat) (w : World) (base : Nat) (ok : Nat → Prop) (v : Value) (xs : List α) : Prop := ∃ f, (tag f d).R e w base ok v xs.zipIdx
section
variable {α β : Type} {d : Kd α} {d' : Kd β} {e e' : Nat} {w w1 W : World} {base b : Nat} {ok ok' okv oku : Nat → Prop} {u v : Value} {xs : List α} {ys : List β}
theorem R_head {ad : Addr} {n cap : Nat} (h : d.R e w base ok (.slice (some ad) n cap) xs) : ∃ g, ad = ⟨g, 0, none⟩ := by
 obtain ⟨_, inner, ho, hr⟩ := h
 rcases ho.2 with ⟨hv, _⟩ | ⟨g, cap', cur, hv, _⟩
 ·cases hv
 ·injection hv with ha _ _
  injection ha with ha
  exact ⟨g, ha⟩
theorem R_tight (hE : d.E = []) (h : d.R e w base ok v xs) : d.R e w base (fun k => some k = v.ownBlock) v xs := by
 obtain ⟨h0, inner, ho, hr⟩ := h
 refine ⟨fun k hk => hk.symm, inner, ho, hr.imp_ (fun p c hp => d.M_mono (fun k hk => ?_) (d.M_bound hp))⟩
 obtain ⟨_, _, _, q, hq, _⟩ := hk
 rw [hE] at hq
 cases hq
end
section
variable {α β : Type} {d : Kd α} {d' : Kd β} {e e' g : Nat} {w w1 W : World} {base b : Nat} {ok ok' okv oku : Nat → Prop} {u v : Value} {xs : List α} {ys : List β}
end
section
variable {P : Program} {ops : Array Oper} {rest : List Oper} {o : Oper} {a : Act} {Q : Exit → Act → World → Prop} {Kc : Act → World → Prop} {α : Type}
end
def gap {α : Type} (f : Nat → Nat) (d : Kd α) (i : Nat) (c : List Value) : Kd (α × Nat) where
 sz := d.sz
 E := d.E
 K := fun w x cs => (x.2 = i → cs = c ∧ cs.length = d.sz ∧ ∀ u ∈ cs, u.oneCell' = true) ∧ (x.2 ≠ i → d.K w x.1 cs)
 M := fun w base ok x cs => (x.2 = i → cs = c ∧ cs.length = d.sz ∧ ∀ u ∈ cs, u.oneCell' = true) ∧ (x.2 ≠ i → d.M w base (fun k => ok k ∧ f k = x.2) x.1 cs)
 K_len := fun {w x cs} h => by
  by_cases hx : x.2 = i
  ·exact (h.1 hx).2.1
  ·exact d.K_len (h.2 hx)
 K_one := fun {w x cs} h => by
  by_cases hx : x.2 = i
  ·exact (h.1 hx).2.2
  ·exact d.K_one (h.2 hx)
 K_below := fun hb h => ⟨h.1, fun hx => d.K_below hb (h.2 hx)⟩
 K_of_M := fun h => ⟨h.1, fun hx => d.K_of_M (h.2 hx)⟩
 M_mono := fun hok h => ⟨h.1, fun hx => d.M_mono (fun k hk => ⟨hok k hk.1, hk.2⟩) (h.2 hx)⟩
 M_bound := fun h => ⟨h.1, fun hx => d.M_mono (fun _ hk => ⟨⟨hk.1.1, hk.2⟩, hk.1.2⟩) (d.M_bound (h.2 hx))⟩
 M_move := fun hm h => ⟨h.1, fun hx => d.M_move (fun k hk => hm k hk.1) (h.2 hx)⟩
 M_lower := fun hb h => ⟨h.1, fun hx => d.M_lower hb (h.2 hx)⟩
def H {α : Type} (d : Kd α) (e : Nat) (w : World) (base : Nat) (ok : Nat → Prop) (v : Value) (xs : List α) (i : Int) (oki : Nat → Prop) (c : List Value) : Prop :=
 (∀ k, oki k → ok k) ∧ ∃ f, (gap f d i.toNat c).R e w base (fun k => ok k ∧ ¬ oki k) v xs.zipIdx
section
variable {α β : Type} {d : Kd α} {e e' g n cap : Nat} {w w1 W : World} {base : Nat} {ok ok' oki okp : Nat → Prop} {u v : Value} {xs : List α} {i : Int} {c : List Value}
end
section
variable {P : Program} {ops : Array Oper} {rest : List Oper} {o : Oper} {a : Act} {Q : Exit → Act → World → Prop} {α : Type}
end
end Kd
end Go.Proofs.ZW.PrintWords
end
section
namespace Go.Proofs.ZW.PrintWords
open Go.RowKit
namespace Kd
structure Heap {α : Type} (d : Kd α) : Prop where
 K : ∀ {w w1 : World} {x : α} {cs : List Value}, (∀ k, k < w.heap.size → w1.heap[k]? = w.heap[k]?) → d.K w x cs → d.K w1 x cs
theorem cell_heap {w w1 : World} (hb : ∀ k, k < w.heap.size → w1.heap[k]? = w.heap[k]?) {a : Addr} {v : Value} (h : w.cell? a = some v) : w1.cell? a = some v := by
 have := hb a.block (World.block_lt_of_cell? w a h)
 simpa [World.cell?, this] using h
theorem Heap.C {α : Type} {d : Kd α} (hd : Heap d) {w w1 : World} {A : Option Addr} {n : Nat} {xs : List α} (hb : ∀ k, k < w.heap.size → w1.heap[k]? = w.heap[k]?) (h : d.C w A n xs) : d.C w1 A n xs :=
 ⟨h.1, h.2.1, fun hn => by
  obtain ⟨ad, e, hc⟩ := h.2.2 hn
  refine ⟨ad, e, fun j p hj => ?_⟩
  obtain ⟨c, hs, hr, hcell⟩ := hc j p hj
  exact ⟨c, hs, hd.K hb hr, fun i u hu => cell_heap hb (hcell i u hu)⟩⟩
theorem zh2 (k : IntKind) : Heap (Kd.int k) := ⟨fun _ h => h⟩
theorem heap_slice {α : Type} {d : Kd α} (e : Nat) (hd : Heap d) : Heap (slice e d) := ⟨by
 rintro w w1 x cs hb ⟨A, c, rfl, hl, hr⟩
 exact ⟨A, c, rfl, hl, hd.C hb hr⟩⟩
theorem heap_pair {α β : Type} {a : Kd α} {b : Kd β} (ha : Heap a) (hb' : Heap b) : Heap (pair a b) := ⟨by
 rintro w w1 x cs hb ⟨c0, c1, rfl, h0, h1⟩
 exact ⟨c0, c1, rfl, ha.K hb h0, hb'.K hb h1⟩⟩
theorem heap_iso {α β : Type} {d : Kd α} (f : β → α) (hd : Heap d) : Heap (iso d f) := ⟨fun hb h => hd.K hb h⟩
section
variable {α : Type} {d : Kd α} {e base g n c : Nat} {ok : Nat → Prop} {w w0 W : World} {A : Option Addr} {xs : List α}
end
end Kd
end Go.Proofs.ZW.PrintWords
end
section
namespace Go.Proofs.ZW.PrintWords
open Go.RowKit
def Kept (w W : World) (S : Nat → Prop) : Prop := w.heap.size ≤ W.heap.size ∧ ∀ i, i < w.heap.size → ¬ S i → W.heap[i]? = w.heap[i]?
section
variable {w W W2 : World} {S S2 S' : Nat → Prop}
theorem Kept.refl (w : World) (S : Nat → Prop) : Kept w w S := ⟨Nat.le_refl _, fun _ _ _ => rfl⟩
end
namespace Kd
section
variable {α : Type} {d : Kd α} {e base n c : Nat} {ok oki S S2 : Nat → Prop} {w w0 W W1 W2 : World} {v : Value} {A : Option Addr} {xs : List α} {i : Int} {cs : List Value}
end
end Kd
def Foot (P : World → Prop) (W : World) (ok : Nat → Prop) : Prop := ∀ W' : World, (∀ k, ok k → k < W.heap.size → W'.heap[k]? = W.heap[k]?) → P W'
theorem heap_lt {W W1 : World} {k : Nat} (h : W1.heap[k]? = W.heap[k]?) (hlt : k < W.heap.size) : k < W1.heap.size := by
 rw [Array.getElem?_eq_getElem hlt] at h
 exact (Array.getElem?_eq_some_iff.1 h).1
namespace Foot
variable {P Q : World → Prop} {W W1 : World} {ok ok' : Nat → Prop}
theorem now (h : Foot P W ok) : P W := h W (fun _ _ _ => rfl)
theorem mono (h : Foot P W ok) (hok : ∀ k, ok k → ok' k) : Foot P W ok' := fun W' hW => h W' (fun k hk hlt => hW k (hok k hk) hlt)
theorem bound (h : Foot P W ok) : Foot P W (fun k => ok k ∧ k < W.heap.size) := fun W' hW => h W' (fun k hk hlt => hW k ⟨hk, hlt⟩ hlt)
theorem step (h : Foot P W ok) (hm : ∀ k, ok k → k < W.heap.size → W1.heap[k]? = W.heap[k]?) : Foot P W1 ok := fun W' hW => h W' (fun k hk hlt => (hW k hk (heap_lt (hm k hk hlt) hlt)).trans (hm k hk hlt))
theorem imp (h : Foot P W ok) (hi : ∀ W', P W' → Q W') : Foot Q W ok := fun W' hW => hi W' (h W' hW)
theorem old (h : Foot P W ok) (hb : Below W.heap.size W W1) : Foot P W1 (fun k => ok k ∧ k < W.heap.size) := (h.bound).step (fun k _ hlt => hb.block k hlt)
end Foot
namespace Kd
def F {α : Type} (d : Kd α) (W : World) (ok : Nat → Prop) (A : Option Addr) (n : Nat) (xs : List α) : Prop := Foot (fun W => d.C W A n xs) W ok
def FK {α : Type} (d : Kd α) (W : World) (ok : Nat → Prop) (x : α) (c : List Value) : Prop := Foot (fun W => d.K W x c) W ok
section
variable {α β : Type} {d : Kd α} {e base n n' cc g N : Nat} {ok ok' okp S : Nat → Prop} {w w0 w1 W W1 : World} {A A' : Option Addr} {u v v1 : Value} {xs : List α} {xs' : List β} {d' : Kd β} {x : α} {c : List Value}
theorem F_now (h : F d W ok A n xs) : d.C W A n xs := Foot.now h
theorem F_mono (h : F d W ok A n xs) (hok : ∀ k, ok k → ok' k) : F d W ok' A n xs := Foot.mono h hok
theorem F_bound (h : F d W ok A n xs) : F d W (fun k => ok k ∧ k < W.heap.size) A n xs := Foot.bound h
theorem F_step (h : F d W ok A n xs) (hm : ∀ k, ok k → k < W.heap.size → W1.heap[k]? = W.heap[k]?) : F d W1 ok A n xs := Foot.step h hm
theorem F_imp (h : F d W ok A n xs) (hi : ∀ W', d.C W' A n xs → d'.C W' A' n' xs') : F d' W ok A' n' xs' := Foot.imp h hi
theorem zcq (h : F d W ok A n xs) (hb : Below W.heap.size W W1) : F d W1 ok A n xs := F_step h (fun k _ hlt => hb.block k hlt)
theorem F_drew (h : F d W ok A n xs) : F d W.drew ok A n xs := zcq h (zb7 (Below.refl _ _))
theorem F_drewN (h : F d W ok A n xs) (m : Nat) : F d (W.drewN m) ok A n xs := zcq h (za2 (Below.refl _ _) m)
theorem F_far (h : F d W ok A n xs) {p : Addr} (hok : ∀ k, ok k → k ≠ p.block) (u : Value) : F d (W.setCell p u) ok A n xs := F_step h (fun k hk _ => Below.heap_setCell W p u k (hok k hk))
theorem F_elder' (h : F d W ok A n xs) (hbase : ∀ k, v.ownBlock = some k → W.heap.size ≤ k) (hb : Below W.heap.size W W1) : F d W1 (fun k => ok k ∧ some k ≠ v.ownBlock) A n xs :=
 F_mono (Foot.old h hb) (fun k hk => ⟨hk.1, fun he => by have := hbase k he.symm; have := hk.2; omega⟩)
theorem F_elderB (h : F d W ok A n xs) (a : Nat) (ha : W.heap.size ≤ a) : F d W (fun k => ok k ∧ k ≠ a) A n xs := F_mono (F_bound h) (fun k hk => ⟨hk.1, by have := hk.2; omega⟩)
theorem F_after (h : F d W (fun k => ok k ∧ some k ≠ v.ownBlock) A n xs) (hg : W.grownBy W1 v.ownBlock) (hat : v1.ownBlock = v.ownBlock ∨ ∃ b, v1.ownBlock = some b ∧ W.heap.size ≤ b) : F d W1 (fun k => ok k ∧ some k ≠ v1.ownBlock) A n xs := by
 refine F_mono (Foot.step (F_bound h) (fun k hk hlt => hg.block k hlt hk.1.2)) (fun k hk => ⟨hk.1.1, ?_⟩)
 rcases hat with hat | ⟨b, hb, hle⟩
 ·rw [hat]; exact hk.1.2
 ·rw [hb]
  intro he
  injection he with he
  have := hk.2
  omega
theorem F_apart_nil (h : F d W ok A n xs) : F d W (fun k => ok k ∧ some k ≠ (Value.slice none 0 0).ownBlock) A n xs := F_mono h (fun k hk => ⟨hk, by simp [Value.ownBlock]⟩)
theorem C_F (hd : Heap d) (h : d.C w A n xs) : F d w (fun k => k < w.heap.size) A n xs := fun _ hW => hd.C (fun k hlt => hW k hlt hlt) h
theorem R_F (h : d.R e W base ok (.slice A n cc) xs) : F d W ok A n xs := fun W' hW => by
 have h2 := R_reads' (zfi h hW)
 rw [h2.1]
 exact h2.2.2
theorem zf2 (h : FK d W ok x c) : d.K W x c := Foot.now h
theorem zfd (h : FK d W ok x c) (hok : ∀ k, ok k → ok' k) : FK d W ok' x c := Foot.mono h hok
theorem FK_bound (h : FK d W ok x c) : FK d W (fun k => ok k ∧ k < W.heap.size) x c := Foot.bound h
theorem zhd (h : FK d W ok x c) (hm : ∀ k, ok k → k < W.heap.size → W1.heap[k]? = W.heap[k]?) : FK d W1 ok x c := Foot.step h hm
theorem FK_of_M (h : d.M W base ok x c) : FK d W ok x c := fun _ hW => d.K_of_M (M_step h hW)
theorem emptied (W : World) (g : Nat) : ∃ W' : World, (∀ k, k ≠ g → W'.heap[k]? = W.heap[k]?) ∧ ∀ a : Addr, a.block = g → W'.cell? a = none := by
 refine ⟨{ W with heap := W.heap.setIfInBounds g (.cells #[] 0) }, fun k hk => by simp [Ne.symm hk], fun a ha => ?_⟩
 subst ha
 by_cases hlt : a.block < W.heap.size
 ·simp [World.cell?, hlt]
 ·simp [World.cell?, hlt]
end
end Kd
end Go.Proofs.ZW.PrintWords
end
section
namespace Go.Proofs.ZW.PrintWords
open Go.RowKit
namespace Kd
def chunks (sz : Nat) (n : Nat) (inner : List Value) : List (List Value) := (List.range n).map fun j => (inner.drop (j * sz)).take sz
theorem zcy (sz n : Nat) (inner : List Value) : (chunks sz n inner).length = n := by simp [chunks]
theorem chunks_at {sz n : Nat} {inner : List Value} {j : Nat} (hj : j < n) : (chunks sz n inner)[j]? = some ((inner.drop (j * sz)).take sz) := by simp [chunks, hj]
theorem ze5 {sz n : Nat} {inner : List Value} {j : Nat} {c : List Value} (h : (chunks sz n inner)[j]? = some c) : c = (inner.drop (j * sz)).take sz := by
 have hj : j < n := by have := (List.getElem?_eq_some_iff.1 h).1; rwa [zcy] at this
 rw [chunks_at hj] at h
 injection h with h
 exact h.symm
theorem reps_raw {α : Type} {Rr : α → List Value → Prop} {sz : Nat} {xs : List α} {inner : List Value} (h : Reps Rr sz xs inner) (hR : ∀ x c, Rr x c → c.length = sz ∧ ∀ u ∈ c, u.oneCell' = true) : Reps (fun x cs => cs = x ∧ cs.length = sz ∧ ∀ u ∈ cs, u.oneCell' = true) sz (chunks sz xs.length inner) inner := by
 refine ⟨by rw [zcy]; exact h.1, fun j p hj => ?_⟩
 have hjl : j < xs.length := by have := (List.getElem?_eq_some_iff.1 hj).1; rwa [zcy] at this
 have hp := ze5 hj
 exact ⟨hp.symm, hR _ _ (h.2 j _ (List.getElem?_eq_getElem hjl))⟩
section
variable {α : Type} {d : Kd α} {e base n cc g : Nat} {ok ok' okp S : Nat → Prop} {w w1 W W1 : World} {A : Option Addr} {u v v1 : Value} {xs : List α} {x : α} {c : List Value}
theorem F_get (h : F d W ok A n xs) (z : α) (i : Int) (h0 : 0 ≤ i) (h1 : i < n) :
  ∃ ad c, A = some ad ∧ c.length = d.sz ∧ FK d W ok (xs.getD i.toNat z) c ∧ (∀ j u, c[j]? = some u → W.cell? (ad.add (i.toNat * d.sz + j)) = some u) ∧ (0 < d.sz → ok ad.block) := by
 obtain ⟨ad, c, rfl, hcl, hK, hcc⟩ := C_get (F_now h) z i h0 h1
 have hin : 0 < d.sz → ok ad.block := by
  intro hs
  by_cases hk : ok ad.block
  ·exact hk
  ·obtain ⟨W', h2, h3⟩ := emptied W ad.block
   obtain ⟨ad', c', he, hcl', _, hcc'⟩ := C_get (h W' (fun k hk' _ => h2 k (fun e => hk (e ▸ hk')))) z i h0 h1
   injection he with he
   subst he
   have h4 := hcc' 0 _ (List.getElem?_eq_getElem (by omega))
   rw [h3 _ (add_block _ _)] at h4
   cases h4
 refine ⟨ad, c, rfl, hcl, fun W' hW => ?_, hcc, hin⟩
 obtain ⟨ad', c', he, hcl', hK', hcc'⟩ := C_get (h W' hW) z i h0 h1
 injection he with he
 subst he
 have hc : c = c' := by
  apply List.ext_getElem?
  intro j
  by_cases hj : j < d.sz
  ·have hb : W'.heap[ad.block]? = W.heap[ad.block]? := by
    have h5 := hcc j _ (List.getElem?_eq_getElem (by omega))
    have h6 := World.block_lt_of_cell? W _ h5
    rw [add_block] at h6
    exact hW _ (hin (by omega)) h6
   have h5 := hcc j _ (List.getElem?_eq_getElem (by omega))
   have h6 := hcc' j _ (List.getElem?_eq_getElem (by omega))
   have h7 : W'.cell? (ad.add (i.toNat * d.sz + j)) = W.cell? (ad.add (i.toNat * d.sz + j)) := by simp [World.cell?, add_block, hb]
   rw [h7, h5] at h6
   rw [List.getElem?_eq_getElem (by omega), List.getElem?_eq_getElem (by omega)]
   exact h6
  ·rw [List.getElem?_eq_none (by omega), List.getElem?_eq_none (by omega)]
 rw [hc]
 exact hK'
theorem F_rows (h : F d W ok A n xs) : zb2 (fun x c => FK d W ok x c) d.sz W A n xs := by
 obtain ⟨hl, hm, hn⟩ := F_now h
 refine ⟨hl, hm, fun hp => ?_⟩
 obtain ⟨ad, rfl, _⟩ := hn hp
 refine ⟨ad, rfl, fun j p hj => ?_⟩
 obtain ⟨hjl, hjp⟩ := List.getElem?_eq_some_iff.1 hj
 obtain ⟨ad', c, he, hcl, hK, hcc, _⟩ := F_get h p (j : Int) (by omega) (by omega)
 injection he with he
 subst he
 simp only [Int.toNat_natCast] at hK hcc
 rw [List.getD_eq_getElem?_getD, hj] at hK
 exact ⟨c, hcl, hK, hcc⟩
def N {α : Type} (d : Kd α) (e : Nat) (w : World) (base : Nat) (ok : Nat → Prop) (v : Value) (xs : List α) : Prop :=
 (∀ k, v.ownBlock = some k → ok k) ∧ ∃ rows : List (List Value), rows.length = xs.length ∧ (raw d.sz).R e w base (fun k => some k = v.ownBlock) v rows ∧ ∀ (j : Nat) (x : α) (c : List Value), xs[j]? = some x → rows[j]? = some c → FK d w (fun k => ok k ∧ some k ≠ v.ownBlock) x c
theorem raw_tight {sz : Nat} {rows : List (List Value)} (h : (raw sz).R e w base ok v rows) : (raw sz).R e w base (fun k => some k = v.ownBlock) v rows := R_tight rfl h
theorem raw_any {sz : Nat} {rows : List (List Value)} (h : (raw sz).R e w base ok v rows) : (raw sz).R e w base (fun _ => True) v rows := zbw h (fun _ _ => trivial)
theorem R_N (h : d.R e w base ok v xs) : N d e w base ok v xs := by
 obtain ⟨h0, inner, ho, hr⟩ := h
 refine ⟨h0, chunks d.sz xs.length inner, zcy _ _ _, ⟨fun k hk => hk.symm, inner, by rw [zcy]; exact ho, reps_raw hr (fun x c hp => ⟨d.K_len (d.K_of_M hp), d.K_one (d.K_of_M hp)⟩)⟩, fun j x c hx hc => ?_⟩
 rw [ze5 hc]
 exact FK_of_M (hr.2 j x hx)
theorem N_nil (d : Kd α) (e : Nat) (w : World) (base : Nat) (ok : Nat → Prop) : N d e w base ok (.slice none 0 0) [] := R_N (zef _ _ _ _ _)
theorem zb9 (h : N d e w base ok v xs) (hok : ∀ k, ok k → ok' k) : N d e w base ok' v xs := by
 obtain ⟨h0, rows, hl, hR, hf⟩ := h
 exact ⟨fun k hk => hok k (h0 k hk), rows, hl, hR, fun j x c hx hc => zfd (hf j x c hx hc) (fun k hk => ⟨hok k hk.1, hk.2⟩)⟩
theorem N_lt (h : N d e w base ok v xs) : ∀ k, v.ownBlock = some k → k < w.heap.size := by
 obtain ⟨_, rows, _, hR, _⟩ := h
 exact R_lt hR
theorem N_ne (h : N d e w base ok v xs) {t : Nat} {cells : Array Value} (hb : w.heap[g]? = some (.cells cells t (0, 0))) (ht : e ≠ t) : some g ≠ v.ownBlock := by
 obtain ⟨_, rows, _, hR, _⟩ := h
 exact R_ne hR hb ht
theorem zf3 (h : N d e w base ok v xs) (hok : ∀ k, ok k → k ≠ g) : some g ≠ v.ownBlock := fun he => hok g (h.1 g he.symm) rfl
theorem N_bound (h : N d e w base ok v xs) : N d e w base (fun k => ok k ∧ k < w.heap.size) v xs := by
 have hlt := N_lt h
 obtain ⟨h0, rows, hl, hR, hf⟩ := h
 exact ⟨fun k hk => ⟨h0 k hk, hlt k hk⟩, rows, hl, hR, fun j x c hx hc => zfd (FK_bound (hf j x c hx hc)) (fun k hk => ⟨⟨hk.1.1, hk.2⟩, hk.1.2⟩)⟩
theorem N_lower {base' : Nat} (h : N d e w base ok v xs) (hb : base' ≤ base) : N d e w base' ok v xs := by
 obtain ⟨h0, rows, hl, hR, hf⟩ := h
 exact ⟨h0, rows, hl, zde hR hb, hf⟩
theorem N_step (h : N d e w base ok v xs) (hm : ∀ k, ok k → k < w.heap.size → w1.heap[k]? = w.heap[k]?) : N d e w1 base ok v xs := by
 obtain ⟨h0, rows, hl, hR, hf⟩ := h
 exact ⟨h0, rows, hl, zfi hR (fun k hk hlt => hm k (h0 k hk.symm) hlt), fun j x c hx hc => zhd (hf j x c hx hc) (fun k hk hlt => hm k hk.1 hlt)⟩
theorem zfe (h : N d e w base ok v xs) (hb : Below w.heap.size w w1) : N d e w1 base ok v xs := N_step h (fun k _ hk => hb.block k hk)
theorem zcr (h : N d e w base ok v xs) : N d e w.drew base ok v xs := zfe h (zb7 (Below.refl _ _))
theorem zds (h : N d e w base ok v xs) {p : Addr} (hok : ∀ k, ok k → k ≠ p.block) (u : Value) : N d e (w.setCell p u) base ok v xs := N_step h (fun k ho _ => Below.heap_setCell w p u k (hok k ho))
theorem N_elderB (h : N d e w base ok v xs) (a : Nat) (ha : w.heap.size ≤ a) : N d e w base (fun k => ok k ∧ k ≠ a) v xs := zb9 (N_bound h) (fun k hk => ⟨hk.1, by have := hk.2; omega⟩)
theorem zeh (h : N d e w base ok v xs) : ∃ A c, v = .slice A xs.length c := by
 obtain ⟨_, rows, hl, hR, _⟩ := h
 obtain ⟨A, c, he⟩ := zcf hR
 exact ⟨A, c, by rw [he, hl]⟩
theorem N_form (h : N d e w base ok v xs) (hp : 0 < xs.length) : ∃ g cap, v = .slice (some ⟨g, 0, none⟩) xs.length cap ∧ base ≤ g ∧ g < w.heap.size ∧ ∃ cells, w.heap[g]? = some (.cells cells e (0, 0)) := by
 obtain ⟨_, rows, hl, hR, _⟩ := h
 rw [← hl] at hp ⊢
 exact R_form hR hp
theorem N_reads' {n c : Nat} (h : N d e w base ok (.slice A n c) xs) : n = xs.length ∧ n ≤ c ∧ d.C w A xs.length xs := by
 obtain ⟨_, rows, hl, hR, hf⟩ := h
 obtain ⟨hn, hc, hC⟩ := R_reads' hR
 refine ⟨by omega, hc, ?_⟩
 rw [hl] at hC
 refine ⟨rfl, hC.2.1, fun hp => ?_⟩
 obtain ⟨ad, he, hcell⟩ := hC.2.2 hp
 refine ⟨ad, he, fun j p hj => ?_⟩
 have hjl : j < rows.length := by have := (List.getElem?_eq_some_iff.1 hj).1; omega
 obtain ⟨c', hcl, hK, hcc⟩ := hcell j _ (List.getElem?_eq_getElem hjl)
 have hk := zf2 (hf j p _ hj (List.getElem?_eq_getElem hjl))
 refine ⟨c', hcl, ?_, hcc⟩
 rw [show c' = rows[j] from hK.1]
 exact hk
theorem N_F {n : Nat} (h : N d e w base ok (.slice A n cc) xs) : F d w ok A n xs := fun W' hW => by
 have h2 := N_reads' (N_step h hW)
 rw [h2.1]
 exact h2.2.2
theorem N_elem {n cap : Nat} (h : N d e W base ok (.slice (some ⟨g, 0, none⟩) n cap) xs) (z : α) (i : Int) (h0 : 0 ≤ i) (h1 : i < n) :
  ∃ c, c.length = d.sz ∧ FK d W (fun k => ok k ∧ k ≠ g) (xs.getD i.toNat z) c ∧ (∀ j u, c[j]? = some u → W.cell? ⟨g, i.toNat * d.sz + j, none⟩ = some u) ∧ ∀ j, W.frozen? ⟨g, i.toNat * d.sz + j, none⟩ = false := by
 obtain ⟨_, rows, hl, hR, hf⟩ := h
 have hn := (R_reads' hR).1
 obtain ⟨c, hcl, hM, hcc, hfr⟩ := R_elem hR [] i h0 h1
 have hil : i.toNat < rows.length := by omega
 have hil' : i.toNat < xs.length := by omega
 have hc : c = rows[i.toNat] := by
  have h2 := hM.1
  rwa [List.getD_eq_getElem?_getD, List.getElem?_eq_getElem hil] at h2
 refine ⟨c, hcl, ?_, hcc, hfr⟩
 rw [List.getD_eq_getElem?_getD, List.getElem?_eq_getElem hil']
 exact zfd (hf _ _ _ (List.getElem?_eq_getElem hil') (by rw [hc]; exact List.getElem?_eq_getElem hil)) (fun k hk => ⟨hk.1, fun he => hk.2 (by rw [he]; simp [Value.ownBlock])⟩)
theorem N_get {ad : Addr} {n cap : Nat} (h : N d e W base ok (.slice (some ad) n cap) xs) (z : α) (i : Int) (h0 : 0 ≤ i) (h1 : i < n) :
  ∃ c, c.length = d.sz ∧ FK d W (fun k => ok k ∧ some k ≠ (Value.slice (some ad) n cap).ownBlock) (xs.getD i.toNat z) c ∧ ∀ j u, c[j]? = some u → W.cell? (ad.add (i.toNat * d.sz + j)) = some u := by
 obtain ⟨g, rfl⟩ : ∃ g, ad = ⟨g, 0, none⟩ := by
  obtain ⟨_, rows, _, hR, _⟩ := h
  exact R_head hR
 obtain ⟨c, hcl, hM, hcc, _⟩ := N_elem h z i h0 h1
 refine ⟨c, hcl, zfd hM (fun k hk => ⟨hk.1, fun he => hk.2 (by simpa [Value.ownBlock] using he)⟩), fun j u hu => ?_⟩
 rw [add_at, Nat.zero_add]
 exact hcc j u hu
end
end Kd
end Go.Proofs.ZW.PrintWords
end
section
namespace Go.Proofs.ZW.PrintLast
open Go.Proofs.ZW.PrintWords (zab)
def zfg (md : Region.Mode) (o : Oper) : List Nat := (o.after.toList.filter (fun e => Region.binds md e)).map (fun e => e.on)
def clashOf (md : Region.Mode) (ops : Array Oper) (i : Nat) (oi : Oper) : List Nat := (List.range ops.size).filter fun j => !(j == i) && match ops[j]? with
 | some oj => !(oj.after.any (fun e => Region.binds md e && e.on == i) || oi.apart ops oj)
 | none => false
def rtab (md : Region.Mode) (ops : Array Oper) : Bool × List (List Nat × List Nat) := (Region.noSelect ops, (List.range ops.size).map fun i => match ops[i]? with
 | some o => (zfg md o, clashOf md ops i o)
 | none => ([], []))
def zej (T : List (List Nat × List Nat)) (l : List Bool) (i : Nat) : Bool := !l.getD i true && match T[i]? with
 | some r => r.1.all (fun j => l.getD j false)
 | none => false
def zgb (T : List (List Nat × List Nat)) (l : List Bool) : List Nat := (List.range T.length).filter (zej T l)
def freeT (T : List (List Nat × List Nat)) (l : List Bool) (i : Nat) : Bool := match T[i]? with
 | some r => r.2.all (fun j => l.getD j true)
 | none => false
def zhg (T : List (List Nat × List Nat)) (l : List Bool) : Bool := (List.range T.length).all fun j => !l.getD j false || match T[j]? with
 | some r => r.1.all (fun k => l.getD k false)
 | none => true
def zga (T : List (List Nat × List Nat)) (i : Nat) : Nat → Nat → Bool
 | 0, _ => false
 | fuel + 1, d => match T[d]? with
  | some r => r.1.any fun j => j == i || zga T i fuel j
  | none => false
def lastT (T : List (List Nat × List Nat)) (l : List Bool) (ds : List Nat) (i : Nat) : Bool := ds.all fun d => l.getD d true || zga T i T.length d
section
variable {md : Region.Mode} {ops : Array Oper} {T : Bool × List (List Nat × List Nat)} {l l' li lj lk : Array Bool} {ds : List Nat} {i j k : Nat}
theorem gd (l : Array Bool) (j : Nat) (b : Bool) : l.getD j b = l.toList.getD j b := by simp [Array.getD_eq_getD_getElem?, List.getD_eq_getElem?_getD]
theorem needs_all (o : Oper) (p : Nat → Bool) : o.after.all (fun e => !Region.binds md e || p e.on) = (zfg md o).all p := by
 unfold zfg
 rw [← Array.all_toList]
 induction o.after.toList with
 | nil => rfl
 | cons e r ih =>
  rw [List.all_cons, ih, List.filter_cons]
  cases h : Region.binds md e <;> simp
theorem needs_any (o : Oper) (p : Nat → Bool) : o.after.any (fun e => Region.binds md e && p e.on) = (zfg md o).any p := by
 unfold zfg
 rw [← Array.any_toList]
 induction o.after.toList with
 | nil => rfl
 | cons e r ih =>
  rw [List.any_cons, ih, List.filter_cons]
  cases h : Region.binds md e <;> simp
theorem zex : (rtab md ops).2.length = ops.size := by simp [rtab]
theorem zfw {o : Oper} (h : ops[i]? = some o) : (rtab md ops).2[i]? = some (zfg md o, clashOf md ops i o) := by
 have hi := (Array.getElem?_eq_some_iff.1 h).1
 unfold rtab
 rw [List.getElem?_map, List.getElem?_range hi, Option.map_some, h]
theorem zfv (h : ops[i]? = none) : (rtab md ops).2[i]? = none := by
 have hi : ops.size ≤ i := Array.getElem?_eq_none_iff.1 h
 exact List.getElem?_eq_none (by rw [zex]; exact hi)
theorem readyAt_eq : zej (rtab md ops).2 l.toList i = (!l.getD i true && ((ops[i]?).map (·.after.all fun e => !Region.binds md e || l.getD e.on false)).getD false) := by
 unfold zej
 rw [gd]
 cases h : ops[i]? with
 | none => rw [zfv h]; rfl
 | some o =>
  rw [zfw h]
  simp only [Option.map_some, Option.getD_some]
  rw [← needs_all]
  simp only [gd]
theorem ready_eq : Region.ready md ops l = zgb (rtab md ops).2 l.toList := by
 unfold Region.ready zgb
 rw [zex]
 refine List.filter_congr (fun i _ => ?_)
 rw [readyAt_eq]
theorem free_eq : Region.free md ops l i = freeT (rtab md ops).2 l.toList i := by
 unfold Region.free freeT
 cases h : ops[i]? with
 | none => rw [zfv h]
 | some oi =>
  rw [zfw h]
  simp only [clashOf]
  rw [List.all_filter]
  congr 1
  funext j
  rw [gd]
  cases hj : ops[j]? with
  | none => cases (j == i) <;> cases (l.toList.getD j true) <;> simp
  | some oj =>
   cases (j == i) <;> cases (l.toList.getD j true) <;> cases (oj.after.any (fun e => Region.binds md e && e.on == i) || oi.apart ops oj) <;> simp_all
theorem closed_eq : Region.zf4 md ops l = zhg (rtab md ops).2 l.toList := by
 unfold Region.zf4 zhg
 rw [zex]
 congr 1
 funext j
 rw [gd]
 cases h : ops[j]? with
 | none => rw [zfv h]
 | some o =>
  rw [zfw h]
  simp only
  rw [← needs_all]
  simp only [gd]
theorem reach_eq : ∀ (fuel d : Nat), Region.zd1 md ops i fuel d = zga (rtab md ops).2 i fuel d
 | 0, _ => rfl
 | fuel + 1, d => by
  unfold Region.zd1 zga
  cases h : ops[d]? with
  | none => rw [zfv h]
  | some o =>
   rw [zfw h]
   simp only
   rw [← needs_any]
   congr 1
   funext e
   rw [reach_eq fuel]
theorem last_eq : Region.lastB md ops l ds i = lastT (rtab md ops).2 l.toList ds i := by
 unfold Region.lastB lastT
 rw [zex]
 congr 1
 funext d
 rw [gd, reach_eq]
theorem zhu (h : zej T.2 l.toList i = true) (hT : rtab md ops = T) : (Region.ready md ops l).contains i = true := by
 subst hT
 rw [ready_eq]
 unfold zgb
 rw [List.contains_iff_mem, List.mem_filter, List.mem_range]
 refine ⟨?_, h⟩
 unfold zej at h
 rw [Bool.and_eq_true] at h
 cases hq : (rtab md ops).2[i]? with
 | none => rw [hq] at h; simp at h
 | some r => exact (List.getElem?_eq_some_iff.1 hq).1
theorem set_of (h : (l.toList.set i true == l'.toList) = true) : (l.setIfInBounds i true == l') = true := by
 rw [beq_iff_eq] at h ⊢
 apply Array.ext'
 rw [Array.toList_setIfInBounds]
 exact h
def anyT (T : Bool × List (List Nat × List Nat)) (l l' : List Bool) (i : Nat) : Bool := T.1 && freeT T.2 l i && zej T.2 l i && (l.set i true == l')
theorem any_of (hT : rtab md ops = T) (h : anyT T l.toList l'.toList i = true) : anyB md ops l l' i = true := by
 simp only [anyT, Bool.and_eq_true] at h
 obtain ⟨⟨⟨h1, h2⟩, h3⟩, h4⟩ := h
 have h5 := zhu h3 hT
 have h6 := set_of h4
 subst hT
 simp only [anyB, Bool.and_eq_true]
 exact ⟨⟨⟨h1, by rw [free_eq]; exact h2⟩, h5⟩, h6⟩
def takeT (T : Bool × List (List Nat × List Nat)) (ds : List Nat) (l l' : List Bool) (i : Nat) : Bool := T.1 && freeT T.2 l i && zej T.2 l i && zhg T.2 l && lastT T.2 l ds i && (l.set i true == l')
theorem take_of (hT : rtab md ops = T) (h : takeT T ds l.toList l'.toList i = true) : takeB md ops ds l l' i = true := by
 simp only [takeT, Bool.and_eq_true] at h
 obtain ⟨⟨⟨⟨⟨h1, h2⟩, h3⟩, h4⟩, h5⟩, h6⟩ := h
 have h7 := zhu h3 hT
 have h8 := set_of h6
 subst hT
 simp only [takeB, Bool.and_eq_true]
 exact ⟨⟨⟨⟨⟨h1, by rw [free_eq]; exact h2⟩, h7⟩, by rw [closed_eq]; exact h4⟩, by rw [last_eq]; exact h5⟩, h8⟩
theorem zf9 (hT : rtab md ops = T) (h : (zgb T.2 l.toList == [i] && l.toList.set i true == l'.toList) = true) : zfs md ops l l' i = true := by
 simp only [Bool.and_eq_true] at h
 obtain ⟨h1, h2⟩ := h
 subst hT
 simp only [zfs, Bool.and_eq_true]
 exact ⟨by rw [ready_eq]; exact h1, set_of h2⟩
theorem zbv (hT : rtab md ops = T) (h : (zgb T.2 l.toList == []) = true) : (Region.ready md ops l == []) = true := by
 subst hT
 rw [ready_eq]
 exact h
def upM (B : List Nat) (d : Nat) : List Nat → Nat
 | [] => 0
 | n :: r => (2 ^ n ||| (if n < d then B.getD n 0 else 0)) ||| upM B d r
def zc4 (T : List (List Nat × List Nat)) (B : List Nat) : Bool := (List.range T.length).all fun d => match T[d]? with
 | some r => (B.getD d 0 ||| upM B d r.1) == upM B d r.1
 | none => false
theorem upM_bit {B : List Nat} {d i : Nat} : ∀ {ns : List Nat}, (upM B d ns).testBit i = true → ∃ n ∈ ns, n = i ∨ (n < d ∧ (B.getD n 0).testBit i = true)
 | [], h => by simp [upM] at h
 | n :: r, h => by
  unfold upM at h
  rw [Nat.testBit_or, Nat.testBit_or, Bool.or_eq_true, Bool.or_eq_true] at h
  rcases h with (h | h) | h
  ·rw [Nat.testBit_two_pow] at h
   exact ⟨n, List.mem_cons_self, .inl (by simpa using h)⟩
  ·by_cases hn : n < d
   ·rw [if_pos hn] at h
    exact ⟨n, List.mem_cons_self, .inr ⟨hn, h⟩⟩
   ·rw [if_neg hn] at h
    simp at h
  ·obtain ⟨m, hm, h2⟩ := upM_bit h
   exact ⟨m, List.mem_cons_of_mem _ hm, h2⟩
theorem reach_bit {T : List (List Nat × List Nat)} {B : List Nat} (hB : zc4 T B = true) : ∀ (fuel d : Nat), d < fuel → d < T.length → (B.getD d 0).testBit i = true → zga T i fuel d = true
 | 0, d, h, _, _ => by omega
 | fuel + 1, d, h, hd, hb => by
  have h1 := List.all_eq_true.1 hB d (List.mem_range.2 hd)
  cases hr : T[d]? with
  | none => rw [hr] at h1; simp at h1
  | some r =>
   rw [hr] at h1
   simp only [beq_iff_eq] at h1
   have h2 : (upM B d r.1).testBit i = true := by rw [← h1, Nat.testBit_or, hb, Bool.true_or]
   obtain ⟨n, hn, h3⟩ := upM_bit h2
   unfold zga
   rw [hr]
   simp only
   rw [List.any_eq_true]
   refine ⟨n, hn, ?_⟩
   rcases h3 with rfl | ⟨h4, h5⟩
   ·simp
   ·rw [reach_bit hB fuel n (by omega) (by omega) h5, Bool.or_true]
def lastW (T : List (List Nat × List Nat)) (B : List Nat) (l : List Bool) (ds : List Nat) (i : Nat) : Bool := ds.all fun d => l.getD d true || (decide (d < T.length) && (B.getD d 0).testBit i)
def takeW (T : Bool × List (List Nat × List Nat)) (B : List Nat) (ds : List Nat) (l l' : List Bool) (i : Nat) : Bool := T.1 && freeT T.2 l i && zej T.2 l i && zhg T.2 l && lastW T.2 B l ds i && (l.set i true == l')
theorem zh7 {B : List Nat} (hT : rtab md ops = T) (hB : zc4 T.2 B = true) (h : takeW T B ds l.toList l'.toList i = true) : takeB md ops ds l l' i = true := by
 refine take_of hT ?_
 simp only [takeW, takeT, Bool.and_eq_true] at h ⊢
 obtain ⟨⟨⟨⟨⟨h1, h2⟩, h3⟩, h4⟩, h5⟩, h6⟩ := h
 refine ⟨⟨⟨⟨⟨h1, h2⟩, h3⟩, h4⟩, ?_⟩, h6⟩
 unfold lastW at h5
 unfold lastT
 rw [List.all_eq_true] at h5 ⊢
 intro d hd
 have h7 := h5 d hd
 rw [Bool.or_eq_true, Bool.and_eq_true, decide_eq_true_eq] at h7
 rcases h7 with h7 | ⟨h8, h9⟩
 ·rw [h7, Bool.true_or]
 ·rw [reach_bit hB _ d h8 h8 h9, Bool.or_true]
theorem zbo {P : Program} {Q : Exit → Act → World → Prop} {S : World → Prop} {n : Nat} {a : Act} {w : World} {B : List Nat} (hT : rtab md ops = T) (hB : zc4 T.2 B = true) (h : zab (rtab md ops = T) → zab (zc4 T.2 B = true) → zbd P md ops Q S ds n l a w) : zbd P md ops Q S ds n l a w := h ⟨hT⟩ ⟨hB⟩
end
def zew : Code → Nat → Option (Array Oper)
 | .region id ops _, k => if id == k then some ops else none
 | .seq a b, k => match zew a k with
  | some o => some o
  | none => zew b k
 | .cond _ a b, k => match zew a k with
  | some o => some o
  | none => zew b k
 | .block _ c, k => zew c k
 | .loop c, k => zew c k
 | .scope c, k => zew c k
 | .rangeFunc _ _ a b, k => match zew a k with
  | some o => some o
  | none => zew b k
 | _, _ => none
def opsOf (f : Func) (k : Nat) : Array Oper := ((f.body.bind fun c => zew c k)).getD #[]
end Go.Proofs.ZW.PrintLast
namespace Go.Proofs.ZW.PrintLast
open Go Go.RowKit Go.Proofs.ZW.PrintWords
section
variable {P : Program} {ops : Array Oper} {Q : Exit → Act → World → Prop} {md : Region.Mode} {S : World → Prop} {ds : List Nat} {T : Bool × List (List Nat × List Nat)} {oi : Oper} {v : Value} {fuel : Nat} {l : Array Bool} {a : Act} {w : World} {a' : Act} {N : Option Tmp} {K : Act → World → Prop} {f : FuncId} {fn : Func} {as_ : Array Operand} {ts : Array TypeId}
theorem Ypt (i N_ m_ k_ : Nat) (hT : zab (rtab md ops = T)) (h : zbd P md ops Q S ds fuel (Ymk m_ k_) a' w) (hi : ops[i]? = some oi := by rfl) (hN : oi.dst = some N_ := by rfl) (hc : anyT T l.toList (Ymk m_ k_).toList i = true := by kernel_rfl) (hQ : ∀ c a w, Q (.panic c) (a.put oi.dst v) w → Q (.panic c) a w := by exact fun _ _ _ h => h) (hw : Region.wanted oi (yielded ops a.tmps) = true := by rfl) (hv : ∀ w, (execOp a.eval oi).run P w = .ok (.value v) w := by intro w'; go_simp; with_reducible rfl) (ha : a.put (some N_) v = a' := by simp only [Act.put, Y1, Y2, Y3, zcm, zcz]; rfl) : zbd P md ops Q S ds (fuel + 1) l a w := pure_ (Ymk m_ k_) hi hN (any_of hT.out hc) hQ (Or.inl ⟨hw, hv⟩) ha h
theorem Ypu (i N_ m_ k_ : Nat) (hT : zab (rtab md ops = T)) (h : zbd P md ops Q S ds fuel (Ymk m_ k_) a' w) (hi : ops[i]? = some oi := by rfl) (hN : oi.dst = some N_ := by rfl) (hc : anyT T l.toList (Ymk m_ k_).toList i = true := by kernel_rfl) (hQ : ∀ c a w, Q (.panic c) (a.put oi.dst undef) w → Q (.panic c) a w := by exact fun _ _ _ h => h) (hw : Region.wanted oi (yielded ops a.tmps) = false := by rfl) (ha : a.put (some N_) undef = a' := by simp only [Act.put, Y1, Y2, Y3, zcm, zcz]; rfl) : zbd P md ops Q S ds (fuel + 1) l a w := pure_ (Ymk m_ k_) hi hN (any_of hT.out hc) hQ (Or.inr ⟨hw, rfl⟩) ha h
theorem Ypk  (i N_ m_ k_ : Nat) (h : zbd P md ops Q S ds fuel (Ymk m_ k_) a' w) (hi : ops[i]? = some oi := by rfl) (hN : oi.dst = some N_ := by rfl) (hc : anyB md ops l (Ymk m_ k_) i = true := by kernel_rfl) (hQ : ∀ c a w, Q (.panic c) (a.put oi.dst v) w → Q (.panic c) a w := by exact fun _ _ _ h => h) (hw : Region.wanted oi (yielded ops a.tmps) = true := by rfl) (hv : ∀ w, (execOp a.eval oi).run P w = .ok (.value v) w := by intro w'; go_simp; with_reducible rfl) (ha : a.put (some N_) v = a' := by simp only [Act.put, Y1, Y2, Y3]; rfl) : zbd P md ops Q S ds (fuel + 1) l a w := pure_ (Ymk m_ k_) hi hN hc hQ (Or.inl ⟨hw, hv⟩) ha h
theorem Ytt (i N_ m_ k_ : Nat) (hT : zab (rtab md ops = T)) {B : List Nat} (hB : zab (zc4 T.2 B = true)) (hS : S w) (h : zbd P md ops Q S ds fuel (Ymk m_ k_) a' w) (hi : ops[i]? = some oi := by rfl) (hN : oi.dst = some N_ := by rfl) (hc : takeW T B ds l.toList (Ymk m_ k_).toList i = true := by kernel_rfl) (hQ : ∀ c a w, Q (.panic c) (a.put oi.dst v) w → Q (.panic c) a w := by exact fun _ _ _ h => h) (hw : Region.wanted oi (yielded ops a.tmps) = true := by rfl) (hv : ∀ w, S w → (execOp a.eval oi).run P w = .ok (.value v) w := by intro w' hS; (try dsimp only at hS); go_simp; with_reducible rfl) (ha : a.put (some N_) v = a' := by simp only [Act.put, Y1, Y2, Y3, zcm, zcz]; rfl) : zbd P md ops Q S ds (fuel + 1) l a w := take_ (Ymk m_ k_) hi hN (zh7 hT.out hB.out hc) hQ (Or.inl ⟨hw, hv⟩) hS ha h
theorem Ytk  (i N_ m_ k_ : Nat) (hS : S w) (h : zbd P md ops Q S ds fuel (Ymk m_ k_) a' w) (hi : ops[i]? = some oi := by rfl) (hN : oi.dst = some N_ := by rfl) (hc : takeB md ops ds l (Ymk m_ k_) i = true := by kernel_rfl) (hQ : ∀ c a w, Q (.panic c) (a.put oi.dst v) w → Q (.panic c) a w := by exact fun _ _ _ h => h) (hw : Region.wanted oi (yielded ops a.tmps) = true := by rfl) (hv : ∀ w, S w → (execOp a.eval oi).run P w = .ok (.value v) w := by intro w' hS; (try dsimp only at hS); go_simp; with_reducible rfl) (ha : a.put (some N_) v = a' := by simp only [Act.put, Y1, Y2, Y3]; rfl) : zbd P md ops Q S ds (fuel + 1) l a w := take_ (Ymk m_ k_) hi hN hc hQ (Or.inl ⟨hw, hv⟩) hS ha h
theorem Ynm (N_ : Nat) (h : zbd P md ops Q S ds fuel l a' w) (ha : a.put (some N_) v = a' := by simp only [Act.put, Y1, Y2, Y3]; rfl) : zbd P md ops Q S ds fuel l (a.put (some N_) v) w := norm_ ha h
theorem Ynw (N_ : Nat) (h : zbd P md ops Q S ds fuel l a' w) (ha : a.put (some N_) v = a' := by simp only [Act.put, Y1, Y2, Y3, zcm, zcz]; rfl) : zbd P md ops Q S ds fuel l (a.put (some N_) v) w := norm_ ha h
theorem Ygh (hf : P.funcs[f]? = some fn) (args : Array Value)
  (h : Calls P f args w fun e w' => ∃ v, e = .returned v ∧ K (a.put N v) w') (hname : (fn.name == "runtime.NumGoroutine") = false := by kernel_rfl) (hb : fn.body.isSome = true := by rfl)
  (hw : Region.wanted oi (yielded ops a.tmps) = true := by rfl) (hN : oi.dst = N := by rfl) (hop : oi.op = .call { callee := .value (.func f), args := as_, argTypes := ts } := by rfl) (hargs : as_.map a.eval = args := by first | rfl | (simp [Act.eval]; done) | (simp [go_sem]; done)) : if Region.wanted oi (yielded ops a.tmps) = true then Oper.wp P oi a w K Q else K (a.put N undef) w := goes_ hf hname hb args hw hN hop hargs h
theorem Yok (i N_ m_ k_ : Nat) (h : ∀ K : Act → World → Prop, Shut (∀ a' w', S w' → (S w' → zbd P md ops Q S ds fuel (Ymk m_ k_) a' w') → K a' w') → if Region.wanted oi (yielded ops a.tmps) = true then Oper.wp P oi a w K Q else K (a.put (some N_) undef) w) (hi : ops[i]? = some oi := by rfl) (hN : oi.dst = some N_ := by rfl) (hc : zfs md ops l (Ymk m_ k_) i = true := by kernel_rfl) (hd : i ∉ ds := by decide) : zbd P md ops Q S ds (fuel + 1) l a w := one_ (Ymk m_ k_) hi hN hc hd h
theorem Yot (i N_ m_ k_ : Nat) (hT : zab (rtab md ops = T)) (h : ∀ K : Act → World → Prop, Shut (∀ a' w', S w' → (S w' → zbd P md ops Q S ds fuel (Ymk m_ k_) a' w') → K a' w') → if Region.wanted oi (yielded ops a.tmps) = true then Oper.wp P oi a w K Q else K (a.put (some N_) undef) w) (hi : ops[i]? = some oi := by rfl) (hN : oi.dst = some N_ := by rfl) (hc : (zgb T.2 l.toList == [i] && l.toList.set i true == (Ymk m_ k_).toList) = true := by kernel_rfl) (hd : i ∉ ds := by decide) : zbd P md ops Q S ds (fuel + 1) l a w := one_ (Ymk m_ k_) hi hN (zf9 hT.out hc) hd h
end
theorem Yfi {α : Sort _} {a b : α} (h : a = b := by first | rfl | (simp [errW_none, errW_some] <;> rfl) | (simp [*, errW_none, errW_some] <;> rfl)) : a = b := h
theorem Yfs {α : Sort _} {a b : α} (h : a = b := by first | rfl | (simp; done) | (simp [*]; done)) : a = b := h
theorem Ygs {P : Program} {ops : Array Oper} {oi : Oper} {N : Option Tmp} {a : Act} {w : World} {Q : Exit → Act → World → Prop} {K : Act → World → Prop} {f : FuncId} {fn : Func} {as_ : Array Operand} {ts : Array TypeId} (hf : P.funcs[f]? = some fn) (args : Array Value)
  (h : Calls P f args w fun e w' => ∃ v, e = .returned v ∧ K (a.put N v) w') (hname : (fn.name == "runtime.NumGoroutine") = false := by kernel_rfl) (hb : fn.body.isSome = true := by rfl)
  (hw : Region.wanted oi (yielded ops a.tmps) = true := by rfl) (hN : oi.dst = N := by rfl) (hop : oi.op = .call { callee := .value (.func f), args := as_, argTypes := ts } := by rfl) (hargs : as_.map a.eval = args := by (try simp only [List.map_toArray, List.map_cons, List.map_nil]); first | done | rfl | (simp only [List.length_drop, List.length_take]; rfl)) : if Region.wanted oi (yielded ops a.tmps) = true then Oper.wp P oi a w K Q else K (a.put N undef) w := goes_ hf hname hb args hw hN hop hargs h
theorem Ygl {P : Program} {ops : Array Oper} {Q : Exit → Act → World → Prop} {rest : List Oper} {oi : Oper} {a : Act} {w : World} (N : Option Tmp) {f : FuncId} {fn : Func} {as_ : Array Operand} {ts : Array TypeId} (hf : P.funcs[f]? = some fn) (args : Array Value)
  (h : Calls P f args w fun e w' => ∃ v, e = .returned v ∧ wpList P ops Q rest (a.put N v) w') (hd : oi.dst = N := by rfl) (hg : oi.guard = none := by rfl) (hname : (fn.name == "runtime.NumGoroutine") = false := by kernel_rfl) (hb : fn.body.isSome = true := by rfl)
  (hop : oi.op = .call { callee := .value (.func f), args := as_, argTypes := ts } := by rfl) (hargs : as_.map a.eval = args := by (try simp only [List.map_toArray, List.map_cons, List.map_nil]); first | done | rfl | (simp only [List.length_drop, List.length_take]; rfl)) : wpList P ops Q (oi :: rest) a w := goesL_ N hd hg hf hname hb args hop hargs h
theorem Yod {p : Prop} [Decidable p] (h : decide p = true := by first | (with_reducible assumption) | assumption) : p := of_decide_eq_true h
theorem Ybe {n : Nat} {w w' : World} (h : Below n w w' := by repeat (first | (with_reducible first | exact HB.out | apply za8 | apply za2 | apply zav) | exact HB.out)) : Below n w w' := h
class Ygr (w w' : World) : Prop where below : Below w.heap.size w w'
instance Ygr0 {w : World} : Ygr w w := ⟨Below.refl _ _⟩
instance Ygr1 {w w' : World} [h : Ygr w w'] : Ygr w w'.drew := ⟨zav h.below⟩
instance Ygr2 {w w' : World} {n : Nat} [h : Ygr w w'] : Ygr w (w'.drewN n) := ⟨za2 h.below n⟩
instance Ygr3 {w w' : World} {o : Obj} [h : Ygr w w'] : Ygr w (w'.alloc o) := ⟨za8 h.below o⟩
theorem Yg {w w' : World} {g : Nat} {o : Obj} (h : zab (w.heap[g]? = some o)) [k : Ygr w w'] : w'.heap[g]? = some o := zax h.out k.below
theorem Ykb {w w' w2 : World} {g : Nat} {o : Obj} (h : zab (w.heap[g]? = some o)) (hb : Below w'.heap.size w' w2) [Ygr w w'] : zab (w2.heap[g]? = some o) := ⟨zax (Yg h) hb⟩
theorem Ynl {w w' : World} {g g' : Nat} {o : Obj} (h : zab (w.heap[g]? = some o)) (hg : g' = w'.heap.size) [Ygr w w'] : zab (g ≠ g') := ⟨by rw [hg]; exact Nat.ne_of_lt (zbj (Yg h))⟩
theorem Yng {w w' : World} {g g' : Nat} {o : Obj} (h : zab (w.heap[g]? = some o)) (hg : g' = w'.heap.size) [Ygr w w'] : zab (g' ≠ g) := ⟨by rw [hg]; exact Nat.ne_of_gt (zbj (Yg h))⟩
theorem Ygw {w w' : World} {g : Nat} (hg : g = w'.heap.size) (h : Below w.heap.size w w') : zab (w.heap.size ≤ g) := ⟨by rw [hg]; exact za7 h⟩
theorem Yr {α : Type} {d : Kd α} {e base : Nat} {ok : Nat → Prop} {v : Value} {xs : List α} {w w' : World} (h : zab (Kd.R d e w base ok v xs)) [k : Ygr w w'] : Kd.R d e w' base ok v xs := Kd.zdd h.out k.below
theorem Ycf {W : World} {a : Addr} {b : Nat} {u : Value} (p : Addr) (v : Value) (hn : b ≠ p.block) (hx : W.cell? a = some u) (e : a.block = b := by first | exact add_block _ _ | rfl | (show (Addr.add _ _).block = _; exact add_block _ _)) : (W.setCell p v).cell? a = some u := (cell_far (by rw [e]; exact hn) v).trans hx
theorem Yb4 {w W w1 : World} {g : Nat} {o : Obj} (hbox : w1.heap[g]? = some o) (hg : g = W.heap.size) (hb : Below W.heap.size W w1) (h : Below w.heap.size w W) : zab (w1.heap[g]? = some o) ∧ zab (w.heap.size ≤ g) ∧ zab (w.heap.size ≤ g) ∧ zab (Below w.heap.size w w1) := ⟨⟨hbox⟩, Ygw hg h, Ygw hg h, ⟨za1 h hb⟩⟩
theorem Ybx {P : Program} {ops : Array Oper} {o : Oper} {a : Act} {Q : Exit → Act → World → Prop} {rest : List Oper} {W : World} (N : Tmp) (cs : Array Value) (t : TypeId)
  (h : ∀ g, g = W.heap.size → ∀ w1, w1.heap[g]? = some (.cells cs t (0, 0)) → Below W.heap.size W w1 → wpList P ops Q rest (a.put o.dst (.pointer (some ⟨g, 0, none⟩))) w1)
  (hd : o.dst = some N := by rfl) (hgd : o.guard = none := by rfl) (hr : (execOp a.eval o).run P W = .ok (.value (.pointer (some ⟨W.heap.size, 0, none⟩))) (W.alloc (.cells cs t (0, 0))) := by first | (go_simp; done) | (go_simp; rfl)) : wpList P ops Q (o :: rest) a W := box_event hgd hd hr h
theorem Yc1 {w : World} {g : Nat} {t : TypeId} {v0 : Value} (h : w.heap[g]? = some (.cells #[v0] t (0, 0))) : w.cell? ⟨g, 0, none⟩ = some v0 ∧ w.frozen? ⟨g, 0, none⟩ = false := ⟨(zaf h 0).trans rfl, zbr h 0⟩
theorem Yc3 {w : World} {g : Nat} {t : TypeId} {v0 v1 v2 : Value} (h : w.heap[g]? = some (.cells #[v0, v1, v2] t (0, 0))) : w.cell? ⟨g, 0, none⟩ = some v0 ∧ w.frozen? ⟨g, 0, none⟩ = false ∧ w.cell? ⟨g, 1, none⟩ = some v1 ∧ w.frozen? ⟨g, 1, none⟩ = false ∧ w.cell? ⟨g, 2, none⟩ = some v2 ∧ w.frozen? ⟨g, 2, none⟩ = false := ⟨(zaf h 0).trans rfl, zbr h 0, (zaf h 1).trans rfl, zbr h 1, (zaf h 2).trans rfl, zbr h 2⟩
end Go.Proofs.ZW.PrintLast
end
section
namespace Go.Proofs.ZW.PrintWords
open Go.RowKit
section
variable {P : Program} {ops : Array Oper} {rest : List Oper} {o : Oper} {a : Act} {Q : Exit → Act → World → Prop} {W : World}
theorem zdk (hw : Region.wanted o (yielded ops a.tmps) = true) (h : wpList P ops Q ({ o with guard := none } :: rest) a W) : wpList P ops Q (o :: rest) a W := by
 have h1 : Region.wanted { o with guard := none } (yielded ops a.tmps) = true := rfl
 unfold wpList at h ⊢
 rw [if_pos h1] at h
 rw [if_pos hw]
 exact h
end
end Go.Proofs.ZW.PrintWords
end
section
namespace Go.Proofs.ZW.PrintLast
def up (b : Nat → Bool) (i : Nat) : Nat → Bool := fun j => if j = i then true else b j
section
variable {P : Program} {ops : Array Oper} {Q : Exit → Act → World → Prop} {md : Region.Mode} {T : Bool × List (List Nat × List Nat)} {B : List Nat} {O : List Nat} {b : Nat → Bool} {i j n : Nat}
end
end Go.Proofs.ZW.PrintLast
end
section
namespace Go.Proofs.ZW.PrintWords
open Go.RowKit
namespace Kd
section
variable {α : Type} {d : Kd α} {e base n cap g : Nat} {ok ok' okp : Nat → Prop} {w w1 W : World} {v v1 : Value} {xs ys : List α}
theorem N_appended {rows news : List (List Value)} (h0 : ∀ k, v.ownBlock = some k → ok k) (hl : rows.length = xs.length) (hf : ∀ (j : Nat) (x : α) (c : List Value), xs[j]? = some x → rows[j]? = some c → FK d W (fun k => ok k ∧ some k ≠ v.ownBlock) x c)
  (hl2 : news.length = ys.length) (hf2 : ∀ (j : Nat) (x : α) (c : List Value), ys[j]? = some x → news[j]? = some c → FK d W okp x c) (hokp : ∀ k, okp k → ok k ∧ some k ≠ v.ownBlock) (hfresh : ∀ k, W.heap.size ≤ k → ok k)
  (hR : (raw d.sz).R e w1 base (fun _ => True) v1 (rows ++ news)) (hg : W.grownBy w1 v.ownBlock) (hat : v1.ownBlock = v.ownBlock ∨ ∃ b, v1.ownBlock = some b ∧ W.heap.size ≤ b) : N d e w1 base ok v1 (xs ++ ys) := by
 have hne : ∀ k, some k ≠ v.ownBlock → k < W.heap.size → some k ≠ v1.ownBlock := by
  intro k hk hlt
  rcases hat with hat | ⟨b, hb, hle⟩
  ·rw [hat]; exact hk
  ·rw [hb]
   intro he
   injection he with he
   omega
 have step : ∀ {x : α} {c : List Value} {o : Nat → Prop}, FK d W o x c → (∀ k, o k → ok k ∧ some k ≠ v.ownBlock) → FK d w1 (fun k => ok k ∧ some k ≠ v1.ownBlock) x c := by
  intro x c o hq ho
  exact zfd (zhd (FK_bound hq) (fun k hk hlt => hg.block k hlt (ho k hk.1).2)) (fun k hk => ⟨(ho k hk.1).1, hne k (ho k hk.1).2 hk.2⟩)
 refine ⟨fun k hk => ?_, rows ++ news, by rw [List.length_append, List.length_append, hl, hl2], raw_tight hR, fun j x c hx hc => ?_⟩
 ·rcases hat with hat | ⟨b, hb, hle⟩
  ·exact h0 k (hat ▸ hk)
  ·rw [hb] at hk
   injection hk with hk
   exact hfresh k (by omega)
 ·rcases Nat.lt_or_ge j xs.length with hlt | hge
  ·rw [List.getElem?_append_left hlt] at hx
   rw [List.getElem?_append_left (by omega)] at hc
   exact step (hf j x c hx hc) (fun _ hk => hk)
  ·rw [List.getElem?_append_right hge] at hx
   rw [List.getElem?_append_right (by omega), hl] at hc
   exact step (hf2 _ x c hx hc) hokp
theorem N_written {rows : List (List Value)} {i : Int} {x' : α} {c' : List Value} (h0 : ∀ k, (Value.slice (some ⟨g, 0, none⟩) n cap).ownBlock = some k → ok k) (hl : rows.length = xs.length) (hf : ∀ (j : Nat) (x : α) (c : List Value), xs[j]? = some x → rows[j]? = some c → FK d W (fun k => ok k ∧ some k ≠ (Value.slice (some ⟨g, 0, none⟩) n cap).ownBlock) x c)
  (hR : (raw d.sz).R e w1 base (fun _ => True) (.slice (some ⟨g, 0, none⟩) n cap) (rows.set i.toNat c')) (hg : W.grownBy w1 (some g)) (hM : FK d W okp x' c') (hokp : ∀ k, okp k → ok k ∧ k ≠ g) : N d e w1 base ok (.slice (some ⟨g, 0, none⟩) n cap) (xs.set i.toNat x') := by
 have hgo : some g = (Value.slice (some ⟨g, 0, none⟩) n cap).ownBlock := by simp [Value.ownBlock]
 refine ⟨h0, rows.set i.toNat c', by rw [List.length_set, List.length_set, hl], raw_tight hR, fun j x c hx hc => ?_⟩
 have hjl : j < xs.length := by have := (List.getElem?_eq_some_iff.1 hx).1; rwa [List.length_set] at this
 by_cases hji : j = i.toNat
 ·subst hji
  rw [List.getElem?_set_self hjl] at hx
  rw [List.getElem?_set_self (by omega)] at hc
  injection hx with hx
  injection hc with hc
  rw [← hx, ← hc]
  exact zfd (zhd hM (fun k hk hlt => hg.block k hlt (fun he => (hokp k hk).2 (by injection he)))) (fun k hk => ⟨(hokp k hk).1, fun he => (hokp k hk).2 (by rw [← hgo] at he; injection he)⟩)
 ·rw [List.getElem?_set_ne (Ne.symm hji)] at hx hc
  exact zhd (hf j x c hx hc) (fun k hk hlt => hg.block k hlt (by rw [hgo]; exact hk.2))
theorem N_seg (h : N d e W base ok (.slice (some ⟨g, 0, none⟩) n cap) xs) (i : Int) (h0 : 0 ≤ i) (h1 : i < n) {c seg : List Value} {j : Nat} (hcl : c.length = d.sz) (hcc : ∀ j u, c[j]? = some u → W.cell? ⟨g, i.toNat * d.sz + j, none⟩ = some u)
  (hj : j + seg.length ≤ d.sz) {x' : α} (hM : FK d W okp x' (c.take j ++ seg ++ c.drop (j + seg.length))) (hokp : ∀ k, okp k → ok k ∧ k ≠ g) :
  N d e (W.setCells g (i.toNat * d.sz + j) seg) base ok (.slice (some ⟨g, 0, none⟩) n cap) (xs.set i.toNat x') ∧ W.grownBy (W.setCells g (i.toNat * d.sz + j) seg) (some g) := by
 obtain ⟨hown, rows, hl, hR, hf⟩ := h
 obtain ⟨h2, h3⟩ := R_seg (raw_any hR) i h0 h1 (c := c) (seg := seg) (j := j) (x' := c.take j ++ seg ++ c.drop (j + seg.length)) (okp := fun _ => False) hcl hcc hj ⟨rfl, d.K_len (zf2 hM), d.K_one (zf2 hM)⟩ (fun _ hk => hk.elim)
 exact ⟨N_written hown hl hf h2 h3 hM hokp, h3⟩
theorem reads_raw {Rr : α → List Value → Prop} {sz m : Nat} {A : Option Addr} (h : zb2 Rr sz W A m ys) (hR : ∀ x c, Rr x c → c.length = sz ∧ ∀ u ∈ c, u.oneCell' = true) :
  ∃ news : List (List Value), news.length = ys.length ∧ zb2 (fun x cs => cs = x ∧ cs.length = sz ∧ ∀ u ∈ cs, u.oneCell' = true) sz W A m news ∧ ∀ (j : Nat) (x : α) (c : List Value), ys[j]? = some x → news[j]? = some c → Rr x c := by
 rcases Nat.eq_zero_or_pos m with h0 | hp
 ·have hy : ys = [] := List.eq_nil_of_length_eq_zero (h.1.trans h0)
  subst hy
  exact ⟨[], rfl, ⟨h0 ▸ rfl, h.2.1, fun hp => by omega⟩, fun j x c hx => by simp at hx⟩
 ·obtain ⟨ad, rfl, _⟩ := h.2.2 hp
  obtain ⟨inner, hr, hc⟩ := zb2.inner_ h
  refine ⟨chunks sz ys.length inner, zcy _ _ _, ⟨by rw [zcy]; exact h.1, h.2.1, fun _ => ⟨ad, rfl, fun j p hj => ?_⟩⟩, fun j x c hx hcc => ?_⟩
  ·have hjl : j < ys.length := by have := (List.getElem?_eq_some_iff.1 hj).1; rwa [zcy] at this
   have hpe := ze5 hj
   have hq := hR _ _ (hr.2 j _ (List.getElem?_eq_getElem hjl))
   rw [← hpe] at hq
   refine ⟨p, hq.1, ⟨rfl, hq⟩, fun i u hu => ?_⟩
   have hu2 : inner[j * sz + i]? = some u := by
    rw [hpe, List.getElem?_take] at hu
    split at hu
    ·rw [List.getElem?_drop] at hu
     exact hu
    ·cases hu
   exact hc _ u hu2
  ·rw [ze5 hcc]
   exact hr.2 j x hx
end
section
variable {P : Program} {ops : Array Oper} {rest : List Oper} {o : Oper} {a : Act} {Q : Exit → Act → World → Prop} {Kc : Act → World → Prop} {α : Type}
theorem zgr (d : Kd α) {w0 W : World} (base : Nat) (hgd : o.guard = none) (s x : Operand) (t e : TypeId) (z : Value) (bytes : Nat)
  (ho : o.op = .call { callee := .builtin .append, args := #[s, x], argTypes := #[t, t] })
  (ht : P.underlying t = some (.slice e)) (hinfo : (P.info? e).map (fun i => (i.zero, i.size, i.bytes)) = some (some z, d.sz, bytes)) (hz : z.cells.size = d.sz) (hs0 : 0 < d.sz) (hb0 : 0 < bytes)
  (v : Value) (xs ys : List α) (A : Option Addr) (m c : Nat) (ok okp : Nat → Prop) (hs : a.eval s = v) (hx : a.eval x = .slice A m c)
  (HO : N d e W base ok v xs) (HR : F d W okp A m ys) (hokp : ∀ k, okp k → ok k ∧ some k ≠ v.ownBlock) (hfresh : ∀ k, W.heap.size ≤ k → ok k)
  (HB : Below base w0 W) (hbase : base ≤ W.heap.size) (hl : (xs.length + m) * bytes ≤ 140737488355328)
  (h : ∀ v1 w1, N d e w1 base ok v1 (xs ++ ys) → Below base w0 w1 → W.grownBy w1 v.ownBlock → (v1.ownBlock = v.ownBlock ∨ ∃ b, v1.ownBlock = some b ∧ W.heap.size ≤ b) → wpList P ops Q rest (a.put o.dst v1) w1) :
  wpList P ops Q (o :: rest) a W := by
 obtain ⟨h0, rows, hlr, hR, hf⟩ := HO
 obtain ⟨news, hnl, hnr, hnf⟩ := reads_raw (F_rows HR) (fun y c hk => ⟨d.K_len (zf2 hk), d.K_one (zf2 hk)⟩)
 refine zc8 (raw d.sz) base hgd s x t e z bytes ho ht hinfo hz hs0 hb0 v rows news A m c (fun _ => True) (fun _ => False) hs hx (raw_any hR) hnr (fun _ _ hk => hk) (fun _ hk => hk.elim) (fun _ _ => trivial) HB hbase (by rw [hlr]; exact hl) ?_
 intro v1 w1 hr hb hg hat
 exact h v1 w1 (N_appended h0 hlr hf hnl hnf hokp hfresh hr hg hat) hb hg hat
end
end Kd
end Go.Proofs.ZW.PrintWords
end
section
namespace Go.Proofs.ZW.PrintMore
open Go.RowKit Go.Proofs.ZW.PrintWords
namespace Kd
open Go.Proofs.ZW.PrintWords.Kd
end Kd
namespace Kd
open Go.Proofs.ZW.PrintWords.Kd
section
variable {α : Type} {d : Kd α} {e base g N : Nat} {ok : Nat → Prop} {W w1 : World} {u v : Value} {xs : List α}
end
end Kd
theorem zch (k k' : IntKind) (x y : Int) : Builtin.min2 (.int k x) (.int k' y) = pure (.int k (if y < x then y else x)) := by simp only [Builtin.min2]
theorem zct (ats : Array TypeId) (ty : TypeId) (a b : Value) : Builtin.min_ ats ty #[a, b] = (Builtin.min2 a b >>= fun s => pure s) := by simp only [Builtin.min_, List.foldlM_cons, List.foldlM_nil]
end Go.Proofs.ZW.PrintMore
namespace Go.Proofs.ZW.PrintWords
open Go.RowKit
section
variable {P : Program} {ops : Array Oper} {rest : List Oper} {o : Oper} {a : Act} {Q : Exit → Act → World → Prop} {W : World}
theorem za6 {f : FuncId} {as_ : Array Operand} {ts : Array TypeId} (_ho : o.op = .call { callee := .value (.func f), args := as_, argTypes := ts }) (h : wpList P ops Q (o :: rest) a W) : wpList P ops Q (o :: rest) a W := h
theorem zca {b : Builtin} {xs : Array Operand} {ts : Array TypeId} (_ho : o.op = .call { callee := .builtin b, args := xs, argTypes := ts }) (h : wpList P ops Q (o :: rest) a W) : wpList P ops Q (o :: rest) a W := h
end
def mn (a b : Int) : Int := if b < a then b else a
theorem zia (w : World) (n : Nat) : w.drewN n = w.drewN n := rfl
namespace Kd
section
variable {α : Type} {d : Kd α} {e base : Nat} {ok : Nat → Prop} {W w1 : World} {v : Value} {xs : List α}
end
section
variable {α : Type} {d : Kd α} {e base g n cap : Nat} {ok oki okp : Nat → Prop} {W : World} {xs : List α} {i : Int} {c : List Value}
end
section
variable {α : Type} {d : Kd α} {e base b b' g N : Nat} {ok ok1 : Nat → Prop} {W W2 w1 : World} {u v : Value} {xs ys : List α} {S : Nat → Prop}
end
end Kd
end Go.Proofs.ZW.PrintWords
namespace Go.Proofs.ZW.PrintWords
open Go.RowKit
namespace Kd
def V {α : Type} (d : Kd α) (_e : Nat) (W : World) (_base : Nat) (ok : Nat → Prop) (v : Value) (xs : List α) : Prop := ∃ A c, v = .slice A xs.length c ∧ xs.length ≤ c ∧ F d W ok A xs.length xs
section
variable {α β : Type} {d : Kd α} {e base base' n m c g N' lo hi : Nat} {ok ok' S : Nat → Prop} {w W w1 : World} {A : Option Addr} {ad : Addr} {u v v1 : Value} {xs : List α}
theorem ze2 (h : V d e W base ok v xs) (hF : ∀ A, F d W ok A xs.length xs → F d w1 ok' A xs.length xs) : V d e w1 base' ok' v xs := by
 obtain ⟨A, c, hv, hl, hf⟩ := h
 exact ⟨A, c, hv, hl, hF A hf⟩
theorem V_mk (hl : xs.length ≤ c) (hf : F d W ok A xs.length xs) : V d e W base ok (.slice A xs.length c) xs := ⟨A, c, rfl, hl, hf⟩
theorem zbz (h : V d e W base ok v xs) : ∃ A c, v = .slice A xs.length c := by
 obtain ⟨A, c, hv, _⟩ := h
 exact ⟨A, c, hv⟩
theorem V_at (h : V d e W base ok (.slice A n c) xs) : n = xs.length ∧ n ≤ c ∧ F d W ok A xs.length xs := by
 obtain ⟨A', c', hv, hl, hf⟩ := h
 injection hv with ha hn hc
 subst ha; subst hc
 exact ⟨hn, by rw [hn]; exact hl, hf⟩
theorem V_reads' (h : V d e W base ok (.slice A n c) xs) : n = xs.length ∧ n ≤ c ∧ d.C W A xs.length xs := ⟨(V_at h).1, (V_at h).2.1, F_now (V_at h).2.2⟩
theorem V_F (h : V d e W base ok (.slice A n c) xs) : F d W ok A n xs := by
 obtain ⟨hn, _, hf⟩ := V_at h
 rw [hn]
 exact hf
theorem R_V (h : d.R e W base ok v xs) : V d e W base' ok v xs := by
 obtain ⟨A, c, rfl⟩ := zcf h
 exact ⟨A, c, rfl, (R_reads' h).2.1, R_F h⟩
theorem N_V (h : N d e W base ok v xs) : V d e W base' ok v xs := by
 obtain ⟨A, c, rfl⟩ := zeh h
 exact ⟨A, c, rfl, (N_reads' h).2.1, N_F h⟩
theorem zar (h : V d e W base ok v xs) (hok : ∀ k, ok k → ok' k) : V d e W base ok' v xs := ze2 h (fun _ hf => F_mono hf hok)
theorem zc2 (h : V d e W base ok v xs) (_ : base' ≤ base) : V d e W base' ok v xs := h
theorem zat (h : V d e W base ok v xs) (hb : Below W.heap.size W w1) : V d e w1 base ok v xs := ze2 h (fun _ hf => zcq hf hb)
theorem zam (h : V d e W base ok v xs) : V d e W.drew base ok v xs := ze2 h (fun _ hf => F_drew hf)
theorem zak (h : V d e W base ok v xs) (m : Nat) : V d e (W.drewN m) base ok v xs := ze2 h (fun _ hf => F_drewN hf m)
theorem za0 (h : V d e W base ok v xs) {p : Addr} (hok : ∀ k, ok k → k ≠ p.block) (u : Value) : V d e (W.setCell p u) base ok v xs := ze2 h (fun _ hf => F_far hf hok u)
theorem V_after (h : V d e W base (fun k => ok k ∧ some k ≠ u.ownBlock) v xs) (hg : W.grownBy w1 u.ownBlock) (hat : v1.ownBlock = u.ownBlock ∨ ∃ b, v1.ownBlock = some b ∧ W.heap.size ≤ b) : V d e w1 base (fun k => ok k ∧ some k ≠ v1.ownBlock) v xs := ze2 h (fun _ hf => F_after hf hg hat)
theorem zbu (h : V d e W base (fun k => ok k ∧ some k ≠ v.ownBlock) u xs) (hg : W.grownBy w1 v.ownBlock) (hat : v1.ownBlock = v.ownBlock ∨ ∃ b, v1.ownBlock = some b ∧ W.heap.size ≤ b) : V d e w1 base (fun k => ok k ∧ some k ≠ v1.ownBlock) u xs := V_after h hg hat
theorem zci (h : V d e W base ok v xs) : V d e W base (fun k => ok k ∧ some k ≠ (Value.slice none 0 0).ownBlock) v xs := ze2 h (fun _ hf => F_apart_nil hf)
theorem V_elder' (h : V d e W base ok v xs) (hbase : ∀ k, u.ownBlock = some k → W.heap.size ≤ k) (hb : Below W.heap.size W w1) : V d e w1 base (fun k => ok k ∧ some k ≠ u.ownBlock) v xs := ze2 h (fun _ hf => F_elder' hf hbase hb)
theorem zbi (h : V d e W base ok v xs) (a : Nat) (ha : W.heap.size ≤ a) : V d e W base (fun k => ok k ∧ k ≠ a) v xs := ze2 h (fun _ hf => F_elderB hf a ha)
theorem zec (h : V d e W base ok (.slice (some ad) n c) xs) (z : α) (i : Int) (h0 : 0 ≤ i) (h1 : i < n) :
  ∃ cs, cs.length = d.sz ∧ FK d W ok (xs.getD i.toNat z) cs ∧ ∀ j u, cs[j]? = some u → W.cell? (ad.add (i.toNat * d.sz + j)) = some u := by
 obtain ⟨ad', cs, he, hcl, hK, hcc, _⟩ := F_get (V_F h) z i h0 h1
 injection he with he
 subst he
 exact ⟨cs, hcl, hK, hcc⟩
theorem F_take (h : F d W ok A xs.length xs) (hm : m ≤ xs.length) : F d W ok A (xs.take m).length (xs.take m) := F_imp h (fun _ hC => C_take hC hm)
theorem F_cut (h : F d W ok A xs.length xs) (hm : m ≤ xs.length) (hc : xs.length ≤ c) : F d W ok (if c = m then A else A.map (·.add (m * d.sz))) (xs.drop m).length (xs.drop m) := F_imp h (fun _ hC => C_drop hC hm hc)
end
end Kd
end Go.Proofs.ZW.PrintWords
end
section
namespace Go.Proofs.ZW.PrintWords
theorem Reps.one {α : Type} {R : α → List Value → Prop} {ps : List α} {cs : List Value} {p : α} {v : Value} (hp : R p [v]) (h : Reps R 1 ps cs) : Reps R 1 (p :: ps) (v :: cs) := by
 refine ⟨by simp [h.1], fun j q hq => ?_⟩
 cases j with
 | zero =>
  simp only [List.getElem?_cons_zero, Option.some.injEq] at hq
  subst hq
  simpa using hp
 | succ j =>
  simp only [List.getElem?_cons_succ] at hq
  have h1 := h.2 j q hq
  simpa [Nat.mul_one] using h1
theorem Reps.front {α : Type} {R : α → List Value → Prop} {size : Nat} {ps : List α} {cs c all : List Value} {p : α} (hp : R p c) (hc : c.length = size) (h : Reps R size ps cs) (ha : c ++ cs = all) : Reps R size (p :: ps) all := by
 subst ha
 refine ⟨by rw [List.length_append, hc, h.1, List.length_cons, Nat.succ_mul, Nat.add_comm], fun j q hq => ?_⟩
 cases j with
 | zero =>
  simp only [List.getElem?_cons_zero, Option.some.injEq] at hq
  subst hq
  rw [Nat.zero_mul, List.drop_zero, List.take_append_of_le_length (by omega), List.take_of_length_le (by omega)]
  exact hp
 | succ j =>
  simp only [List.getElem?_cons_succ] at hq
  have h1 := h.2 j q hq
  rw [Nat.succ_mul, List.drop_append, List.drop_of_length_le (by rw [hc]; exact Nat.le_add_left _ _), List.nil_append, hc, Nat.add_sub_cancel]
  exact h1
theorem Reps.c3 {α : Type} {R : α → List Value → Prop} {ps : List α} {cs : List Value} {p : α} {va vb vc : Value} (hp : R p [va, vb, vc]) (h : Reps R 3 ps cs) : Reps R 3 (p :: ps) (va :: vb :: vc :: cs) := Reps.front hp rfl h rfl
end Go.Proofs.ZW.PrintWords
end
section
namespace Go.Proofs.ZZ.GMap
open Go Go.Maps
section
variable {α : Type} [DecidableEq α]
def look : List (α × Value) → α → Option Value
 | [], _ => none
 | p :: t, x => if p.1 = x then some p.2 else look t x
def putM : List (α × Value) → α → Value → List (α × Value)
 | [], x, v => [(x, v)]
 | p :: t, x, v => if p.1 = x then (x, v) :: t else p :: putM t x v
theorem zgl (x y : α) (v : Value) : ∀ M : List (α × Value), look (putM M x v) y = if y = x then some v else look M y
 | [] => by
  simp only [putM, look]
  by_cases h : y = x
  ·rw [if_pos h.symm, if_pos h]
  ·rw [if_neg (fun e => h e.symm), if_neg h]
 | p :: t => by
  have ih := zgl x y v t
  simp only [putM]
  split
  ·rename_i h
   simp only [look]
   by_cases hy : y = x
   ·rw [if_pos hy.symm, if_pos hy]
   ·rw [if_neg (fun e => hy e.symm), if_neg hy, if_neg (fun e => hy (by rw [← e, h]))]
  ·rename_i h
   simp only [look]
   by_cases hp : p.1 = y
   ·rw [if_pos hp, if_neg (fun e => h (by rw [hp, e])), if_pos hp]
   ·rw [if_neg hp, ih, if_neg hp]
theorem zfp {M : List (α × Value)} {x : α} : (look M x).isSome = true ↔ x ∈ M.map (·.1) := by
 induction M with
 | nil => simp [look]
 | cons p t ih =>
  simp only [look, List.map_cons, List.mem_cons]
  by_cases h : p.1 = x
  ·rw [if_pos h]
   simp [h]
  ·rw [if_neg h, ih]
   exact ⟨.inr, fun g => g.resolve_left (fun e => h e.symm)⟩
theorem putM_keys (x : α) (v : Value) : ∀ M : List (α × Value), ∀ y, y ∈ (putM M x v).map (·.1) ↔ y = x ∨ y ∈ M.map (·.1) := fun M y => by
 rw [← zfp, zgl, ← zfp]
 by_cases h : y = x
 ·simp [h]
 ·simp [h]
theorem zij (x : α) (v : Value) : ∀ {M : List (α × Value)}, (M.map (·.1)).Nodup → ((putM M x v).map (·.1)).Nodup
 | [], _ => by simp [putM]
 | p :: t, h => by
  obtain ⟨h1, h2⟩ := List.nodup_cons.1 (by simpa using h : (p.1 :: t.map (·.1)).Nodup)
  simp only [putM]
  split
  ·rename_i e
   rw [List.map_cons]
   refine List.nodup_cons.2 ⟨?_, h2⟩
   rw [← e]
   exact h1
  ·rename_i e
   rw [List.map_cons]
   refine List.nodup_cons.2 ⟨fun hm => ?_, zij x v h2⟩
   rcases (putM_keys x v t p.1).1 hm with g | g
   ·exact e g
   ·exact h1 g
theorem putM_len (x : α) (v : Value) : ∀ M : List (α × Value), (putM M x v).length = if (look M x).isSome = true then M.length else M.length + 1
 | [] => by simp [putM, look]
 | p :: t => by
  have ih := putM_len x v t
  simp only [putM, look]
  split
  ·simp
  ·rw [List.length_cons, ih, List.length_cons]
   split <;> rfl
end
structure KeyAs (P : Program) (k : TypeId) (α : Type) where
 enc : α → Value
 lit : α → Lit
 ok : α → Prop
 keyed : Keyed P k
 key : ∀ {x}, ok x → keyOf P k (enc x) = some (lit x)
 inv : ∀ {v l}, keyOf P k v = some l → ∃ x, ok x ∧ v = enc x ∧ l = lit x
 inj : ∀ {x y}, ok x → ok y → lit x = lit y → x = y
def rawR (v : Value) : Option (DataW Value × List MemPlace) := some (.held v, [])
section
variable {P : Program} {k : TypeId} {α : Type} [DecidableEq α] (K : KeyAs P k α)
def MapAt (b : Nat) (M : List (α × Value)) (W : World) : Prop :=
 (M.map (·.1)).Nodup ∧ (∀ p ∈ M, K.ok p.1) ∧ ∃ D : DataW Value, W.ownsMap P k rawR b M.length D ∧ size D = M.length ∧ ∀ x, K.ok x → has D (K.lit x) = (look M x).isSome ∧ ∀ z, D.atKey (K.lit x) z = (look M x).elim z DataW.held
variable {K} {b : Nat} {M : List (α × Value)} {W : World}
theorem MapAt.lt (h : MapAt K b M W) : b < W.heap.size := by
 obtain ⟨_, _, D, h1, _⟩ := h
 exact h1.lt
theorem MapAt.block (h : MapAt K b M W) : ∃ es c, W.heap[b]? = some (.map es c) := by
 obtain ⟨_, _, D, ⟨es, clock, hb, _⟩, _⟩ := h
 exact ⟨es, clock, hb⟩
theorem MapAt.keep {W' : World} (h : MapAt K b M W) (hb : W'.heap[b]? = W.heap[b]?) : MapAt K b M W' := by
 obtain ⟨h1, h2, D, ⟨es, clock, h3, h4⟩, h5⟩ := h
 exact ⟨h1, h2, D, ⟨es, clock, hb.trans h3, h4⟩, h5⟩
theorem MapAt.new (W : World) : MapAt K W.heap.size [] (W.alloc (.map #[] 0)) :=
 ⟨List.nodup_nil, (fun _ h => nomatch h), _, World.ownsMap_made W _ _ _, rfl, fun x _ => ⟨rfl, fun z => rfl⟩⟩
theorem MapAt.look {t e : TypeId} (h : MapAt K b M W) (ht : P.underlying t = some (.map k e)) {z : Value} (hz : (zeroValue e).run P W = .ok z W) {x : α} (hx : K.ok x) :
  (Instr.lookup t (.map (some b)) (K.enc x) false).run P W = .ok ((look M x).getD z) W := by
 obtain ⟨h1, h2, D, hown, hs, hh⟩ := h
 obtain ⟨v, ps, hr, hv⟩ := hown.lookup K.keyed ht hz (zd := .held z) (zp := []) rfl (K.key hx)
 rw [(hh x hx).2] at hv
 rw [hr]
 congr 1
 simp only [rawR, Option.some.injEq, Prod.mk.injEq] at hv
 cases e : GMap.look M x with
 | none => rw [e] at hv; exact DataW.held.inj hv.1
 | some u => rw [e] at hv; exact DataW.held.inj hv.1
theorem MapAt.len {t e : TypeId} (h : MapAt K b M W) (ht : P.underlying t = some (.map k e)) (ty : TypeId) : (Builtin.len_ #[t] ty #[.map (some b)]).run P W = .ok (.int .i64 M.length) W := by
 obtain ⟨h1, h2, D, hown, hs, hh⟩ := h
 rw [← hs]
 exact hown.len ht ty
theorem tight {R : Value → Option (DataW Value × List MemPlace)} {w : World} {n : Nat} {D : DataW Value} (h : w.ownsMap P k R b n D) : w.ownsMap P k R b (size D) D := by
 obtain ⟨es, clock, hb, F, hs, hD⟩ := h
 refine ⟨es, clock, hb, F, ?_, hD⟩
 rw [hD]
 simp [Maps.size, length_sorted]
theorem MapAt.put {t e : TypeId} (h : MapAt K b M W) (ht : P.underlying t = some (.map k e)) (hn : M.length < maxLen) {x : α} (hx : K.ok x) (v : Value) :
  ∃ W', (Instr.mapUpdate t (.map (some b)) (K.enc x) v).run P W = .ok () W' ∧ MapAt K b (putM M x v) W' ∧ W.grownBy W' (some b) := by
 obtain ⟨h1, h2, D, hown, hs, hh⟩ := h
 obtain ⟨W', hr, ho, hg⟩ := hown.update K.keyed ht hn (K.key hx) (d := .held v) (ps := []) rfl
 have hk := K.keyed.key (K.key hx)
 have hsz : size (D.put (K.lit x) (.held v)) = (putM M x v).length := by
  rw [size_put (hown.tidy K.keyed) _, (hh x hx).1, hs, putM_len]
 refine ⟨W', hr, ⟨zij x v h1, fun p hp => ?_, D.put (K.lit x) (.held v), by rw [← hsz]; exact tight ho, hsz, fun y hy => ?_⟩, hg⟩
 ·rcases (putM_keys x v M p.1).1 (List.mem_map_of_mem hp) with e | e
  ·rw [e]; exact hx
  ·obtain ⟨q, hq, e⟩ := List.mem_map.1 e
   rw [← e]
   exact h2 q hq
 ·by_cases e : y = x
  ·subst e
   rw [has_put_same hown.isMap hk, zgl, if_pos rfl]
   exact ⟨rfl, fun z => atKey_put_same hown.isMap hk _ _⟩
  ·have hne : K.lit y ≠ K.lit x := fun g => e (K.inj hy hx g)
   rw [has_put_other hne, zgl, if_neg e, (hh y hy).1]
   exact ⟨rfl, fun z => by rw [atKey_put_other hne]; exact (hh y hy).2 z⟩
end
end Go.Proofs.ZZ.GMap
end
section
namespace Go.Proofs.ZZ.Round
open Go Go.RowKit
section
variable {P : Program} {ops : Array Oper} {Q : Exit → Act → World → Prop} {l n : Nat}
def Qn (Q : Exit → Act → World → Prop) : Exit → Act → World → Prop
 | .outgrown, _, _ => False
 | e, a, w => Q e a w
@[go_sem] theorem Qn_normal (a : Act) (w : World) : Qn Q .normal a w = Q .normal a w := rfl
end
end Go.Proofs.ZZ.Round
end
section
namespace Go.Proofs.ZZ.G16
abbrev Mk := Int × Int
abbrev Nd := Int × Int × List Int
def mlt (a b : Mk) : Prop := a.1 < b.1 ∨ a.1 = b.1 ∧ a.2 < b.2
instance (a b : Mk) : Decidable (mlt a b) := by unfold mlt; exact inferInstance
theorem zdu (a : Mk) : ¬ mlt a a := by unfold mlt; omega
theorem zdp {a b c : Mk} (h : mlt a b) (k : mlt b c) : mlt a c := by unfold mlt at *; omega
theorem mlt_tri (a b : Mk) : mlt a b ∨ a = b ∨ mlt b a := by
 obtain ⟨a1, a2⟩ := a
 obtain ⟨b1, b2⟩ := b
 simp only [mlt, Prod.mk.injEq]
 omega
def mrk (x : Nd) : Mk := (x.2.1, x.1)
theorem zdw {α : Type} {lt : α → α → Prop} (irr : ∀ a, ¬ lt a a) (tr : ∀ {a b c}, lt a b → lt b c → lt a c) : ∀ {u v : List α}, u.Pairwise lt → v.Pairwise lt → (∀ x, x ∈ u ↔ x ∈ v) → u = v
 | [], [], _, _, _ => rfl
 | [], y :: v, _, _, h => nomatch (h y).2 (by simp)
 | x :: u, [], _, _, h => nomatch (h x).1 (by simp)
 | x :: u, y :: v, hu, hv, h => by
  obtain ⟨u1, u2⟩ := List.pairwise_cons.1 hu
  obtain ⟨v1, v2⟩ := List.pairwise_cons.1 hv
  have e : x = y := by
   rcases List.mem_cons.1 ((h x).1 (by simp)) with e | hx
   ·exact e
   ·rcases List.mem_cons.1 ((h y).2 (by simp)) with e | hy
    ·exact e.symm
    ·exact absurd (tr (u1 y hy) (v1 x hx)) (irr x)
  subst e
  congr 1
  refine zdw irr tr u2 v2 fun z => ?_
  have hz := h z
  simp only [List.mem_cons] at hz
  constructor
  ·intro k
   rcases hz.1 (.inr k) with e | e
   ·subst e; exact absurd (u1 z k) (irr z)
   ·exact e
  ·intro k
   rcases hz.2 (.inr k) with e | e
   ·subst e; exact absurd (v1 z k) (irr z)
   ·exact e
theorem zfa {α : Type} {lt : α → α → Prop} (irr : ∀ a, ¬ lt a a) {u : List α} (h : u.Pairwise lt) : u.Nodup := List.Pairwise.imp (fun {a b} k e => by subst e; exact irr _ k) h
def marks (g : List Nd) : List Mk := g.map mrk
def Edge (g : List Nd) (m m' : Mk) : Prop := ∃ x ∈ g, mrk x = m ∧ ∃ k ∈ x.2.2, 0 ≤ k ∧ (marks g)[k.toNat]? = some m'
structure NdOk (n : Nat) (x : Nd) : Prop where
 s0 : 0 ≤ x.1
 s1 : x.1 ≤ 65535
 a0 : 0 ≤ x.2.1
 a1 : x.2.1 ≤ 65535
 up : x.2.2.Pairwise (· < ·)
 inn : ∀ k ∈ x.2.2, 0 ≤ k ∧ k < (n : Int)
structure FitG (g : List Nd) : Prop where
 len : g.length ≤ 4096
 rise : (marks g).Pairwise mlt
 ok : ∀ x ∈ g, NdOk g.length x
 back : ∀ m m', Edge g m m' → m'.1 ≤ m.1
theorem zcl (g : List Nd) : (marks g).length = g.length := List.length_map _
theorem FitG.nodup {g : List Nd} (h : FitG g) : (marks g).Nodup := zfa zdu h.rise
theorem zfr {α : Type} {l : List α} (h : l.Nodup) {i j : Nat} {a : α} (hi : l[i]? = some a) (hj : l[j]? = some a) : i = j := by
 obtain ⟨h1, e1⟩ := List.getElem?_eq_some_iff.1 hi
 obtain ⟨h2, e2⟩ := List.getElem?_eq_some_iff.1 hj
 rcases Nat.lt_trichotomy i j with k | k | k
 ·exact absurd (e1.trans e2.symm) (List.pairwise_iff_getElem.1 h i j h1 h2 k)
 ·exact k
 ·exact absurd (e2.trans e1.symm) (List.pairwise_iff_getElem.1 h j i h2 h1 k)
theorem zc3 {g : List Nd} {i : Nat} {x : Nd} (h : g[i]? = some x) : (marks g)[i]? = some (mrk x) := by simp [marks, h]
theorem FitG.link {g : List Nd} (h : FitG g) {i : Nat} {x : Nd} (hx : g[i]? = some x) (k : Int) : k ∈ x.2.2 ↔ 0 ≤ k ∧ ∃ m', (marks g)[k.toNat]? = some m' ∧ Edge g (mrk x) m' := by
 constructor
 ·intro hk
  obtain ⟨k0, k1⟩ := (h.ok x (List.mem_of_getElem? hx)).inn k hk
  have hl : k.toNat < (marks g).length := by rw [zcl]; omega
  exact ⟨k0, _, List.getElem?_eq_getElem hl, x, List.mem_of_getElem? hx, rfl, k, hk, k0, List.getElem?_eq_getElem hl⟩
 ·rintro ⟨k0, m', hm, y, hy, e, j, hj, j0, hm'⟩
  obtain ⟨i', hi'⟩ := List.getElem?_of_mem hy
  have e1 := zfr h.nodup (zc3 hi') (e ▸ zc3 hx)
  subst e1
  rw [hx] at hi'
  obtain rfl := Option.some.inj hi'
  have := zfr h.nodup hm hm'
  have : k = j := by omega
  rw [this]; exact hj
theorem FitG.ext {g h : List Nd} (hg : FitG g) (hh : FitG h) (hm : ∀ m, m ∈ marks g ↔ m ∈ marks h) (he : ∀ m m', Edge g m m' ↔ Edge h m m') : g = h := by
 have em : marks g = marks h := zdw zdu zdp hg.rise hh.rise hm
 have el : g.length = h.length := by rw [← zcl, em, zcl]
 refine List.ext_getElem? fun i => ?_
 by_cases hi : i < g.length
 ·have h1 : g[i]? = some g[i] := List.getElem?_eq_getElem hi
  have h2 : h[i]? = some (h[i]'(by omega)) := List.getElem?_eq_getElem (by omega)
  have e1 : mrk g[i] = mrk (h[i]'(by omega)) := by
   have a := zc3 h1
   have b := zc3 h2
   rw [em, b] at a
   exact (Option.some.inj a).symm
  rw [h1, h2]
  congr 1
  have e2 : (g[i]).2.2 = (h[i]'(by omega)).2.2 := by
   refine zdw (lt := (· < ·)) (fun a => Int.lt_irrefl a) (fun {a b c} => Int.lt_trans) (hg.ok _ (List.mem_of_getElem? h1)).up (hh.ok _ (List.mem_of_getElem? h2)).up fun k => ?_
   rw [hg.link h1, hh.link h2, em, e1]
   simp only [he]
  simp only [mrk, Prod.mk.injEq] at e1
  exact Prod.ext e1.2 (Prod.ext e1.1 e2)
 ·rw [List.getElem?_eq_none (by omega), List.getElem?_eq_none (by omega)]
section
variable {α : Type} (lt : α → α → Prop) [DecidableRel lt]
def ins (x : α) : List α → List α
 | [] => [x]
 | a :: t => if lt a x then a :: ins x t else x :: a :: t
def ze7 : List α → List α
 | [] => []
 | a :: t => ins lt a (ze7 t)
variable {lt}
theorem mem_ins {x y : α} : ∀ {l : List α}, y ∈ ins lt x l ↔ y = x ∨ y ∈ l
 | [] => by simp [ins]
 | a :: t => by
  have ih := mem_ins (x := x) (y := y) (l := t)
  simp only [ins]
  split
  ·simp only [List.mem_cons, ih]
   constructor
   ·rintro (h | h | h)
    ·exact .inr (.inl h)
    ·exact .inl h
    ·exact .inr (.inr h)
   ·rintro (h | h | h)
    ·exact .inr (.inl h)
    ·exact .inl h
    ·exact .inr (.inr h)
  ·simp only [List.mem_cons]
theorem zbx {y : α} : ∀ {l : List α}, y ∈ ze7 lt l ↔ y ∈ l
 | [] => by simp [ze7]
 | a :: t => by rw [ze7, mem_ins, zbx (l := t), List.mem_cons]
theorem ins_rise (tr : ∀ {a b c : α}, lt a b → lt b c → lt a c) (tri : ∀ a b : α, lt a b ∨ a = b ∨ lt b a) {x : α} : ∀ {l : List α}, l.Pairwise lt → x ∉ l → (ins lt x l).Pairwise lt
 | [], _, _ => by simp [ins]
 | a :: t, h, hx => by
  obtain ⟨h1, h2⟩ := List.pairwise_cons.1 h
  simp only [List.mem_cons, not_or] at hx
  simp only [ins]
  split
  ·rename_i ha
   refine List.pairwise_cons.2 ⟨fun y hy => ?_, ins_rise (fun h k => tr h k) tri h2 hx.2⟩
   rcases mem_ins.1 hy with rfl | hy
   ·exact ha
   ·exact h1 y hy
  ·rename_i ha
   have hxa : lt x a := (tri x a).elim id (fun k => k.elim (fun e => absurd e hx.1) (fun e => absurd e ha))
   refine List.pairwise_cons.2 ⟨fun y hy => ?_, h⟩
   rcases List.mem_cons.1 hy with rfl | hy
   ·exact hxa
   ·exact tr hxa (h1 y hy)
theorem zgj (tr : ∀ {a b c : α}, lt a b → lt b c → lt a c) (tri : ∀ a b : α, lt a b ∨ a = b ∨ lt b a) : ∀ {l : List α}, l.Nodup → (ze7 lt l).Pairwise lt
 | [], _ => List.Pairwise.nil
 | a :: t, h => by
  obtain ⟨h1, h2⟩ := List.nodup_cons.1 h
  exact ins_rise (lt := lt) (fun h k => tr h k) tri (zgj (fun h k => tr h k) tri h2) (fun k => h1 (zbx.1 k))
theorem ins_len {x : α} : ∀ {l : List α}, (ins lt x l).length = l.length + 1
 | [] => rfl
 | a :: t => by
  simp only [ins]
  split
  ·simp only [List.length_cons, ins_len (l := t)]
  ·rfl
theorem zg0 : ∀ {l : List α}, (ze7 lt l).length = l.length
 | [] => rfl
 | a :: t => by rw [ze7, ins_len, zg0 (l := t), List.length_cons]
end
def isM : List Mk → List Mk := ze7 mlt
def isI : List Int → List Int := ze7 (· < ·)
theorem zeq {l : List Mk} (h : l.Nodup) : (isM l).Pairwise mlt := zgj (lt := mlt) (fun h k => zdp h k) mlt_tri h
theorem zgi {l : List Int} (h : l.Nodup) : (isI l).Pairwise (· < ·) := zgj (lt := fun a b : Int => a < b) (fun h k => Int.lt_trans h k) Int.lt_trichotomy h
def idx (s : List Mk) (m : Mk) : Int := (s.findIdx (· == m) : Nat)
def ze0 (ks : List Mk) (f : Mk → List Mk) : List Nd := (isM ks).map fun m => (m.2, m.1, isI ((f m).map (idx (isM ks))))
theorem zdy {s : List Mk} {m : Mk} (h : m ∈ s) : s[(idx s m).toNat]? = some m ∧ 0 ≤ idx s m ∧ idx s m < (s.length : Int) := by
 have hl : s.findIdx (· == m) < s.length := List.findIdx_lt_length_of_exists ⟨m, h, by simp⟩
 unfold idx
 refine ⟨?_, by omega, by omega⟩
 rw [Int.toNat_natCast, List.getElem?_eq_getElem hl]
 have := List.findIdx_getElem (w := hl)
 simpa using this
theorem idx_of {s : List Mk} (hs : s.Nodup) {m : Mk} {i : Nat} (h : s[i]? = some m) : idx s m = i := by
 have := (zdy (List.mem_of_getElem? h))
 have := zfr hs this.1 h
 omega
theorem idx_inj {s : List Mk} {a b : Mk} (ha : a ∈ s) (hb : b ∈ s) (h : idx s a = idx s b) : a = b := by
 have h1 := (zdy ha).1
 have h2 := (zdy hb).1
 rw [h, h2] at h1
 exact (Option.some.inj h1).symm
structure GrOk (ks : List Mk) (f : Mk → List Mk) : Prop where
 nd : ks.Nodup
 len : ks.length ≤ 4096
 rng : ∀ m ∈ ks, 0 ≤ m.1 ∧ m.1 ≤ 65535 ∧ 0 ≤ m.2 ∧ m.2 ≤ 65535
 fnd : ∀ m ∈ ks, (f m).Nodup
 inn : ∀ m ∈ ks, ∀ m' ∈ f m, m' ∈ ks ∧ m'.1 ≤ m.1
theorem zfq (ks : List Mk) (f : Mk → List Mk) : marks (ze0 ks f) = isM ks := by
 unfold marks ze0
 rw [List.map_map]
 refine (List.map_congr_left fun x _ => ?_).trans (List.map_id _)
 rfl
theorem zhn {ks : List Mk} {f : Mk → List Mk} (h : GrOk ks f) (m m' : Mk) : Edge (ze0 ks f) m m' ↔ m ∈ ks ∧ m' ∈ f m := by
 have hnd := zfa zdu (zeq h.nd)
 unfold Edge
 rw [zfq]
 constructor
 ·rintro ⟨x, hx, e, k, hk, k0, hm'⟩
  obtain ⟨q, hq, rfl⟩ := List.mem_map.1 hx
  obtain rfl : q = m := e
  have hqk := zbx.1 hq
  obtain ⟨m2, h2, rfl⟩ := List.mem_map.1 (zbx.1 hk)
  have := (zdy (s := isM ks) (zbx.2 (h.inn q hqk m2 h2).1)).1
  rw [hm'] at this
  obtain rfl := Option.some.inj this
  exact ⟨hqk, h2⟩
 ·rintro ⟨hm, hm'⟩
  have hk := zdy (s := isM ks) (zbx.2 (h.inn m hm m' hm').1)
  exact ⟨_, List.mem_map.2 ⟨m, zbx.2 hm, rfl⟩, rfl, idx (isM ks) m', zbx.2 (List.mem_map.2 ⟨m', hm', rfl⟩), hk.2.1, hk.1⟩
theorem zic {ks : List Mk} {f : Mk → List Mk} (h : GrOk ks f) : FitG (ze0 ks f) := by
 have hl : (ze0 ks f).length = ks.length := by unfold ze0; rw [List.length_map]; exact zg0
 refine ⟨by rw [hl]; exact h.len, by rw [zfq]; exact zeq h.nd, fun x hx => ?_, fun m m' he => ?_⟩
 ·obtain ⟨q, hq, rfl⟩ := List.mem_map.1 hx
  have hqk := zbx.1 hq
  obtain ⟨r1, r2, r3, r4⟩ := h.rng q hqk
  refine ⟨r3, r4, r1, r2, zgi ?_, fun k hk => ?_⟩
  ·refine List.pairwise_map.2 ((h.fnd q hqk).imp_of_mem fun {a b} ha hb hne e => hne ?_)
   exact idx_inj (zbx.2 (h.inn q hqk a ha).1) (zbx.2 (h.inn q hqk b hb).1) e
  ·obtain ⟨m2, h2, rfl⟩ := List.mem_map.1 (zbx.1 hk)
   have := zdy (s := isM ks) (zbx.2 (h.inn q hqk m2 h2).1)
   rw [hl]
   have e : (isM ks).length = ks.length := zg0
   omega
 ·obtain ⟨h1, h2⟩ := (zhn h m m').1 he
  exact (h.inn m h1 m' h2).2
def putI (x : Int) : List Int → List Int
 | [] => [x]
 | a :: t => if a < x then a :: putI x t else if a = x then a :: t else x :: a :: t
theorem zes {x y : Int} : ∀ {l : List Int}, y ∈ putI x l ↔ y = x ∨ y ∈ l
 | [] => by simp [putI]
 | a :: t => by
  have ih := zes (x := x) (y := y) (l := t)
  simp only [putI]
  split
  ·simp only [List.mem_cons, ih]
   constructor
   ·rintro (h | h | h)
    ·exact .inr (.inl h)
    ·exact .inl h
    ·exact .inr (.inr h)
   ·rintro (h | h | h)
    ·exact .inr (.inl h)
    ·exact .inl h
    ·exact .inr (.inr h)
  ·split
   ·rename_i h; subst h; simp only [List.mem_cons]
    constructor
    ·exact .inr
    ·rintro (h | h)
     ·exact .inl h
     ·exact h
   ·simp only [List.mem_cons]
theorem putI_rise {x : Int} : ∀ {l : List Int}, l.Pairwise (· < ·) → (putI x l).Pairwise (· < ·)
 | [], _ => by simp [putI]
 | a :: t, h => by
  obtain ⟨h1, h2⟩ := List.pairwise_cons.1 h
  simp only [putI]
  split
  ·refine List.pairwise_cons.2 ⟨fun y hy => ?_, putI_rise h2⟩
   rcases zes.1 hy with rfl | hy
   ·assumption
   ·exact h1 y hy
  ·split
   ·exact h
   ·refine List.pairwise_cons.2 ⟨fun y hy => ?_, h⟩
    rcases List.mem_cons.1 hy with rfl | hy
    ·omega
    ·have := h1 y hy; omega
theorem putI_len {x : Int} : ∀ {l : List Int}, l.Pairwise (· < ·) → (putI x l).length = if x ∈ l then l.length else l.length + 1
 | [], _ => by simp [putI]
 | a :: t, h => by
  obtain ⟨h1, h2⟩ := List.pairwise_cons.1 h
  have ih := putI_len (x := x) h2
  simp only [putI]
  split
  ·rename_i ha
   have : x ≠ a := by omega
   simp only [List.length_cons, ih, List.mem_cons, this, false_or]
   split <;> rfl
  ·split
   ·rename_i e; subst e; simp
   ·have h3 : x ∉ a :: t := by
     intro k
     rcases List.mem_cons.1 k with k | k
     ·omega
     ·have := h1 x k; omega
    rw [if_neg h3]; rfl
def shI (p : Nat) (j : Int) : Int := if (p : Int) ≤ j then j + 1 else j
def shN (p : Nat) (x : Nd) : Nd := (x.1, x.2.1, x.2.2.map (shI p))
def pos (g : List Nd) (m : Mk) : Nat := (g.takeWhile fun x => decide (mlt (mrk x) m)).length
def zcx (g : List Nd) (m : Mk) : List Nd := (g.take (pos g m)).map (shN (pos g m)) ++ (m.2, m.1, []) :: (g.drop (pos g m)).map (shN (pos g m))
theorem pos_le (g : List Nd) (m : Mk) : pos g m ≤ g.length := (List.takeWhile_sublist _).length_le
theorem take_pos (g : List Nd) (m : Mk) : g.take (pos g m) = g.takeWhile fun x => decide (mlt (mrk x) m) := by
 unfold pos
 exact (List.prefix_iff_eq_take.1 (List.takeWhile_prefix _)).symm
theorem marks_shN (p : Nat) (l : List Nd) : marks (l.map (shN p)) = marks l := by
 unfold marks
 rw [List.map_map]
 exact List.map_congr_left fun x _ => rfl
theorem zf0 (g : List Nd) (m : Mk) : marks (zcx g m) = (marks g).take (pos g m) ++ m :: (marks g).drop (pos g m) := by
 have e : marks (zcx g m) = marks ((g.take (pos g m)).map (shN (pos g m))) ++ m :: marks ((g.drop (pos g m)).map (shN (pos g m))) := by
  unfold marks zcx
  rw [List.map_append, List.map_cons]
  rfl
 rw [e, marks_shN, marks_shN]
 unfold marks
 rw [List.map_take, List.map_drop]
theorem zg2 {g : List Nd} {m q : Mk} : q ∈ marks (zcx g m) ↔ q = m ∨ q ∈ marks g := by
 rw [zf0]
 conv => rhs; rw [← List.take_append_drop (pos g m) (marks g)]
 simp only [List.mem_append, List.mem_cons]
 constructor
 ·rintro (h | h | h)
  ·exact .inr (.inl h)
  ·exact .inl h
  ·exact .inr (.inr h)
 ·rintro (h | h | h)
  ·exact .inr (.inl h)
  ·exact .inl h
  ·exact .inr (.inr h)
theorem zfx (g : List Nd) (m : Mk) : (zcx g m).length = g.length + 1 := by
 have := pos_le g m
 unfold zcx
 simp only [List.length_append, List.length_map, List.length_take, List.length_cons, List.length_drop]
 omega
theorem marks_sh (g : List Nd) (m : Mk) (k : Nat) (_ : k < g.length) : (marks (zcx g m))[(shI (pos g m) (k : Int)).toNat]? = (marks g)[k]? := by
 have hp := pos_le g m
 have hl := zcl g
 rw [zf0]
 unfold shI
 by_cases c : ((pos g m : Nat) : Int) ≤ (k : Int)
 ·rw [if_pos c, show ((k : Int) + 1).toNat = k + 1 by omega, List.getElem?_append_right (by rw [List.length_take]; omega), List.length_take, Nat.min_eq_left (by omega), show k + 1 - pos g m = (k - pos g m) + 1 by omega, List.getElem?_cons_succ, List.getElem?_drop, show pos g m + (k - pos g m) = k by omega]
 ·rw [if_neg c, Int.toNat_natCast, List.getElem?_append_left (by rw [List.length_take]; omega), List.getElem?_take_of_lt (by omega)]
theorem zet {g : List Nd} {m : Mk} {y : Nd} : y ∈ zcx g m ↔ y = (m.2, m.1, []) ∨ ∃ x ∈ g, y = shN (pos g m) x := by
 unfold zcx
 simp only [List.mem_append, List.mem_cons, List.mem_map]
 constructor
 ·rintro (⟨x, hx, rfl⟩ | h | ⟨x, hx, rfl⟩)
  ·exact .inr ⟨x, List.mem_of_mem_take hx, rfl⟩
  ·exact .inl h
  ·exact .inr ⟨x, List.mem_of_mem_drop hx, rfl⟩
 ·rintro (h | ⟨x, hx, rfl⟩)
  ·exact .inr (.inl h)
  ·rw [← List.take_append_drop (pos g m) g] at hx
   rcases List.mem_append.1 hx with h | h
   ·exact .inl ⟨x, h, rfl⟩
   ·exact .inr (.inr ⟨x, h, rfl⟩)
theorem FitG.zge {g : List Nd} (h : FitG g) (m q q' : Mk) : Edge (zcx g m) q q' ↔ Edge g q q' := by
 constructor
 ·rintro ⟨y, hy, e, k, hk, k0, hq'⟩
  rcases zet.1 hy with rfl | ⟨x, hx, rfl⟩
  ·exact nomatch hk
  ·obtain ⟨j, hj, rfl⟩ := List.mem_map.1 hk
   obtain ⟨j0, j1⟩ := (h.ok x hx).inn j hj
   refine ⟨x, hx, e, j, hj, j0, ?_⟩
   have := marks_sh g m j.toNat (by omega)
   rw [show ((j.toNat : Nat) : Int) = j by omega, hq'] at this
   exact this.symm
 ·rintro ⟨x, hx, e, j, hj, j0, hq'⟩
  obtain ⟨_, j1⟩ := (h.ok x hx).inn j hj
  refine ⟨shN (pos g m) x, zet.2 (.inr ⟨x, hx, rfl⟩), e, shI (pos g m) j, List.mem_map.2 ⟨j, hj, rfl⟩, by unfold shI; split <;> omega, ?_⟩
  have := marks_sh g m j.toNat (by omega)
  rw [show ((j.toNat : Nat) : Int) = j by omega] at this
  rw [this]; exact hq'
theorem zgd {α : Type} (p : α → Bool) : ∀ l : List α, ∀ y, (l.drop (l.takeWhile p).length).head? = some y → p y = false
 | [], y, h => by simp at h
 | a :: t, y, h => by
  by_cases c : p a = true
  ·rw [List.takeWhile_cons_of_pos c] at h
   exact zgd p t y (by simpa using h)
  ·rw [List.takeWhile_cons_of_neg c] at h
   have : y = a := by simpa using h.symm
   subst this
   simpa using c
theorem FitG.fit_withV {g : List Nd} (h : FitG g) {m : Mk} (hm : m ∉ marks g) (hl : g.length < 4096) (r : 0 ≤ m.1 ∧ m.1 ≤ 65535 ∧ 0 ≤ m.2 ∧ m.2 ≤ 65535) : FitG (zcx g m) := by
 refine ⟨by rw [zfx]; omega, ?_, fun y hy => ?_, fun q q' he => h.back q q' ((h.zge m q q').1 he)⟩
 ·rw [zf0]
  have hb : ∀ q ∈ (marks g).take (pos g m), mlt q m := by
   intro q hq
   have e : (marks g).take (pos g m) = (g.take (pos g m)).map mrk := by unfold marks; rw [List.map_take]
   rw [e, take_pos] at hq
   obtain ⟨x, hx, rfl⟩ := List.mem_map.1 hq
   simpa using List.all_eq_true.1 (List.all_takeWhile (p := fun x => decide (mlt (mrk x) m)) (l := g)) x hx
  have ha : ∀ q ∈ (marks g).drop (pos g m), mlt m q := by
   intro q hq
   have hp : ((marks g).drop (pos g m)).Pairwise mlt := h.rise.sublist (List.drop_sublist _ _)
   cases e : (marks g).drop (pos g m) with
   | nil => rw [e] at hq; exact nomatch hq
   | cons z t =>
    rw [e] at hp hq
    have hz : mlt m z := by
     have e2 : (marks g).drop (pos g m) = (g.drop (pos g m)).map mrk := by unfold marks; rw [List.map_drop]
     rw [e2] at e
     cases e3 : g.drop (pos g m) with
     | nil => rw [e3] at e; exact nomatch e
     | cons y t2 =>
      rw [e3] at e
      obtain ⟨rfl, _⟩ := List.cons.inj e
      have := zgd (fun x => decide (mlt (mrk x) m)) g y (by show (g.drop (pos g m)).head? = some y; rw [e3]; rfl)
      have hn : ¬ mlt (mrk y) m := by simpa using this
      rcases mlt_tri m (mrk y) with k | k | k
      ·exact k
      ·exfalso; apply hm; rw [k]
       exact List.mem_map.2 ⟨y, List.mem_of_mem_drop (by rw [e3]; simp), rfl⟩
      ·exact absurd k hn
    rcases List.mem_cons.1 hq with rfl | k
    ·exact hz
    ·exact zdp hz ((List.pairwise_cons.1 hp).1 q k)
  refine List.pairwise_append.2 ⟨h.rise.sublist (List.take_sublist _ _), List.pairwise_cons.2 ⟨ha, h.rise.sublist (List.drop_sublist _ _)⟩, fun a ka b kb => ?_⟩
  rcases List.mem_cons.1 kb with rfl | kb
  ·exact hb a ka
  ·exact zdp (hb a ka) (ha b kb)
 ·rw [zfx]
  rcases zet.1 hy with rfl | ⟨x, hx, rfl⟩
  ·exact ⟨r.2.2.1, r.2.2.2, r.1, r.2.1, List.Pairwise.nil, fun k hk => nomatch hk⟩
  ·obtain ⟨s0, s1, a0, a1, up, inn⟩ := h.ok x hx
   refine ⟨s0, s1, a0, a1, ?_, fun k hk => ?_⟩
   ·refine List.pairwise_map.2 (up.imp fun {a b} hab => ?_)
    unfold shI
    split <;> split <;> omega
   ·obtain ⟨j, hj, rfl⟩ := List.mem_map.1 hk
    have := inn j hj
    unfold shI
    split <;> omega
def addE (g : List Nd) (m b : Mk) : List Nd := g.map fun x => if mrk x = m then (x.1, x.2.1, putI (idx (marks g) b) x.2.2) else x
theorem zcn (g : List Nd) (m b : Mk) : marks (addE g m b) = marks g := by
 unfold marks addE
 rw [List.map_map]
 refine List.map_congr_left fun x _ => ?_
 simp only [Function.comp]
 split <;> rfl
theorem zhx (g : List Nd) (m b : Mk) : (addE g m b).length = g.length := List.length_map _
theorem FitG.zgy {g : List Nd} (_ : FitG g) {m b : Mk} (hm : m ∈ marks g) (hb : b ∈ marks g) (q q' : Mk) : Edge (addE g m b) q q' ↔ Edge g q q' ∨ q = m ∧ q' = b := by
 have hi := zdy hb
 unfold Edge
 rw [zcn]
 constructor
 ·rintro ⟨y, hy, e, k, hk, k0, hq'⟩
  obtain ⟨x, hx, rfl⟩ := List.mem_map.1 hy
  by_cases c : mrk x = m
  ·rw [if_pos c] at hk e
   rcases zes.1 hk with rfl | hk
   ·rw [hi.1] at hq'
    exact .inr ⟨e.symm.trans c, (Option.some.inj hq').symm⟩
   ·exact .inl ⟨x, hx, e, k, hk, k0, hq'⟩
  ·rw [if_neg c] at hk e
   exact .inl ⟨x, hx, e, k, hk, k0, hq'⟩
 ·rintro (⟨x, hx, e, k, hk, k0, hq'⟩ | ⟨rfl, rfl⟩)
  ·refine ⟨_, List.mem_map.2 ⟨x, hx, rfl⟩, ?_, k, ?_, k0, hq'⟩
   ·split <;> exact e
   ·split
    ·exact zes.2 (.inr hk)
    ·exact hk
  ·obtain ⟨x, hx, e⟩ := List.mem_map.1 hm
   refine ⟨_, List.mem_map.2 ⟨x, hx, rfl⟩, ?_, idx (marks g) q', ?_, hi.2.1, hi.1⟩
   ·rw [if_pos e]; exact e
   ·rw [if_pos e]; exact zes.2 (.inl rfl)
theorem FitG.zgg {g : List Nd} (h : FitG g) {m b : Mk} (hm : m ∈ marks g) (hb : b ∈ marks g) (hle : b.1 ≤ m.1) : FitG (addE g m b) := by
 have hi := zdy hb
 rw [zcl] at hi
 refine ⟨by rw [zhx]; exact h.len, by rw [zcn]; exact h.rise, fun y hy => ?_, fun q q' he => ?_⟩
 ·rw [zhx]
  obtain ⟨x, hx, rfl⟩ := List.mem_map.1 hy
  obtain ⟨s0, s1, a0, a1, up, inn⟩ := h.ok x hx
  split
  ·exact ⟨s0, s1, a0, a1, putI_rise up, fun k hk => (zes.1 hk).elim (fun e => by rw [e]; exact hi.2) (inn k)⟩
  ·exact ⟨s0, s1, a0, a1, up, inn⟩
 ·rcases (h.zgy hm hb q q').1 he with k | ⟨rfl, rfl⟩
  ·exact h.back q q' k
  ·exact hle
abbrev Gr := List (Mk × List Mk)
def keys (G : Gr) : List Mk := G.map (·.1)
def lks (G : Gr) (m : Mk) : List Mk := ((G.find? (fun p => p.1 == m)).map (·.2)).getD []
def zb6 (G : Gr) (m : Mk) : Gr := if m ∈ keys G then G else G ++ [(m, [])]
def zce (G : Gr) (m m' : Mk) : Gr := G.map fun p => if p.1 = m then (p.1, if m' ∈ p.2 then p.2 else p.2 ++ [m']) else p
def zev (ms : List Mk) (G : Gr) (x : Nd) : Gr := x.2.2.foldl (fun G k => zce G (mrk x) (ms.getD k.toNat (0, 0))) (zb6 G (mrk x))
def gadd (G : Gr) (g : List Nd) : Gr := g.foldl (zev (marks g)) G
structure GrI (G : Gr) : Prop where
 nd : (keys G).Nodup
 ln : ∀ p ∈ G, p.2.Nodup
theorem lks_of {G : Gr} (h : (keys G).Nodup) {p : Mk × List Mk} (hp : p ∈ G) : lks G p.1 = p.2 := by
 induction G with
 | nil => exact nomatch hp
 | cons a t ih =>
  obtain ⟨h1, h2⟩ := List.nodup_cons.1 (show (a.1 :: keys t).Nodup from h)
  unfold lks
  rw [List.find?_cons]
  by_cases c : a.1 = p.1
  ·have : (a.1 == p.1) = true := by simp [c]
   rw [this]
   rcases List.mem_cons.1 hp with rfl | hp
   ·rfl
   ·exact absurd (List.mem_map.2 ⟨p, hp, c.symm⟩) h1
  ·have e : (a.1 == p.1) = false := by simp [c]
   rw [e]
   rcases List.mem_cons.1 hp with rfl | hp
   ·exact absurd rfl c
   ·exact ih h2 hp
theorem zfo {G : Gr} {m : Mk} (h : m ∉ keys G) : lks G m = [] := by
 unfold lks
 rw [List.find?_eq_none.2 fun p hp e => h (List.mem_map.2 ⟨p, hp, by simpa using e⟩)]
 rfl
theorem zed (G : Gr) (m m' : Mk) : keys (zce G m m') = keys G := by
 unfold keys zce
 rw [List.map_map]
 refine List.map_congr_left fun p _ => ?_
 simp only [Function.comp]
 split <;> rfl
theorem zee (G : Gr) (m q : Mk) : q ∈ keys (zb6 G m) ↔ q = m ∨ q ∈ keys G := by
 unfold zb6
 split
 ·rename_i h
  constructor
  ·exact .inr
  ·rintro (rfl | k)
   ·exact h
   ·exact k
 ·unfold keys
  simp only [List.map_append, List.map_cons, List.map_nil, List.mem_append, List.mem_cons, List.not_mem_nil, or_false]
  constructor
  ·rintro (k | k)
   ·exact .inr k
   ·exact .inl k
  ·rintro (k | k)
   ·exact .inr k
   ·exact .inl k
theorem GrI.zb6 {G : Gr} (h : GrI G) (m : Mk) : GrI (zb6 G m) := by
 unfold G16.zb6
 split
 ·exact h
 ·rename_i hm
  refine ⟨?_, fun p hp => ?_⟩
  ·unfold keys
   rw [List.map_append]
   exact List.nodup_append.2 ⟨h.nd, by simp, fun a ha b hb e => by
    obtain rfl : b = m := by simpa using hb
    subst e; exact hm ha⟩
  ·rcases List.mem_append.1 hp with k | k
   ·exact h.ln p k
   ·obtain rfl : p = (m, []) := by simpa using k
    exact List.nodup_nil
theorem GrI.zce {G : Gr} (h : GrI G) (m m' : Mk) : GrI (zce G m m') := by
 refine ⟨by rw [zed]; exact h.nd, fun p hp => ?_⟩
 obtain ⟨q, hq, rfl⟩ := List.mem_map.1 hp
 have hn := h.ln q hq
 split
 ·show (if m' ∈ q.2 then q.2 else q.2 ++ [m']).Nodup
  split
  ·exact hn
  ·rename_i hm
   exact List.nodup_append.2 ⟨hn, by simp, fun a ha b hb e => by
    obtain rfl : b = m' := by simpa using hb
    subst e; exact hm ha⟩
 ·exact hn
theorem zg1 {G : Gr} (h : GrI G) (m q : Mk) : lks (zb6 G m) q = lks G q := by
 unfold zb6
 split
 ·rfl
 ·rename_i hm
  by_cases c : q ∈ keys G
  ·unfold lks
   obtain ⟨p, hp, rfl⟩ := List.mem_map.1 c
   rw [List.find?_append]
   cases e : G.find? (fun x => x.1 == p.1) with
   | some y => rfl
   | none => exact absurd (by simp : (p.1 == p.1) = true) (by have := List.find?_eq_none.1 e p hp; simp at this)
  ·rw [zfo c]
   by_cases e : q = m
   ·subst e
    have := lks_of (G := G ++ [(q, [])]) (by
     have := (h.zb6 q).nd
     unfold G16.zb6 at this
     rwa [if_neg hm] at this) (p := (q, [])) (by simp)
    exact this
   ·refine zfo fun k => ?_
    unfold keys at k
    rw [List.map_append, List.mem_append] at k
    rcases k with k | k
    ·exact c k
    ·exact e (by simpa using k)
theorem ze1 {G : Gr} (h : GrI G) {m m' : Mk} (hm : m ∈ keys G) (q q' : Mk) : q' ∈ lks (zce G m m') q ↔ q' ∈ lks G q ∨ q = m ∧ q' = m' := by
 by_cases c : q ∈ keys G
 ·obtain ⟨p, hp, rfl⟩ := List.mem_map.1 c
  have e1 := lks_of h.nd hp
  have hp' : (if p.1 = m then (p.1, if m' ∈ p.2 then p.2 else p.2 ++ [m']) else p) ∈ zce G m m' := List.mem_map.2 ⟨p, hp, rfl⟩
  have e2 := lks_of (h.zce m m').nd hp'
  by_cases d : p.1 = m
  ·rw [if_pos d] at e2
   rw [e2, e1]
   show q' ∈ (if m' ∈ p.2 then p.2 else p.2 ++ [m']) ↔ _
   split
   ·rename_i k
    constructor
    ·exact .inl
    ·rintro (z | ⟨_, rfl⟩)
     ·exact z
     ·exact k
   ·simp only [List.mem_append, List.mem_cons, List.not_mem_nil, or_false, d, true_and]
  ·rw [if_neg d] at e2
   rw [e2, e1]
   constructor
   ·exact .inl
   ·rintro (z | ⟨z, _⟩)
    ·exact z
    ·exact absurd z d
 ·rw [zfo c, zfo (by rw [zed]; exact c)]
  constructor
  ·exact fun k => nomatch k
  ·rintro (k | ⟨rfl, _⟩)
   ·exact nomatch k
   ·exact absurd hm c
theorem glinks {m : Mk} (f : Int → Mk) : ∀ (ls : List Int) (G : Gr), GrI G → m ∈ keys G → GrI (ls.foldl (fun G k => zce G m (f k)) G) ∧ keys (ls.foldl (fun G k => zce G m (f k)) G) = keys G ∧ ∀ q q', q' ∈ lks (ls.foldl (fun G k => zce G m (f k)) G) q ↔ q' ∈ lks G q ∨ q = m ∧ ∃ k ∈ ls, q' = f k
 | [], G, h, hm => ⟨h, rfl, fun q q' => by simp⟩
 | k :: t, G, h, hm => by
  obtain ⟨i1, i2, i3⟩ := glinks f t (zce G m (f k)) (h.zce _ _) (by rw [zed]; exact hm)
  refine ⟨i1, by rw [List.foldl_cons, i2, zed], fun q q' => ?_⟩
  rw [List.foldl_cons, i3, ze1 h hm]
  constructor
  ·rintro ((z | ⟨a, b⟩) | ⟨a, j, hj, b⟩)
   ·exact .inl z
   ·exact .inr ⟨a, k, by simp, b⟩
   ·exact .inr ⟨a, j, by simp [hj], b⟩
  ·rintro (z | ⟨a, j, hj, b⟩)
   ·exact .inl (.inl z)
   ·rcases List.mem_cons.1 hj with rfl | hj
    ·exact .inl (.inr ⟨a, b⟩)
    ·exact .inr ⟨a, j, hj, b⟩
theorem gadds (ms : List Mk) : ∀ (l : List Nd) (G : Gr), GrI G → GrI (l.foldl (zev ms) G) ∧ (∀ q, q ∈ keys (l.foldl (zev ms) G) ↔ q ∈ keys G ∨ q ∈ marks l) ∧ ∀ q q', q' ∈ lks (l.foldl (zev ms) G) q ↔ q' ∈ lks G q ∨ ∃ x ∈ l, mrk x = q ∧ ∃ k ∈ x.2.2, q' = ms.getD k.toNat (0, 0)
 | [], G, h => ⟨h, fun q => by simp [marks], fun q q' => by simp⟩
 | x :: t, G, h => by
  obtain ⟨j1, j2, j3⟩ := glinks (m := mrk x) (fun k => ms.getD k.toNat (0, 0)) x.2.2 (zb6 G (mrk x)) (h.zb6 _) ((zee _ _ _).2 (.inl rfl))
  obtain ⟨i1, i2, i3⟩ := gadds ms t (zev ms G x) j1
  refine ⟨i1, fun q => ?_, fun q q' => ?_⟩
  ·rw [List.foldl_cons, i2]
   show q ∈ keys (zev ms G x) ∨ q ∈ marks t ↔ q ∈ keys G ∨ q ∈ mrk x :: marks t
   have e : q ∈ keys (zev ms G x) ↔ q = mrk x ∨ q ∈ keys G := by unfold zev; rw [j2, zee]
   rw [e, List.mem_cons]
   constructor
   ·rintro ((a | a) | a)
    ·exact .inr (.inl a)
    ·exact .inl a
    ·exact .inr (.inr a)
   ·rintro (a | a | a)
    ·exact .inl (.inr a)
    ·exact .inl (.inl a)
    ·exact .inr a
  ·rw [List.foldl_cons, i3]
   have e : q' ∈ lks (zev ms G x) q ↔ q' ∈ lks G q ∨ q = mrk x ∧ ∃ k ∈ x.2.2, q' = ms.getD k.toNat (0, 0) := by
    show q' ∈ lks (x.2.2.foldl (fun G k => zce G (mrk x) (ms.getD k.toNat (0, 0))) (zb6 G (mrk x))) q ↔ _
    rw [j3, zg1 h]
   rw [e]
   constructor
   ·rintro ((a | ⟨a, b⟩) | ⟨y, hy, b⟩)
    ·exact .inl a
    ·exact .inr ⟨x, by simp, a.symm, b⟩
    ·exact .inr ⟨y, by simp [hy], b⟩
   ·rintro (a | ⟨y, hy, b, c⟩)
    ·exact .inl (.inl a)
    ·rcases List.mem_cons.1 hy with rfl | hy
     ·exact .inl (.inr ⟨b.symm, c⟩)
     ·exact .inr ⟨y, hy, b, c⟩
theorem FitG.zgz {g : List Nd} (h : FitG g) (q q' : Mk) : (∃ x ∈ g, mrk x = q ∧ ∃ k ∈ x.2.2, q' = (marks g).getD k.toNat (0, 0)) ↔ Edge g q q' := by
 constructor
 ·rintro ⟨x, hx, e, k, hk, rfl⟩
  obtain ⟨k0, k1⟩ := (h.ok x hx).inn k hk
  have hl : k.toNat < (marks g).length := by rw [zcl]; omega
  refine ⟨x, hx, e, k, hk, k0, ?_⟩
  rw [List.getD_eq_getElem?_getD, List.getElem?_eq_getElem hl]
  rfl
 ·rintro ⟨x, hx, e, k, hk, k0, hm⟩
  exact ⟨x, hx, e, k, hk, by rw [List.getD_eq_getElem?_getD, hm]; rfl⟩
theorem zei {G : Gr} (h : GrI G) (g : List Nd) (q : Mk) : q ∈ keys (gadd G g) ↔ q ∈ keys G ∨ q ∈ marks g := (gadds (marks g) g G h).2.1 q
theorem GrI.gadd {G : Gr} (h : GrI G) (g : List Nd) : GrI (gadd G g) := (gadds (marks g) g G h).1
theorem zep {G : Gr} (h : GrI G) {g : List Nd} (hg : FitG g) (q q' : Mk) : q' ∈ lks (gadd G g) q ↔ q' ∈ lks G q ∨ Edge g q q' := by
 rw [← hg.zgz]
 exact (gadds (marks g) g G h).2.2 q q'
theorem GrI.nil : GrI [] := ⟨List.nodup_nil, fun _ h => nomatch h⟩
theorem zdv {α : Type} : ∀ (u v : List α), u.Nodup → (∀ x ∈ u, x ∈ v) → u.length ≤ v.length
 | [], _, _, _ => Nat.zero_le _
 | a :: t, v, h, hs => by
  classical
  obtain ⟨h1, h2⟩ := List.nodup_cons.1 h
  have ha : a ∈ v := hs a (by simp)
  have := zdv t (v.erase a) h2 (fun x hx => (List.mem_erase_of_ne (fun e : x = a => h1 (by rw [← e]; exact hx))).2 (hs x (by simp [hx])))
  rw [List.length_erase_of_mem ha] at this
  have hl : 0 < v.length := List.length_pos_of_mem ha
  simp only [List.length_cons]
  omega
theorem zer {g : List Nd} (h : FitG g) {m : Mk} (hm : m ∈ marks g) : 0 ≤ m.1 ∧ m.1 ≤ 65535 ∧ 0 ≤ m.2 ∧ m.2 ≤ 65535 := by
 obtain ⟨x, hx, rfl⟩ := List.mem_map.1 hm
 obtain ⟨s0, s1, a0, a1, _, _⟩ := h.ok x hx
 exact ⟨a0, a1, s0, s1⟩
theorem zel {g : List Nd} {m m' : Mk} (h : Edge g m m') : m ∈ marks g ∧ m' ∈ marks g := by
 obtain ⟨x, hx, rfl, k, _, _, hm⟩ := h
 exact ⟨List.mem_map.2 ⟨x, hx, rfl⟩, List.mem_of_getElem? hm⟩
theorem GrI.ok {G : Gr} (h : GrI G) (hl : (keys G).length ≤ 4096) (hr : ∀ m ∈ keys G, 0 ≤ m.1 ∧ m.1 ≤ 65535 ∧ 0 ≤ m.2 ∧ m.2 ≤ 65535) (hi : ∀ m m', m' ∈ lks G m → m' ∈ keys G ∧ m'.1 ≤ m.1) : GrOk (keys G) (lks G) :=
 ⟨h.nd, hl, hr, fun m hm => by
  obtain ⟨p, hp, rfl⟩ := List.mem_map.1 hm
  rw [lks_of h.nd hp]
  exact h.ln p hp, fun m _ m' hm' => hi m m' hm'⟩
def ofGr (G : Gr) : List Nd := ze0 (keys G) (lks G)
theorem zif {G : Gr} (m : Mk) : m ∈ marks (ofGr G) ↔ m ∈ keys G := by unfold ofGr; rw [zfq]; exact zbx
theorem ofGr_edge {G : Gr} (h : GrOk (keys G) (lks G)) (m m' : Mk) : Edge (ofGr G) m m' ↔ m' ∈ lks G m := by
 unfold ofGr
 rw [zhn h]
 constructor
 ·exact fun k => k.2
 ·intro k
  refine ⟨?_, k⟩
  by_cases c : m ∈ keys G
  ·exact c
  ·rw [zfo c] at k; exact nomatch k
def zd4 (g : List Nd) (b m : Mk) : List Nd := ofGr (zce (zb6 (gadd [] g) m) m b)
structure Says (r : List Nd) (M : Mk → Prop) (E : Mk → Mk → Prop) : Prop where
 fit : FitG r
 mem : ∀ m, m ∈ marks r ↔ M m
 ed : ∀ m m', Edge r m m' ↔ E m m'
theorem Says.one {r s : List Nd} {M N : Mk → Prop} {E F : Mk → Mk → Prop} (h : Says r M E) (k : Says s N F) (hm : ∀ m, M m ↔ N m) (he : ∀ m m', E m m' ↔ F m m') : r = s :=
 h.fit.ext k.fit (fun m => by rw [h.mem, k.mem, hm]) (fun m m' => by rw [h.ed, k.ed, he])
theorem push_ok {g : List Nd} (h : FitG g) {b m : Mk} (hb : b ∈ marks g) (hle : b.1 ≤ m.1) (r : 0 ≤ m.1 ∧ m.1 ≤ 65535 ∧ 0 ≤ m.2 ∧ m.2 ≤ 65535) (hl : m ∈ marks g ∨ g.length < 4096) :
  GrOk (keys (zce (zb6 (gadd [] g) m) m b)) (lks (zce (zb6 (gadd [] g) m) m b)) := by
 have i0 := GrI.nil.gadd g
 have i1 := i0.zb6 m
 have i2 := i1.zce m b
 have hk : ∀ q, q ∈ keys (zce (zb6 (gadd [] g) m) m b) ↔ q = m ∨ q ∈ marks g := fun q => by
  rw [zed, zee, zei GrI.nil]
  simp [keys]
 have he : ∀ q q', q' ∈ lks (zce (zb6 (gadd [] g) m) m b) q ↔ Edge g q q' ∨ q = m ∧ q' = b := fun q q' => by
  rw [ze1 i1 ((zee _ _ _).2 (.inl rfl)), zg1 i0, zep GrI.nil h]
  simp [lks]
 exact i2.ok (by
  rcases hl with hm | hl
  ·have := zdv _ (marks g) i2.nd (fun q hq => ((hk q).1 hq).elim (fun e => e ▸ hm) id)
   rw [zcl] at this
   have := h.len
   omega
  ·have := zdv _ (m :: marks g) i2.nd (fun q hq => List.mem_cons.2 ((hk q).1 hq))
   rw [List.length_cons, zcl] at this
   omega) (fun q hq => ((hk q).1 hq).elim (fun e => e ▸ r) (fun k => zer h k)) (fun q q' hq => by
  rcases (he q q').1 hq with k | ⟨rfl, rfl⟩
  ·exact ⟨(hk q').2 (.inr (zel k).2), h.back q q' k⟩
  ·exact ⟨(hk q').2 (.inr hb), hle⟩)
theorem zii {g : List Nd} (h : FitG g) {b m : Mk} (hb : b ∈ marks g) (hle : b.1 ≤ m.1) (r : 0 ≤ m.1 ∧ m.1 ≤ 65535 ∧ 0 ≤ m.2 ∧ m.2 ≤ 65535) (hl : m ∈ marks g ∨ g.length < 4096) :
  Says (zd4 g b m) (fun q => q = m ∨ q ∈ marks g) (fun q q' => Edge g q q' ∨ q = m ∧ q' = b) := by
 have i0 := GrI.nil.gadd g
 have i1 := i0.zb6 m
 have i2 := i1.zce m b
 have hk : ∀ q, q ∈ keys (zce (zb6 (gadd [] g) m) m b) ↔ q = m ∨ q ∈ marks g := fun q => by
  rw [zed, zee, zei GrI.nil]
  simp [keys]
 have he : ∀ q q', q' ∈ lks (zce (zb6 (gadd [] g) m) m b) q ↔ Edge g q q' ∨ q = m ∧ q' = b := fun q q' => by
  rw [ze1 i1 ((zee _ _ _).2 (.inl rfl)), zg1 i0, zep GrI.nil h]
  simp [lks]
 have ok := push_ok h hb hle r hl
 refine ⟨zic ok, fun q => ?_, fun q q' => ?_⟩
 ·show q ∈ marks (ofGr _) ↔ _
  rw [zif, hk]
 ·show Edge (ofGr _) q q' ↔ _
  rw [ofGr_edge ok, he]
def zdb (g : List Nd) (m : Mk) : List Nd := if m ∈ marks g then g else zcx g m
theorem zgm {g : List Nd} (h : FitG g) {m : Mk} (r : 0 ≤ m.1 ∧ m.1 ≤ 65535 ∧ 0 ≤ m.2 ∧ m.2 ≤ 65535) (hl : m ∈ marks g ∨ g.length < 4096) : Says (zdb g m) (fun q => q = m ∨ q ∈ marks g) (Edge g) := by
 unfold zdb
 split
 ·rename_i hm
  exact ⟨h, fun q => ⟨.inr, fun k => k.elim (fun e => e ▸ hm) id⟩, fun _ _ => Iff.rfl⟩
 ·rename_i hm
  exact ⟨h.fit_withV hm (hl.resolve_left hm) r, fun q => zg2, fun q q' => h.zge m q q'⟩
def pushR (g : List Nd) (b m : Mk) : List Nd := addE (zdb g m) m b
theorem pushR_says {g : List Nd} (h : FitG g) {b m : Mk} (hb : b ∈ marks g) (hle : b.1 ≤ m.1) (r : 0 ≤ m.1 ∧ m.1 ≤ 65535 ∧ 0 ≤ m.2 ∧ m.2 ≤ 65535) (hl : m ∈ marks g ∨ g.length < 4096) :
  Says (pushR g b m) (fun q => q = m ∨ q ∈ marks g) (fun q q' => Edge g q q' ∨ q = m ∧ q' = b) := by
 have n := zgm h r hl
 have h1 : m ∈ marks (zdb g m) := (n.mem m).2 (.inl rfl)
 have h2 : b ∈ marks (zdb g m) := (n.mem b).2 (.inr hb)
 refine ⟨n.fit.zgg h1 h2 hle, fun q => ?_, fun q q' => ?_⟩
 ·show q ∈ marks (addE _ _ _) ↔ _
  rw [zcn, n.mem]
 ·show Edge (addE _ _ _) q q' ↔ _
  rw [n.fit.zgy h1 h2, n.ed]
theorem push_same {g : List Nd} (h : FitG g) {b m : Mk} (hb : b ∈ marks g) (hle : b.1 ≤ m.1) (r : 0 ≤ m.1 ∧ m.1 ≤ 65535 ∧ 0 ≤ m.2 ∧ m.2 ≤ 65535) (hl : m ∈ marks g ∨ g.length < 4096) : zd4 g b m = pushR g b m :=
 (zii h hb hle r hl).one (pushR_says h hb hle r hl) (fun _ => Iff.rfl) (fun _ _ => Iff.rfl)
def zdo (a b : List Nd) : List Nd := ofGr (gadd (gadd [] a) b)
theorem merge_ok {a b : List Nd} (ha : FitG a) (hb : FitG b) (hl : a.length + b.length ≤ 4096) : GrOk (keys (gadd (gadd [] a) b)) (lks (gadd (gadd [] a) b)) := by
 have i0 := GrI.nil.gadd a
 have i1 := i0.gadd b
 have hk : ∀ q, q ∈ keys (gadd (gadd [] a) b) ↔ q ∈ marks a ∨ q ∈ marks b := fun q => by
  rw [zei i0, zei GrI.nil]
  simp [keys]
 have he : ∀ q q', q' ∈ lks (gadd (gadd [] a) b) q ↔ Edge a q q' ∨ Edge b q q' := fun q q' => by
  rw [zep i0 hb, zep GrI.nil ha]
  simp [lks]
 exact i1.ok (by
  have := zdv _ (marks a ++ marks b) i1.nd (fun q hq => List.mem_append.2 ((hk q).1 hq))
  rw [List.length_append, zcl, zcl] at this
  omega) (fun q hq => ((hk q).1 hq).elim (fun k => zer ha k) (fun k => zer hb k)) (fun q q' hq => by
  rcases (he q q').1 hq with k | k
  ·exact ⟨(hk q').2 (.inl (zel k).2), ha.back q q' k⟩
  ·exact ⟨(hk q').2 (.inr (zel k).2), hb.back q q' k⟩)
theorem zhq {a b : List Nd} (ha : FitG a) (hb : FitG b) (hl : a.length + b.length ≤ 4096) : Says (zdo a b) (fun q => q ∈ marks a ∨ q ∈ marks b) (fun q q' => Edge a q q' ∨ Edge b q q') := by
 have i0 := GrI.nil.gadd a
 have i1 := i0.gadd b
 have hk : ∀ q, q ∈ keys (gadd (gadd [] a) b) ↔ q ∈ marks a ∨ q ∈ marks b := fun q => by
  rw [zei i0, zei GrI.nil]
  simp [keys]
 have he : ∀ q q', q' ∈ lks (gadd (gadd [] a) b) q ↔ Edge a q q' ∨ Edge b q q' := fun q q' => by
  rw [zep i0 hb, zep GrI.nil ha]
  simp [lks]
 have ok := merge_ok ha hb hl
 refine ⟨zic ok, fun q => ?_, fun q q' => ?_⟩
 ·show q ∈ marks (ofGr _) ↔ _
  rw [zif, hk]
 ·show Edge (ofGr _) q q' ↔ _
  rw [ofGr_edge ok, he]
def zem (a b : List Nd) : List Nd := b.foldl (fun out x => zdb out (mrk x)) a
def linksR (ms : List Mk) (out : List Nd) (b : List Nd) : List Nd := b.foldl (fun out x => x.2.2.foldl (fun out k => addE out (mrk x) (ms.getD k.toNat (0, 0))) out) out
def mergeR (a b : List Nd) : List Nd := linksR (marks b) (zem a b) b
theorem zhr {b : List Nd} (hr : ∀ x ∈ b, 0 ≤ (mrk x).1 ∧ (mrk x).1 ≤ 65535 ∧ 0 ≤ (mrk x).2 ∧ (mrk x).2 ≤ 65535) : ∀ {a : List Nd}, FitG a → a.length + b.length ≤ 4096 → Says (zem a b) (fun q => q ∈ marks a ∨ q ∈ marks b) (Edge a) ∧ (zem a b).length ≤ a.length + b.length := by
 induction b with
 | nil => intro a ha _; exact ⟨⟨ha, fun q => by simp [zem, marks], fun _ _ => Iff.rfl⟩, by simp [zem]⟩
 | cons x t ih =>
  intro a ha hl
  simp only [List.length_cons] at hl
  have n := zgm ha (hr x (by simp)) (.inr (by omega))
  have nl : (zdb a (mrk x)).length ≤ a.length + 1 := by
   unfold zdb
   split
   ·omega
   ·rw [zfx]; omega
  obtain ⟨i, il⟩ := ih (fun y hy => hr y (by simp [hy])) n.fit (by omega)
  refine ⟨⟨i.fit, fun q => ?_, fun q q' => ?_⟩, by simp only [List.length_cons]; exact Nat.le_trans il (by omega)⟩
  ·refine (i.mem q).trans ?_
   show q ∈ marks (zdb a (mrk x)) ∨ q ∈ marks t ↔ q ∈ marks a ∨ q ∈ mrk x :: marks t
   rw [n.mem, List.mem_cons]
   constructor
   ·rintro ((k | k) | k)
    ·exact .inr (.inl k)
    ·exact .inl k
    ·exact .inr (.inr k)
   ·rintro (k | k | k)
    ·exact .inl (.inr k)
    ·exact .inl (.inl k)
    ·exact .inr k
  ·exact (i.ed q q').trans (n.ed q q')
theorem zho {m : Mk} (f : Int → Mk) : ∀ (ls : List Int) {out : List Nd}, FitG out → m ∈ marks out → (∀ k ∈ ls, f k ∈ marks out ∧ (f k).1 ≤ m.1) → Says (ls.foldl (fun out k => addE out m (f k)) out) (· ∈ marks out) (fun q q' => Edge out q q' ∨ q = m ∧ ∃ k ∈ ls, q' = f k)
 | [], out, h, _, _ => ⟨h, fun _ => Iff.rfl, fun q q' => by simp⟩
 | k :: t, out, h, hm, hk => by
  have hk1 := hk k (by simp)
  have h1 := h.zgg hm hk1.1 hk1.2
  have i := zho f t h1 (by rw [zcn]; exact hm) (fun j hj => by rw [zcn]; exact hk j (by simp [hj]))
  refine ⟨i.fit, fun q => (i.mem q).trans (by rw [zcn]), fun q q' => (i.ed q q').trans ?_⟩
  rw [h.zgy hm hk1.1]
  constructor
  ·rintro ((z | ⟨a, b⟩) | ⟨a, j, hj, b⟩)
   ·exact .inl z
   ·exact .inr ⟨a, k, by simp, b⟩
   ·exact .inr ⟨a, j, by simp [hj], b⟩
  ·rintro (z | ⟨a, j, hj, b⟩)
   ·exact .inl (.inl z)
   ·rcases List.mem_cons.1 hj with rfl | hj
    ·exact .inl (.inr ⟨a, b⟩)
    ·exact .inr ⟨a, j, hj, b⟩
theorem zhp {ms : List Mk} : ∀ (b : List Nd) {out : List Nd}, FitG out → (∀ x ∈ b, mrk x ∈ marks out ∧ ∀ k ∈ x.2.2, ms.getD k.toNat (0, 0) ∈ marks out ∧ (ms.getD k.toNat (0, 0)).1 ≤ (mrk x).1) → Says (linksR ms out b) (· ∈ marks out) (fun q q' => Edge out q q' ∨ ∃ x ∈ b, mrk x = q ∧ ∃ k ∈ x.2.2, q' = ms.getD k.toNat (0, 0))
 | [], out, h, _ => ⟨h, fun _ => Iff.rfl, fun q q' => by simp [linksR]⟩
 | x :: t, out, h, hx => by
  have hx1 := hx x (by simp)
  have n := zho (fun k => ms.getD k.toNat (0, 0)) x.2.2 h hx1.1 hx1.2
  have i := zhp t n.fit (fun y hy => by
   obtain ⟨y1, y2⟩ := hx y (by simp [hy])
   exact ⟨(n.mem _).2 y1, fun k hk => ⟨(n.mem _).2 (y2 k hk).1, (y2 k hk).2⟩⟩)
  refine ⟨i.fit, fun q => (i.mem q).trans (n.mem q), fun q q' => (i.ed q q').trans ?_⟩
  rw [n.ed]
  constructor
  ·rintro ((z | ⟨a, b⟩) | ⟨y, hy, b⟩)
   ·exact .inl z
   ·exact .inr ⟨x, by simp, a.symm, b⟩
   ·exact .inr ⟨y, by simp [hy], b⟩
  ·rintro (z | ⟨y, hy, b, c⟩)
   ·exact .inl (.inl z)
   ·rcases List.mem_cons.1 hy with rfl | hy
    ·exact .inl (.inr ⟨b.symm, c⟩)
    ·exact .inr ⟨y, hy, b, c⟩
theorem mergeR_says {a b : List Nd} (ha : FitG a) (hb : FitG b) (hl : a.length + b.length ≤ 4096) : Says (mergeR a b) (fun q => q ∈ marks a ∨ q ∈ marks b) (fun q q' => Edge a q q' ∨ Edge b q q') := by
 obtain ⟨n, _⟩ := zhr (fun x hx => zer hb (List.mem_map.2 ⟨x, hx, rfl⟩)) ha hl
 have i := zhp (ms := marks b) b n.fit (fun x hx => ⟨(n.mem _).2 (.inr (List.mem_map.2 ⟨x, hx, rfl⟩)), fun k hk => by
  have he := (hb.zgz (mrk x) _).1 ⟨x, hx, rfl, k, hk, rfl⟩
  exact ⟨(n.mem _).2 (.inr (zel he).2), hb.back _ _ he⟩⟩)
 refine ⟨i.fit, fun q => (i.mem q).trans (n.mem q), fun q q' => (i.ed q q').trans ?_⟩
 rw [n.ed, hb.zgz]
theorem merge_same {a b : List Nd} (ha : FitG a) (hb : FitG b) (hl : a.length + b.length ≤ 4096) : zdo a b = mergeR a b :=
 (zhq ha hb hl).one (mergeR_says ha hb hl) (fun _ => Iff.rfl) (fun _ _ => Iff.rfl)
end Go.Proofs.ZZ.G16
end
section
namespace Go.Proofs.ZZ.GK
open Go Go.RowKit Go.Maps Go.Proofs.ZW.PrintWords Go.Proofs.ZW.PrintLast Go.Proofs.ZZ.GMap Go.Proofs.ZZ.G16
abbrev TI : TypeId := 3
abbrev TM : TypeId := 64
def mkA (x : Mk) : Array Value := #[.int .i64 x.1, .int .i64 x.2]
def mkV (x : Mk) : Value := .agg (mkA x)
def mkOk (x : Mk) : Prop := (Lit.int .i64 x.1).wf = true ∧ (Lit.int .i64 x.2).wf = true
def mkL (x : Mk) : Lit := .string (keyBytes [.int .i64 x.1, .int .i64 x.2])
theorem laidOut : laidOutB Try.prog = true := by kernel_rfl
theorem rowM : (TM : TypeId) < Try.prog.types.size := of_decide_eq_true (by kernel_rfl)
theorem wideM : (match Try.prog.underlying TM with | some (.array _ _) | some (.struct _) => true | _ => false) = true := by rw [Try.underlying64]
theorem law : Keyed Try.prog TM := Keyed.of_law (deep_law_laid laidOut (m := 2) (by omega) rowM (by kernel_rfl) wideM)
theorem keyTypeM : Try.prog.keyType TM = true := by kernel_rfl
theorem cellsM : Try.prog.cellsOf TM = 2 := by kernel_rfl
theorem cellsI : Try.prog.cellsOf 3 = 1 := by kernel_rfl
theorem sizeM : ∃ m, Try.prog.types.size = m + 1 := ⟨Try.prog.types.size - 1, by have : 0 < Try.prog.types.size := of_decide_eq_true (by kernel_rfl); omega⟩
theorem keyLits_mk (x : Mk) (h : mkOk x) : Try.prog.keyLits (Try.prog.types.size + 1) TM (mkA x).toList = some [.int .i64 x.1, .int .i64 x.2] := by
 obtain ⟨m, hm⟩ := sizeM
 obtain ⟨h1, h2⟩ := h
 rw [hm]
 simp only [Program.keyLits, Try.underlying64, mkA]
 rw [if_pos ⟨by rw [cellsM]; rfl, by simp⟩]
 simp [Program.keyLits, Try.underlying3, cellsI, h1, h2]
theorem mkL_key {x : Mk} (h : mkOk x) : keyOf Try.prog TM (mkV x) = some (mkL x) := by
 unfold keyOf
 simp only [Try.underlying64]
 rw [if_pos (by simp [keyTypeM, mkV, mkA, Value.formed, Try.underlying64, cellsM])]
 show (Try.prog.keyLits (Try.prog.types.size + 1) TM (mkA x).toList).map _ = _
 rw [keyLits_mk x h]
 rfl
theorem keyN (m : Nat) {v : Value} {L : List Lit} (h : Try.prog.keyLits (m + 1) 3 [v] = some L) : ∃ n, (Lit.int .i64 n).wf = true ∧ v = .int .i64 n ∧ L = [.int .i64 n] := by
 simp only [Program.keyLits, Try.underlying3] at h
 split at h
 all_goals simp_all
 all_goals (obtain ⟨⟨h0, h1⟩, h2⟩ := h; subst h0; subst h2; exact ⟨_, h1, by simp, rfl⟩)
theorem mk_inv {v : Value} {l : Lit} (h : keyOf Try.prog TM v = some l) : ∃ x, mkOk x ∧ v = mkV x ∧ l = mkL x := by
 obtain ⟨xs, L, rfl, hL, rfl⟩ := keyOf_top wideM h
 obtain ⟨m, hm⟩ := sizeM
 rw [hm] at hL
 unfold Program.keyLits at hL
 simp only [Try.underlying64] at hL
 split at hL
 case isFalse => cases hL
 rename_i hc
 rw [cellsM] at hc
 obtain ⟨a, b, e⟩ : ∃ a b, xs.toList = [a, b] := by
  match hx : xs.toList, hc.1 with
  | [a, b], _ => exact ⟨a, b, rfl⟩
 have hx : xs = #[a, b] := Array.toList_inj.1 e
 subst hx
 simp only [List.mapM_cons, List.mapM_nil, cellsI, List.drop, List.take, Option.map_eq_some_iff, Option.bind_eq_bind, Option.bind_eq_some_iff, Option.pure_def, Option.some.injEq] at hL
 obtain ⟨LL, ⟨L1, g1, L2, ⟨L3, g3, L4, g4, rfl⟩, rfl⟩, rfl⟩ := hL
 obtain ⟨n1, w1, rfl, rfl⟩ := keyN m g1
 obtain ⟨n2, w2, rfl, rfl⟩ := keyN m g3
 subst g4
 exact ⟨(n1, n2), ⟨w1, w2⟩, rfl, rfl⟩
theorem mkV_inj {x y : Mk} (h : mkV x = mkV y) : x = y := by
 simp only [mkV, mkA, Value.agg.injEq, Array.mk.injEq, List.cons.injEq, Value.int.injEq, true_and, and_true] at h
 exact Prod.ext h.1 h.2
theorem mkL_inj {x y : Mk} (hx : mkOk x) (hy : mkOk y) (h : mkL x = mkL y) : x = y := mkV_inj (law.inj (mkL_key hx) (by rw [h]; exact mkL_key hy))
def keyM : KeyAs Try.prog TM Mk := ⟨mkV, mkL, mkOk, law, mkL_key, mk_inv, mkL_inj⟩
def keyI : KeyAs Try.prog TI Int where
 enc := .int .i64
 lit := .int .i64
 ok x := (Lit.int .i64 x).wf = true
 keyed := int_keyed Try.underlying3
 key h := Maps.keyOf_int_mk Try.underlying3 h
 inv h := by
  obtain ⟨x, ex, rfl, hwf⟩ := Maps.keyOf_int_inv Try.underlying3 h
  exact ⟨x, hwf, ex, rfl⟩
 inj _ _ h := by injection h
section
variable {P : Program} {k : TypeId} {α : Type} [DecidableEq α] (K : KeyAs P k α)
def Ranges (b r : Nat) (M : List (α × Value)) (done : List α) (cnt : Nat) (W : World) : Prop :=
 (M.map (·.1)).Nodup ∧ (∀ p ∈ M, K.ok p.1) ∧ done.Nodup ∧ (∀ x ∈ done, x ∈ M.map (·.1)) ∧ done.length + cnt ≤ M.length ∧
  ∃ (D : DataW Value) (left : Lit → Bool), W.ranges P k rawR b r M.length D left cnt ∧ size D = M.length ∧ (∀ x, K.ok x → has D (K.lit x) = (GMap.look M x).isSome ∧ ∀ z, D.atKey (K.lit x) z = (GMap.look M x).elim z DataW.held) ∧
   (∀ x, K.ok x → x ∈ M.map (·.1) → (left (K.lit x) = false ↔ x ∈ done)) ∧ ∀ x, K.ok x → left (K.lit x) = true → x ∈ M.map (·.1)
variable {K} {b r cnt : Nat} {M : List (α × Value)} {done : List α} {W : World}
theorem Ranges.left (h : Ranges K b r M done cnt W) : W.rangeLeft b r = cnt := by
 obtain ⟨_, _, _, _, _, D, left, h, _⟩ := h
 exact h.left_eq
theorem Ranges.map (h : Ranges K b r M done cnt W) : MapAt K b M W := by
 obtain ⟨h1, h2, _, _, _, D, left, h, h4, h5, _⟩ := h
 exact ⟨h1, h2, D, h.owns, h4, h5⟩
theorem Ranges.keep {W' : World} (h : Ranges K b r M done cnt W) (hb : W'.heap[b]? = W.heap[b]?) (hr : W'.heap[r]? = W.heap[r]?) : Ranges K b r M done cnt W' := by
 obtain ⟨h1, h2, h3, h4, h4', D, left, ⟨es, clock, since, seen, c0, hb', F, hs, hD, hr', rest⟩, h5⟩ := h
 exact ⟨h1, h2, h3, h4, h4', D, left, ⟨es, clock, since, seen, c0, hb.trans hb', F, hs, hD, hr.trans hr', rest⟩, h5⟩
theorem Ranges.lt (h : Ranges K b r M done cnt W) : r < W.heap.size := by
 obtain ⟨_, _, _, _, _, D, left, h, _⟩ := h
 exact h.lt
theorem Ranges.blt (h : Ranges K b r M done cnt W) : b < W.heap.size := h.map.lt
theorem Ranges.iter (h : Ranges K b r M done cnt W) : ∃ m s e c, W.heap[r]? = some (.mapIter m s e c) := by
 obtain ⟨_, _, _, _, _, D, left, ⟨es, clock, since, seen, c0, hb', F, hs, hD, hr', rest⟩, h5⟩ := h
 exact ⟨_, _, _, _, hr'⟩
theorem elim_held {o : Option Value} {v : Value} (h : ∀ z, o.elim z DataW.held = DataW.held v) : o = some v := by
 cases o with
 | none =>
  have h1 := h (.held (.bool true))
  have h2 := h (.held (.bool false))
  simp only [Option.elim_none] at h1 h2
  rw [← h1] at h2
  cases h2
 | some u =>
  have := h (.held u)
  simp only [Option.elim_some] at this
  injection this with e
  rw [e]
section
variable {ops : Array Oper} {rest : List Oper} {o : Oper} {a : Act} {Q : Exit → Act → World → Prop}
theorem zgq (w : World) (hg : o.guard = none) (m : Operand) (t : TypeId) (hop : o.op = Op.range t m) (e : TypeId) (ht : P.underlying t = some (.map k e)) (hm : a.eval m = .map (some b)) (h : MapAt K b M w)
  (hK : ∀ w', Ranges K b w.heap.size M [] M.length w' → w.grownBy w' none → w'.heap.size = w.heap.size + 1 → wpList P ops Q rest (a.put o.dst (.pointer (some ⟨w.heap.size, 0, none⟩))) w') :
  wpList P ops Q (o :: rest) a w := by
 obtain ⟨h1, h2, D, hown, hs, hh⟩ := h
 refine wpList_range_own w hg m t hop k e K.keyed ht rawR b M.length D hm hown fun w' hr hg hsz => hK w' ⟨h1, h2, List.nodup_nil, (fun _ h => nomatch h), by simp, D, _, hs ▸ hr, hs, hh, fun x hx hm => ?_, fun x hx hl => ?_⟩ hg hsz
 ·rw [(hh x hx).1, zfp.2 hm]
  simp
 ·rw [(hh x hx).1] at hl
  exact zfp.1 hl
structure Kx (α : Type) where
 out : α
structure Done (M : List (α × Value)) (done : List α) : Prop where
 all : ∀ x, x ∈ M.map (·.1) ↔ x ∈ done
structure More (K : KeyAs P k α) (b r : Nat) (M : List (α × Value)) (done : List α) (cnt : Nat) (w : World) (x : α) (v : Value) (w' : World) (cnt' : Nat) : Prop where
 ok : K.ok x
 mem : x ∈ M.map (·.1)
 new : x ∉ done
 look : GMap.look M x = some v
 rg : Ranges K b r M (done ++ [x]) cnt' w'
 lt : cnt' < cnt
 gr : w.grownBy w' (some r)
 sz : w'.heap.size = w.heap.size
 en : (Instr.entry (.pointer (some ⟨r, 0, none⟩))).run P w' = .ok (.tuple #[K.enc x, v]) w'
theorem zhj (w : World) (hg : o.guard = none) (it : Operand) (hop : o.op = Op.next it false) (hit : a.eval it = .pointer (some ⟨r, 0, none⟩)) (h : Ranges K b r M done cnt w)
  (hDone : Done M done → wpList P ops Q rest (a.put o.dst (.tuple #[.bool false])) w)
  (hMore : ∀ (x : Kx α) (v : Value) (w' : World) (cnt' : Nat), More K b r M done cnt w x.out v w' cnt' → wpList P ops Q rest (a.put o.dst (.tuple #[.bool true, K.enc x.out, v])) w') :
  wpList P ops Q (o :: rest) a w := by
 obtain ⟨h1, h2, h3, h4, h4', D, left, hrg, hs, hh, hl1, hl2⟩ := h
 have okm : ∀ x, x ∈ M.map (·.1) → K.ok x := fun x hx => by obtain ⟨p, hp, rfl⟩ := List.mem_map.1 hx; exact h2 p hp
 refine wpList_next_ranges w hg it hop k K.keyed rawR (id : Value → Value) id (fun key kl hk => ⟨key, rfl⟩) (fun v _ _ => ⟨v, rfl⟩) b r M.length D left cnt hit hrg (fun hc hl => hDone ⟨fun x => ⟨fun hx => (hl1 x (okm x hx) hx).1 (hl _), h4 x⟩⟩) ?_
 intro key v kl y w' cnt' hkey hlk hv hat hrg' hlt hgr hsz hen
 obtain ⟨x, hx, rfl, rfl⟩ := K.inv hkey
 have hxm := hl2 x hx hlk
 have hxd : x ∉ done := fun hd => by rw [(hl1 x hx hxm).2 hd] at hlk; cases hlk
 have hlook : GMap.look M x = some v := elim_held fun z => by
  rw [← (hh x hx).2 z, hat z]
  simp only [rawR, Option.some.injEq] at hv
  rw [← hv]
  rfl
 have hself : (K.lit x).sameKey (K.lit x) = true := WideAt.sameKey_self (K.keyed.key (K.key hx))
 refine hMore ⟨x⟩ v w' cnt' ⟨hx, hxm, hxd, hlook, ⟨h1, h2, ?_, ?_, by rw [List.length_append, List.length_singleton]; omega, D, _, hrg', hs, hh, fun y hy hym => ?_, fun y hy hly => ?_⟩, hlt, hgr, hsz, hen⟩
 ·exact List.nodup_append.2 ⟨h3, by simp, fun a ha b hb => by simp at hb; subst hb; exact fun e => hxd (e ▸ ha)⟩
 ·intro y hy
  rcases List.mem_append.1 hy with hy | hy
  ·exact h4 y hy
  ·rw [List.mem_singleton.1 hy]; exact hxm
 ·by_cases e : y = x
  ·subst e; simp [hself]
  ·have hne : (K.lit y).sameKey (K.lit x) = false := by
    cases e' : (K.lit y).sameKey (K.lit x) with
    | false => rfl
    | true => exact absurd (K.inj hy hx (WideAt.sameKey_eq e')) e
   simp [hne, hl1 y hy hym, e]
 ·simp only [Bool.and_eq_true] at hly
  exact hl2 y hy hly.1
end
end
def Qz (Q : Exit → Act → World → Prop) : Exit → Act → World → Prop
 | .normal, a, w => Q .normal a w
 | _, _, _ => False
theorem wp_qz {P : Program} {c : Code} {Q : Exit → Act → World → Prop} {a : Act} {w : World} (h : c.wp P (Qz Q) a w) : c.wp P Q a w := wp_mono h (fun e a w hq => by cases e <;> first | exact hq | exact hq.elim)
end Go.Proofs.ZZ.GK
end
section
namespace Go.Proofs.ZZ.GGr
open Go Go.RowKit Go.Maps Go.Proofs.ZW.PrintWords Go.Proofs.ZW.PrintLast Go.Proofs.ZZ.GMap Go.Proofs.ZZ.GK Go.Proofs.ZZ.G16
abbrev TN : TypeId := 38
def kN : Kd Nd := Kd.pair (Kd.int .i64) (Kd.pair (Kd.int .i64) (Kd.slice TI (Kd.int .i64)))
theorem kN_open {w : World} {x : Nd} {cs : List Value} (h : kN.K w x cs) : ∃ A c, cs = [.int .i64 x.1, .int .i64 x.2.1, .slice A x.2.2.length c] ∧ x.2.2.length ≤ c ∧ Kd.C (Kd.int .i64) w A x.2.2.length x.2.2 := by
 obtain ⟨_, _, rfl, rfl, ⟨_, _, rfl, rfl, ⟨A, c, rfl, l, g⟩⟩⟩ := h
 exact ⟨A, c, rfl, l, g⟩
theorem kN_mk {w : World} {x : Nd} {A : Option Addr} {c : Nat} (l : x.2.2.length ≤ c) (g : Kd.C (Kd.int .i64) w A x.2.2.length x.2.2) : kN.K w x [.int .i64 x.1, .int .i64 x.2.1, .slice A x.2.2.length c] :=
 ⟨[.int .i64 x.1], [.int .i64 x.2.1, .slice A x.2.2.length c], rfl, rfl, ⟨[.int .i64 x.2.1], [.slice A x.2.2.length c], rfl, rfl, ⟨A, c, rfl, l, g⟩⟩⟩
theorem zd2 {w : World} {A : Option Addr} {n : Nat} {xs : List Nd} (h : Kd.C kN w A n xs) {i : Nat} {x : Nd} (hi : xs[i]? = some x) :
  ∃ ad A2 c2, A = some ad ∧ w.cell? (ad.add (i * 3)) = some (.int .i64 x.1) ∧ w.cell? ⟨(ad.add (i * 3)).block, (ad.add (i * 3)).off + 1, none⟩ = some (.int .i64 x.2.1) ∧ w.cell? ⟨(ad.add (i * 3)).block, (ad.add (i * 3)).off + 2, none⟩ = some (.slice A2 x.2.2.length c2) ∧ x.2.2.length ≤ c2 ∧ Kd.C (Kd.int .i64) w A2 x.2.2.length x.2.2 := by
 have hl := (List.getElem?_eq_some_iff.1 hi).1
 have hn := h.1
 obtain ⟨ad, c, e, _, hK, hc0⟩ := Kd.C_get h (0, 0, []) (i : Int) (by omega) (by omega)
 rw [Int.toNat_natCast] at hK hc0
 have hx : xs.getD i (0, 0, []) = x := by rw [List.getD_eq_getElem?_getD, hi]; rfl
 rw [hx] at hK
 have hc : ∀ j u, c[j]? = some u → w.cell? (ad.add (i * 3 + j)) = some u := hc0
 obtain ⟨A2, c2, rfl, l2, g2⟩ := kN_open hK
 exact ⟨ad, A2, c2, e, hc 0 _ rfl, by rw [← zb0 _ _ 1 (by omega)]; exact hc 1 _ rfl, by rw [← zb0 _ _ 2 (by omega)]; exact hc 2 _ rfl, l2, g2⟩
abbrev Gx := List (Mk × Nat × List Mk)
def rowT (L : Gx) : List (Mk × Value) := L.map fun t => (t.1, .map (some t.2.1))
def rowB (ls : List Mk) : List (Mk × Value) := ls.map fun m => (m, .bool true)
def toG (L : Gx) : Gr := L.map fun t => (t.1, t.2.2)
structure zbf (gb base B : Nat) (L : Gx) (W : World) : Prop where
 top : MapAt keyM gb (rowT L) W
 own : ∀ t ∈ L, base ≤ t.2.1 ∧ MapAt keyM t.2.1 (rowB t.2.2) W
 nd : (gb :: L.map (·.2.1)).Nodup
 few : L.length ≤ B ∧ ∀ t ∈ L, t.2.2.length ≤ B
 gbase : base ≤ gb
def zbe (W W' : World) : Prop := ∀ (k : Nat) (es : Array MapEntry) (c : Nat), W.heap[k]? = some (.map es c) → W'.heap[k]? = some (.map es c)
theorem zbe.trans {A B C : World} (h : zbe A B) (k : zbe B C) : zbe A C := fun _ _ _ hk => k _ _ _ (h _ _ _ hk)
theorem zbe.alloc (W : World) (o : Obj) : zbe W (W.alloc o) := fun _ _ _ hk => zad hk o
theorem zbe.drew (W : World) : zbe W W.drew := fun _ _ _ hk => hk
theorem zbe.grown {W W' : World} {row : Option Nat} (hg : W.grownBy W' row) (hr : ∀ k, row = some k → ∀ es c, W.heap[k]? ≠ some (.map es c)) : zbe W W' := fun k es c hk => (hg.block k (zbj hk) (fun e => hr k e.symm es c hk)).trans hk
theorem zbe.cell {W : World} {g : Nat} {cs : Array Value} {t : TypeId} {fr : Nat × Nat} (hb : W.heap[g]? = some (.cells cs t fr)) (j : Nat) (p : Option Nat) (u : Value) : zbe W (W.setCell ⟨g, j, none⟩ u) := fun k es c hk => (Below.heap_setCell W ⟨g, j, none⟩ u k (fun e => by rw [show k = g from e, hb] at hk; cases hk)).trans hk
theorem MapAt.kept {k : TypeId} {α : Type} [DecidableEq α] {P : Program} {K : KeyAs P k α} {b : Nat} {M : List (α × Value)} {W W' : World} (h : MapAt K b M W) (hm : zbe W W') : MapAt K b M W' := by
 obtain ⟨es, c, hb⟩ := h.block
 exact h.keep ((hm b es c hb).trans hb.symm)
theorem zbf.kept {gb base B : Nat} {L : Gx} {W W' : World} (h : zbf gb base B L W) (hm : zbe W W') : zbf gb base B L W' :=
 ⟨MapAt.kept h.top hm, fun t ht => ⟨(h.own t ht).1, MapAt.kept (h.own t ht).2 hm⟩, h.nd, h.few, h.gbase⟩
theorem zbf.more {gb base B B' : Nat} {L : Gx} {W : World} (h : zbf gb base B L W) (hB : B ≤ B') : zbf gb base B' L W :=
 ⟨h.top, h.own, h.nd, ⟨Nat.le_trans h.few.1 hB, fun t ht => Nat.le_trans (h.few.2 t ht) hB⟩, h.gbase⟩
theorem zg9 (L : Gx) : (rowT L).map (·.1) = keys (toG L) := by unfold rowT keys toG; rw [List.map_map, List.map_map]; rfl
theorem zbf.keysNd {gb base B : Nat} {L : Gx} {W : World} (h : zbf gb base B L W) : (keys (toG L)).Nodup := by rw [← zg9]; exact h.top.1
theorem look_rowT : ∀ {L : Gx} (x : Mk), (keys (toG L)).Nodup → ∀ {t : Mk × Nat × List Mk}, t ∈ L → t.1 = x → GMap.look (rowT L) x = some (.map (some t.2.1))
 | [], _, _, _, h, _ => nomatch h
 | a :: L, x, hn, t, h, e => by
  obtain ⟨h1, h2⟩ := List.nodup_cons.1 (show (a.1 :: keys (toG L)).Nodup from hn)
  simp only [rowT, List.map_cons, GMap.look]
  rcases List.mem_cons.1 h with rfl | h
  ·rw [if_pos e]
  ·rw [if_neg (fun e2 => h1 (by rw [e2, ← e]; exact List.mem_map.2 ⟨(t.1, t.2.2), List.mem_map.2 ⟨t, h, rfl⟩, rfl⟩))]
   exact look_rowT x h2 h e
theorem look_none {L : Gx} {x : Mk} (h : x ∉ keys (toG L)) : GMap.look (rowT L) x = none := by
 cases e : GMap.look (rowT L) x with
 | none => rfl
 | some v => exact absurd (by rw [← zg9]; exact zfp.1 (by rw [e]; rfl)) h
theorem mem_keys {L : Gx} {x : Mk} (h : x ∈ keys (toG L)) : ∃ b ls, (x, b, ls) ∈ L := by
 obtain ⟨p, hp, rfl⟩ := List.mem_map.1 h
 obtain ⟨t, ht, rfl⟩ := List.mem_map.1 hp
 exact ⟨t.2.1, t.2.2, ht⟩
theorem keys_mem {L : Gx} {x : Mk} {b : Nat} {ls : List Mk} (h : (x, b, ls) ∈ L) : x ∈ keys (toG L) := List.mem_map.2 ⟨(x, ls), List.mem_map.2 ⟨_, h, rfl⟩, rfl⟩
theorem zf9 {L : Gx} (hn : (keys (toG L)).Nodup) {t t' : Mk × Nat × List Mk} (h : t ∈ L) (h' : t' ∈ L) (e : t.1 = t'.1) : t = t' := by
 induction L with
 | nil => cases h
 | cons a L ih =>
  obtain ⟨h1, h2⟩ := List.nodup_cons.1 (show (a.1 :: keys (toG L)).Nodup from hn)
  rcases List.mem_cons.1 h with e1 | h3
  ·subst e1
   rcases List.mem_cons.1 h' with e2 | h4
   ·exact e2.symm
   ·exact absurd (by rw [e]; exact keys_mem (b := t'.2.1) (ls := t'.2.2) h4) h1
  ·rcases List.mem_cons.1 h' with e2 | h4
   ·subst e2
    exact absurd (by rw [← e]; exact keys_mem (b := t.2.1) (ls := t.2.2) h3) h1
   ·exact ih h2 h3 h4
theorem blk_one {L : Gx} (hn : (L.map (·.2.1)).Nodup) {t t' : Mk × Nat × List Mk} (h : t ∈ L) (h' : t' ∈ L) (e : t.2.1 = t'.2.1) : t = t' := by
 induction L with
 | nil => cases h
 | cons a L ih =>
  obtain ⟨h1, h2⟩ := List.nodup_cons.1 (show (a.2.1 :: L.map (·.2.1)).Nodup from hn)
  rcases List.mem_cons.1 h with e1 | h3
  ·subst e1
   rcases List.mem_cons.1 h' with e2 | h4
   ·exact e2.symm
   ·exact absurd (List.mem_map.2 ⟨t', h4, e.symm⟩) h1
  ·rcases List.mem_cons.1 h' with e2 | h4
   ·subst e2
    exact absurd (List.mem_map.2 ⟨t, h3, e⟩) h1
   ·exact ih h2 h3 h4
theorem put_rowB (y : Mk) : ∀ ls : List Mk, putM (rowB ls) y (.bool true) = rowB (if y ∈ ls then ls else ls ++ [y])
 | [] => by simp [rowB, putM]
 | a :: t => by
  have ih := put_rowB y t
  unfold rowB at ih ⊢
  simp only [List.map_cons, putM, List.mem_cons]
  by_cases e : a = y
  ·subst e
   simp
  ·rw [if_neg e, ih]
   have e' : ¬ y = a := fun h => e h.symm
   by_cases h : y ∈ t
   ·simp [h]
   ·simp [h, e']
theorem put_rowT {L : Gx} {x : Mk} (h : x ∉ keys (toG L)) (b : Nat) : putM (rowT L) x (.map (some b)) = rowT (L ++ [(x, b, [])]) := by
 induction L with
 | nil => rfl
 | cons a L ih =>
  have h1 : ¬ a.1 = x := fun e => h (by rw [← e]; exact List.mem_cons_self)
  have h2 : x ∉ keys (toG L) := fun k => h (List.mem_cons_of_mem _ k)
  show (if a.1 = x then _ else _ :: putM (rowT L) x _) = _
  rw [if_neg h1, ih h2]
  rfl
theorem zbf.link {gb base B : Nat} {L : Gx} {W : World} (h : zbf gb base B L W) {x : Mk} {b : Nat} {ls : List Mk} (ht : (x, b, ls) ∈ L) {y : Mk} (hy : mkOk y) (hB : B < 1000000000000) :
  ∃ W', (Instr.mapUpdate 61 (.map (some b)) (.agg #[.int .i64 y.1, .int .i64 y.2]) (.bool true)).run Try.prog W = .ok () W' ∧ W.grownBy W' (some b) ∧ base ≤ b ∧ ∃ L' ls', zbf gb base (B + 1) L' W' ∧ (x, b, ls') ∈ L' ∧ toG L' = zce (toG L) x y := by
 obtain ⟨hb0, hm⟩ := h.own _ ht
 have hlen := h.few.2 _ ht
 obtain ⟨W', hrun, hm', hg⟩ := hm.put Try.underlying61 (by unfold rowB; rw [List.length_map]; unfold maxLen; omega) hy (.bool true)
 rw [put_rowB] at hm'
 obtain ⟨n1, n2⟩ := List.nodup_cons.1 h.nd
 have hmem : ∀ t ∈ L, t.1 = x → t = (x, b, ls) := fun t h' e => zf9 h.keysNd h' ht e
 refine ⟨W', hrun, hg, hb0, L.map (fun t => if t.1 = x then (t.1, t.2.1, if y ∈ t.2.2 then t.2.2 else t.2.2 ++ [y]) else t), if y ∈ ls then ls else ls ++ [y], ⟨?_, ?_, ?_, ?_, h.gbase⟩, ?_, ?_⟩
 ·have e : rowT (L.map (fun t => if t.1 = x then (t.1, t.2.1, if y ∈ t.2.2 then t.2.2 else t.2.2 ++ [y]) else t)) = rowT L := by
   unfold rowT
   rw [List.map_map]
   refine List.map_congr_left fun t _ => ?_
   simp only [Function.comp]
   split <;> rfl
  rw [e]
  refine h.top.keep (hg.block gb h.top.lt (fun e => ?_))
  injection e with e
  exact n1 (List.mem_map.2 ⟨_, ht, e.symm⟩)
 ·intro t' ht'
  obtain ⟨t, hm2, rfl⟩ := List.mem_map.1 ht'
  by_cases e : t.1 = x
  ·have := hmem t hm2 e
   subst this
   simp only [if_true]
   exact ⟨hb0, hm'⟩
  ·rw [if_neg e]
   obtain ⟨q1, q2⟩ := h.own t hm2
   refine ⟨q1, q2.keep (hg.block _ q2.lt (fun e2 => e ?_))⟩
   injection e2 with e2
   have := blk_one n2 hm2 ht e2
   rw [this]
 ·have e : (L.map (fun t => if t.1 = x then (t.1, t.2.1, if y ∈ t.2.2 then t.2.2 else t.2.2 ++ [y]) else t)).map (·.2.1) = L.map (·.2.1) := by
   rw [List.map_map]
   refine List.map_congr_left fun t _ => ?_
   simp only [Function.comp]
   split <;> rfl
  rw [e]
  exact h.nd
 ·refine ⟨by rw [List.length_map]; exact Nat.le_succ_of_le h.few.1, fun t' ht' => ?_⟩
  obtain ⟨t, hm2, rfl⟩ := List.mem_map.1 ht'
  have := h.few.2 t hm2
  by_cases e : t.1 = x
  ·rw [if_pos e]
   show (if y ∈ t.2.2 then t.2.2 else t.2.2 ++ [y]).length ≤ B + 1
   split
   ·omega
   ·rw [List.length_append, List.length_singleton]; omega
  ·rw [if_neg e]; omega
 ·refine List.mem_map.2 ⟨_, ht, ?_⟩
  simp
 ·unfold toG zce
  rw [List.map_map, List.map_map]
  refine List.map_congr_left fun t _ => ?_
  simp only [Function.comp]
  split <;> rfl
theorem zbf.fresh {gb base B : Nat} {L : Gx} {W : World} (h : zbf gb base B L W) {x : Mk} (hx : mkOk x) (hn : x ∉ keys (toG L)) (hB : B < 1000000000000) (hbase : base ≤ W.heap.size) :
  ∃ W', (Instr.mapUpdate 59 (.map (some gb)) (.agg #[.int .i64 x.1, .int .i64 x.2]) (.map (some W.heap.size))).run Try.prog (W.alloc (.map #[] 0)) = .ok () W' ∧ (W.alloc (.map #[] 0)).grownBy W' (some gb) ∧ W.grownBy W' (some gb) ∧ zbf gb base (B + 1) (L ++ [(x, W.heap.size, [])]) W' := by
 have h' := h.kept (zbe.alloc W (.map #[] 0))
 obtain ⟨W', hrun, hm', hg⟩ := h'.top.put Try.underlying59 (by unfold rowT; rw [List.length_map]; have := h.few.1; unfold maxLen; omega) hx (.map (some W.heap.size))
 rw [put_rowT hn] at hm'
 have hnew : MapAt keyM W.heap.size [] W' := (MapAt.new (K := keyM) W).keep (hg.block _ (by simp) (fun e => by injection e with e; have := h.top.lt; omega))
 obtain ⟨n1, n2⟩ := List.nodup_cons.1 h.nd
 have hlt : ∀ t ∈ L, t.2.1 < W.heap.size := fun t ht => (h.own t ht).2.lt
 refine ⟨W', hrun, hg, World.grownBy.trans (World.grownBy_alloc W _ _) hg, hm', ?_, ?_, ?_, h.gbase⟩
 ·intro t ht
  rcases List.mem_append.1 ht with ht | ht
  ·obtain ⟨q1, q2⟩ := h'.own t ht
   refine ⟨q1, q2.keep (hg.block _ q2.lt (fun e => n1 ?_))⟩
   injection e with e
   exact List.mem_map.2 ⟨t, ht, e⟩
  ·obtain rfl := List.mem_singleton.1 ht
   exact ⟨hbase, hnew⟩
 ·rw [List.map_append, ← List.cons_append]
  refine List.nodup_append.2 ⟨h.nd, by simp, fun a ha c hc => ?_⟩
  obtain rfl : c = W.heap.size := by simpa using hc
  rcases List.mem_cons.1 ha with rfl | ha
  ·have := h.top.lt; omega
  ·obtain ⟨t, ht, rfl⟩ := List.mem_map.1 ha
   have := hlt t ht; omega
 ·refine ⟨by rw [List.length_append, List.length_singleton]; have := h.few.1; omega, fun t ht => ?_⟩
  rcases List.mem_append.1 ht with ht | ht
  ·have := h.few.2 t ht; omega
  ·obtain rfl := List.mem_singleton.1 ht
   exact Nat.zero_le _
theorem toG_fresh {L : Gx} {x : Mk} (hn : x ∉ keys (toG L)) (b : Nat) : toG (L ++ [(x, b, [])]) = zb6 (toG L) x := by
 unfold zb6
 rw [if_neg hn]
 unfold toG
 rw [List.map_append]
 rfl
theorem zbf.lookT {gb base B : Nat} {L : Gx} {W : World} (h : zbf gb base B L W) {x : Mk} {b : Nat} {ls : List Mk} (ht : (x, b, ls) ∈ L) (hx : mkOk x) :
  (Instr.lookup 59 (.map (some gb)) (.agg #[.int .i64 x.1, .int .i64 x.2]) false).run Try.prog W = .ok (.map (some b)) W := by
 have hl := h.top.look (z := .map none) Try.underlying59 rfl hx
 rw [look_rowT x h.keysNd ht rfl] at hl
 exact hl
theorem zbf.lookF {gb base B : Nat} {L : Gx} {W : World} (h : zbf gb base B L W) {x : Mk} (hn : x ∉ keys (toG L)) (hx : mkOk x) :
  (Instr.lookup 59 (.map (some gb)) (.agg #[.int .i64 x.1, .int .i64 x.2]) false).run Try.prog W = .ok (.map none) W := by
 have hl := h.top.look (z := .map none) Try.underlying59 rfl hx
 rw [look_none hn] at hl
 exact hl
theorem eqlSome (bm : Nat) (w : World) : (binOp .eql 61 (.map (some bm)) (.map none)).run Try.prog w = .ok (.bool false) w := by kernel_rfl
theorem eqlNil (w : World) : (binOp .eql 61 (.map none) (.map none)).run Try.prog w = .ok (.bool true) w := by kernel_rfl
theorem zgn {gb base B : Nat} {L : Gx} {w : World} (h : zbf gb base B L w) (x : Mk) (hx : mkOk x) (hbase : base ≤ w.heap.size) (hB : B < 1000000000000) :
  Calls Try.prog 40 #[.map (some gb), .agg #[.int .i64 x.1, .int .i64 x.2]] w fun e w' => ∃ L' b ls, e = .returned (.map (some b)) ∧ zbf gb base (B + 1) L' w' ∧ (x, b, ls) ∈ L' ∧ toG L' = zb6 (toG L) x ∧ w.grownBy w' (some gb) := by
 obtain ⟨W1, hW1⟩ : ∃ X, w.alloc (.cells #[.int .i64 x.1, .int .i64 x.2] TM) = X := ⟨_, rfl⟩
 have g1 : w.grownBy W1 none := by rw [← hW1]; exact World.grownBy_alloc w _ none
 have h1 : zbf gb base B L W1 := by rw [← hW1]; exact h.kept (zbe.alloc _ _)
 have bx : W1.heap[w.heap.size]? = some (.cells #[.int .i64 x.1, .int .i64 x.2] TM (0, 0)) := by rw [← hW1]; exact zbp _ _
 have c0 : W1.cell? ⟨w.heap.size, 0, none⟩ = some (.int .i64 x.1) := zaf bx 0
 have c1 : W1.cell? ⟨w.heap.size, 1, none⟩ = some (.int .i64 x.2) := zaf bx 1
 have hs1 : base ≤ W1.heap.size := Nat.le_trans hbase g1.size
 by_cases hk : x ∈ keys (toG L)
 ·obtain ⟨b, ls, ht⟩ := mem_keys hk
  have hl := h1.lookT ht hx
  have hfin : ∃ L' b' ls', b = b' ∧ zbf gb base (B + 1) L' W1 ∧ (x, b', ls') ∈ L' ∧ toG L' = zb6 (toG L) x ∧ w.grownBy W1 (some gb) := ⟨L, b, ls, rfl, h1.more (Nat.le_succ _), ht, by unfold zb6; rw [if_pos hk], g1.but _⟩
  have q1 := eqlSome b W1
  have HF := Lib.hid hfin
  clear hfin h h1 hk ht bx g1 hs1
  go_enter Try.func40, Try.ntmps40
  go_wp2;go_ret
  obtain ⟨L', b', ls', e, h2⟩ := HF.out
  exact ⟨L', b', ls', by rw [e]; rfl, h2⟩
 ·have hl := h1.lookF hk hx
  obtain ⟨W3, hrun, hgA, hg, h3⟩ := h1.fresh hx hk hB hs1
  have hmm := @run_makeMap Try.prog
  have hl3 := h3.lookT (x := x) (b := W1.heap.size) (ls := []) (by simp) hx
  have c30 : W3.cell? ⟨w.heap.size, 0, none⟩ = some (.int .i64 x.1) := zaf (zbm bx hg (fun e => by injection e with e; have := h.top.lt; omega)) 0
  have c31 : W3.cell? ⟨w.heap.size, 1, none⟩ = some (.int .i64 x.2) := zaf (zbm bx hg (fun e => by injection e with e; have := h.top.lt; omega)) 1
  have hfin : ∃ L' b' ls', W1.heap.size = b' ∧ zbf gb base (B + 1) L' W3 ∧ (x, b', ls') ∈ L' ∧ toG L' = zb6 (toG L) x ∧ w.grownBy W3 (some gb) := ⟨_, W1.heap.size, [], rfl, h3, by simp, toG_fresh hk _, World.grownBy.trans (g1.but _) hg⟩
  have q1 := eqlNil W1
  have HF := Lib.hid hfin
  clear hfin h h1 hk bx g1 hs1 h3 hg hgA
  go_enter Try.func40, Try.ntmps40
  go_wp2;go_ret
  obtain ⟨L', b', ls', e, h2⟩ := HF.out
  exact ⟨L', b', ls', by rw [e]; rfl, h2⟩
end Go.Proofs.ZZ.GGr
end
section
namespace Go.Proofs.ZZ.GAdd
open Go Go.RowKit Go.Maps Go.Proofs.ZW.PrintWords Go.Proofs.ZW.PrintLast Go.Proofs.ZZ.GMap Go.Proofs.ZZ.GK Go.Proofs.ZZ.G16 Go.Proofs.ZZ.GGr
def zaz (W W' : World) : Prop := ∀ (k : Nat) (cs : Array Value) (t : TypeId) (fr : Nat × Nat), W.heap[k]? = some (.cells cs t fr) → W'.heap[k]? = some (.cells cs t fr)
theorem zaz.refl (W : World) : zaz W W := fun _ _ _ _ h => h
theorem zaz.trans {A B C : World} (h : zaz A B) (k : zaz B C) : zaz A C := fun _ _ _ _ hk => k _ _ _ _ (h _ _ _ _ hk)
theorem zaz.alloc (W : World) (o : Obj) : zaz W (W.alloc o) := fun _ _ _ _ hk => zad hk o
theorem zaz.drew (W : World) : zaz W W.drew := fun _ _ _ _ hk => hk
theorem zaz.grown {W W' : World} {row : Option Nat} (hg : W.grownBy W' row) (hr : ∀ k, row = some k → ∀ cs t fr, W.heap[k]? ≠ some (.cells cs t fr)) : zaz W W' := fun k cs t fr hk => (hg.block k (zbj hk) (fun e => hr k e.symm cs t fr hk)).trans hk
theorem zaz.map {W W' : World} {b : Nat} (hg : W.grownBy W' (some b)) (hb : ∃ es c, W.heap[b]? = some (.map es c)) : zaz W W' := zaz.grown hg (fun k e cs t fr hk => by
 obtain ⟨es, c, hb⟩ := hb
 injection e with e
 rw [← e, hb] at hk
 cases hk)
theorem zaz.cell {W W' : World} (h : zaz W W') {a : Addr} {v : Value} (hc : W.cell? a = some v) : W'.cell? a = some v := by
 unfold World.cell? at hc ⊢
 cases hb : W.heap[a.block]? with
 | none => rw [hb] at hc; simp at hc
 | some o =>
  cases o with
  | cells cs t fr => rw [hb] at hc; rw [h _ _ _ _ hb]; exact hc
  | _ => rw [hb] at hc; simp at hc
theorem rows_kept {α : Type} {R R' : α → List Value → Prop} {size : Nat} {W W' : World} {A : Option Addr} {n : Nat} {ps : List α} (h : zb2 R size W A n ps) (hk : zaz W W') (hR : ∀ p c, R p c → R' p c) : zb2 R' size W' A n ps :=
 ⟨h.1, h.2.1, fun hn => by
  obtain ⟨ad, e, hc⟩ := h.2.2 hn
  refine ⟨ad, e, fun j p hj => ?_⟩
  obtain ⟨c, hs, hr, hcell⟩ := hc j p hj
  exact ⟨c, hs, hR _ _ hr, fun i u hu => hk.cell (hcell i u hu)⟩⟩
theorem zh4 {W W' : World} {A : Option Addr} {n : Nat} {xs : List Int} (h : Kd.C (Kd.int .i64) W A n xs) (hk : zaz W W') : Kd.C (Kd.int .i64) W' A n xs := rows_kept h hk (fun _ _ h => h)
theorem zf8 {W W' : World} {A : Option Addr} {n : Nat} {xs : List Nd} (h : Kd.C kN W A n xs) (hk : zaz W W') : Kd.C kN W' A n xs := rows_kept h hk (fun p cs h => by
 obtain ⟨A, c, rfl, l, g⟩ := kN_open h
 exact kN_mk l (zh4 g hk))
def cntG : List Nd → Nat
 | [] => 0
 | x :: t => 1 + x.2.2.length + cntG t
theorem zhy (a b : List Nd) : cntG (a ++ b) = cntG a + cntG b := by
 induction a with
 | nil => simp [cntG]
 | cons x t ih => simp only [List.cons_append, cntG, ih]; omega
theorem cntG_take (xs : List Nd) (j : Nat) : cntG (xs.take j) ≤ cntG xs := by
 have := zhy (xs.take j) (xs.drop j)
 rw [List.take_append_drop] at this
 omega
theorem zc6 {α : Type} {xs : List α} {j : Nat} {x : α} (h : xs[j]? = some x) : xs.take (j + 1) = xs.take j ++ [x] := by rw [List.take_add_one, h]; rfl
theorem zda {n : Int} (h0 : 0 ≤ n) (h1 : n ≤ 9223372036854775807) : (Lit.int .i64 n).wf = true := by simp [Lit.wf, IntKind.min, IntKind.max, IntKind.bits, IntKind.signed]; omega
theorem fit_wf {xs : List Nd} (h : FitG xs) {x : Nd} (hx : x ∈ xs) : mkOk (mrk x) := by
 obtain ⟨s0, s1, a0, a1, _, _⟩ := h.ok x hx
 exact ⟨zda a0 (Int.le_trans a1 (by decide)), zda s0 (Int.le_trans s1 (by decide))⟩
theorem cells_map {W W' : World} {b : Nat} (hg : W.grownBy W' (some b)) {k : Nat} {cs : Array Value} {t : TypeId} {fr : Nat × Nat} (h : W.heap[k]? = some (.cells cs t fr)) (hb : ∃ es c, W.heap[b]? = some (.map es c)) : W'.heap[k]? = some (.cells cs t fr) := zaz.map hg hb _ _ _ _ h
theorem zft {gb base B : Nat} {L : Gx} {w : World} (h : zbf gb base B L w) (A : Option Addr) (c : Nat) (xs : List Nd) (hC : Kd.C kN w A xs.length xs) (hf : FitG xs) (hbase : base ≤ w.heap.size) (hB : B + cntG xs < 1000000000000) :
  Calls Try.prog 39 #[.map (some gb), .agg #[.slice A xs.length c]] w fun e w' => ∃ L', e = .returned (.tuple #[]) ∧ zbf gb base (B + cntG xs) L' w' ∧ toG L' = gadd (toG L) xs ∧ Below base w w' ∧ zaz w w' := by
 obtain ⟨W1, hW1⟩ : ∃ X, w.alloc (.cells #[.slice A xs.length c] 24) = X := ⟨_, rfl⟩
 have hb1 : Below base w W1 := by rw [← hW1]; exact (Below.refl _ _).alloc hbase _
 have hk1 : zaz w W1 := by rw [← hW1]; exact zaz.alloc _ _
 have h1 : zbf gb base B L W1 := by rw [← hW1]; exact h.kept (zbe.alloc _ _)
 have bg : W1.heap[w.heap.size]? = some (.cells #[.slice A xs.length c] 24 (0, 0)) := by rw [← hW1]; exact zbp _ _
 have cg : W1.cell? ⟨w.heap.size, 0, none⟩ = some (.slice A xs.length c) := zaf bg 0
 have hC1 := zf8 hC hk1
 have hlen := hf.len
 have HF := Lib.hid hf
 clear h hC hf
 go_enter Try.func39, Try.ntmps39
 go_wp2
 go_loopw [12] (fun i wr => ∃ j : Nat, i = .int .i64 (j : Int) ∧ j ≤ xs.length ∧ ∃ L', zbf gb base (B + cntG (xs.take j)) L' wr ∧ Hid (toG L' = (xs.take j).foldl (zev (marks xs)) (toG L)) ∧ Below base w wr ∧ zaz W1 wr) (fun i _ => xs.length - (Go.RowKit.intOf i).toNat)
 case atStart => exact ⟨0, rfl, Nat.zero_le _, L, by rw [List.take_zero]; exact h1, Lib.hid (by rw [List.take_zero]; rfl), hb1, zaz.refl _⟩
 case round =>
  clear h1 cg hb1
  obtain ⟨j, rfl, hj, L', hg, HE, hb, hk⟩ := hrel
  by_cases hlt : j < xs.length
  ·obtain ⟨x, hx⟩ : ∃ x, xs[j]? = some x := ⟨xs[j], List.getElem?_eq_getElem hlt⟩
   have hxm : x ∈ xs := List.mem_of_getElem? hx
   obtain ⟨ad, A2, c2, hA, ca, cb, cc, hc2, hI⟩ := zd2 (zf8 hC1 hk) hx
   subst hA
   have hok := fit_wf HF.out hxm
   have hct : cntG (xs.take j) + (1 + x.2.2.length) ≤ cntG xs := by
    have := cntG_take xs (j + 1)
    rw [zc6 hx, zhy] at this
    simpa [cntG] using this
   obtain ⟨W2, hW2⟩ : ∃ X, wr.alloc (.cells #[.int .i64 x.1, .int .i64 x.2.1, .slice A2 x.2.2.length c2] TN) = X := ⟨_, rfl⟩
   have hs : base ≤ wr.heap.size := Nat.le_trans hbase hb.size
   have hb2 : Below base w W2 := by rw [← hW2]; exact hb.alloc hs _
   have hk2 : zaz wr W2 := by rw [← hW2]; exact zaz.alloc _ _
   have hg2 : zbf gb base (B + cntG (xs.take j)) L' W2 := by rw [← hW2]; exact hg.kept (zbe.alloc _ _)
   have bx : W2.heap[wr.heap.size]? = some (.cells #[.int .i64 x.1, .int .i64 x.2.1, .slice A2 x.2.2.length c2] TN (0, 0)) := by rw [← hW2]; exact zbp _ _
   have x0 : W2.cell? ⟨wr.heap.size, 0, none⟩ = some (.int .i64 x.1) := zaf bx 0
   have x1 : W2.cell? ⟨wr.heap.size, 1, none⟩ = some (.int .i64 x.2.1) := zaf bx 1
   have hnode := zgn hg2 (mrk x) hok (Nat.le_trans hbase hb2.size) (by omega)
   have HI := Lib.hid hI
   clear hI
   go_wp2_with (go_at_call 40; go_loud (refine hnode.mono ?_; rintro e W3 ⟨L3, b, ls, rfl, hg3, hm3, he3, hgr3⟩; have hk3 : zaz W2 W3 := zaz.map hgr3 hg2.top.block; have hb3 : Below base w W3 := hb2.grown hgr3 (Nat.le_trans hbase hb2.size) (fun k e => by cases e; exact hg.gbase); have x2 : W3.cell? ⟨wr.heap.size, 2, none⟩ = some (.slice A2 x.2.2.length c2) := hk3.cell (zaf bx 2)))
   have HE3 := Lib.hid he3
   clear he3 hnode
   go_loopw [26] (fun i wi => ∃ q : Nat, i = .int .i64 (q : Int) ∧ q ≤ x.2.2.length ∧ ∃ Lq lsq, zbf gb base (B + cntG (xs.take j) + 1 + q) Lq wi ∧ (mrk x, b, lsq) ∈ Lq ∧ Hid (toG Lq = (x.2.2.take q).foldl (fun G k => zce G (mrk x) ((marks xs).getD k.toNat (0, 0))) (zb6 (toG L') (mrk x))) ∧ Below base w wi ∧ zaz W3 wi) (fun i _ => x.2.2.length - (Go.RowKit.intOf i).toNat)
   case atStart => exact ⟨0, rfl, Nat.zero_le _, L3, ls, hg3, hm3, Lib.hid (by rw [List.take_zero]; exact HE3.out), hb3, zaz.refl _⟩
   case round =>
    clear hg3 hm3 HE3 x2 hgr3
    obtain ⟨q, rfl, hq, Lq, lsq, hgq, hmq, HEq, hbq, hkq⟩ := hrel
    by_cases hql : q < x.2.2.length
    ·obtain ⟨k, hkk⟩ : ∃ k, x.2.2[q]? = some k := ⟨x.2.2[q], List.getElem?_eq_getElem hql⟩
     have hkm := List.mem_of_getElem? hkk
     obtain ⟨k0, k1⟩ := (HF.out.ok x hxm).inn k hkm
     have hkl : k.toNat < xs.length := by omega
     obtain ⟨y, hy⟩ : ∃ y, xs[k.toNat]? = some y := ⟨xs[k.toNat], List.getElem?_eq_getElem hkl⟩
     have hym : y ∈ xs := List.mem_of_getElem? hy
     have hKq := (hk2.trans hk3).trans hkq
     have hK1 : zaz W1 wr := hk.trans hKq
     obtain ⟨ai, ci, hAi, _, hKi, hci⟩ := Kd.C_get (zh4 HI.out hKq) (0 : Int) (q : Int) (by omega) (by omega)
     subst hAi
     rw [Int.toNat_natCast] at hKi hci
     have hkd : x.2.2.getD q 0 = k := by rw [List.getD_eq_getElem?_getD, hkk]; rfl
     rw [hkd] at hKi
     have cl : wr.cell? (ai.add q) = some (.int .i64 k) := by
      obtain rfl := show ci = [.int .i64 k] from hKi
      have := hci 0 _ rfl
      rwa [show q * (Kd.int .i64).sz + 0 = q from by show q * 1 + 0 = q; omega] at this
     obtain ⟨ad', A3, c3, hA3, ya, yb, yc, _, _⟩ := zd2 (zf8 hC1 hK1) hy
     injection hA3 with hA3
     subst hA3
     have cgi : wr.cell? ⟨w.heap.size, 0, none⟩ = some (.slice (some ad) xs.length c) := hK1.cell (zaf bg 0)
     have hyok := fit_wf HF.out hym
     have hgd : zbf gb base (B + cntG (xs.take j) + 1 + q) Lq wr.drew := hgq.kept (zbe.drew _)
     obtain ⟨W9, hup, hg9, hb0, L9, ls9, hG9, hm9, he9⟩ := hgd.link hmq hyok (by omega)
     have hup' : (Instr.mapUpdate 61 (.map (some b)) (.agg #[.int .i64 y.2.1, .int .i64 y.1]) (.bool true)).run Try.prog wr.drew = .ok () W9 := hup
     have hk9 : zaz wr W9 := zaz.trans (zaz.drew _) (zaz.map hg9 ((hgd.own _ hmq).2.block))
     have hb9 : Below base w W9 := (zb7 hbq).grown hg9 (Nat.le_trans hbase hbq.size) (fun k e => by cases e; exact hb0)
     have HE9 : Hid (toG L9 = (x.2.2.take (q + 1)).foldl (fun G k => zce G (mrk x) ((marks xs).getD k.toNat (0, 0))) (zb6 (toG L') (mrk x))) := Lib.hid (by
      rw [he9, HEq.out, zc6 hkk, List.foldl_append]
      have : (marks xs).getD k.toNat (0, 0) = mrk y := by rw [List.getD_eq_getElem?_getD, zc3 hy]; rfl
      simp only [List.foldl_cons, List.foldl_nil, this])
     have hkge : decide (k < 0) = false := decide_eq_false (by omega)
     have hHeld : (fun X => X.cell? ⟨w.heap.size, 0, none⟩ = some (.slice (some ad) xs.length c) ∧ X.cell? (ad.add (k.toNat * 3)) = some (.int .i64 y.1) ∧ X.cell? ⟨(ad.add (k.toNat * 3)).block, (ad.add (k.toNat * 3)).off + 1, none⟩ = some (.int .i64 y.2.1)) wr.drew := ⟨cgi, ya, yb⟩
     clear hup hgd hgq hmq HEq he9 yc;go_wp2
     rename_i K5 hK5
     refine wp_qz (zbt (S := (fun X => X.cell? ⟨w.heap.size, 0, none⟩ = some (.slice (some ad) xs.length c) ∧ X.cell? (ad.add (k.toNat * 3)) = some (.int .i64 y.1) ∧ X.cell? ⟨(ad.add (k.toNat * 3)).block, (ad.add (k.toNat * 3)).off + 1, none⟩ = some (.int .i64 y.2.1))) (ds := [14]) (Ymk 15 0) (by kernel_rfl) rfl rfl hHeld (fun h0_ => ?_))
     clear h0_
     refine Ypk 0 30 15 1 ?_
     refine Ypk 1 31 15 3 ?_
     refine Ytk 2 32 15 7 hHeld ?_
     refine Ypk 3 33 15 15 ?_
     refine Ypk 4 34 15 31 ?_
     refine Ypk 5 35 15 63 ?_
     refine Ytk 6 36 15 127 hHeld ?_
     refine Ypk 7 37 15 255 ?_
     refine Ytk 8 38 15 511 hHeld ?_
     refine Ypk 9 39 15 1023 ?_
     refine Ypk 10 40 15 2047 ?_
     refine Ypk 11 41 15 4095 ?_
     refine Ytk 12 42 15 8191 hHeld ?_
     refine Ypk 13 43 15 16383 ?_
     refine last_ (i := 14) (N := none) (Ymk 15 32767) rfl rfl (by kernel_rfl) (by decide) (fun K hK => ?_)
     refine zfb (w1 := W9) (by rfl) rfl ?_ ?_
     ·go_simp
     refine hK.out _ _ ?_
     clear hK K
     refine zby (by kernel_rfl) ?_
     refine hK5 _ _ ?_
     clear hK5 hHeld;go_wp2
     go_roundw
     case rel => exact ⟨q + 1, by first | rfl | go_num, by omega, L9, ls9, by rw [← Nat.add_assoc]; exact hG9, hm9, HE9, hb9, hkq.trans hk9⟩
     case measure => simp [Go.RowKit.intOf]; omega
    ·obtain rfl : q = x.2.2.length := by omega
     go_wp2
     go_roundw
     case rel => exact ⟨j + 1, by first | rfl | go_num, by omega, Lq, by
       rw [zc6 hx, zhy]
       have : B + (cntG (xs.take j) + cntG [x]) = B + cntG (xs.take j) + 1 + x.2.2.length := by simp only [cntG]; omega
       rw [this]
       exact hgq, Lib.hid (by
       rw [HEq.out, List.take_length, zc6 hx, List.foldl_append, ← HE.out]
       rfl), hbq, hk.trans ((hk2.trans hk3).trans hkq)⟩
     case measure => simp [Go.RowKit.intOf]; omega
  ·obtain rfl : j = xs.length := by omega
   go_wp2
   refine bodyPost_end (results_none rfl _ _ _) rfl ?_
   rw [List.take_length] at hg HE
   exact ⟨L', rfl, hg, HE.out, hb, hk1.trans hk⟩
end Go.Proofs.ZZ.GAdd
end
section
namespace Go.Proofs
open Go.Shelf
def Try.YtkfjhkkbbcpjjaasortN_ren : Go.Shelf.Ren := ⟨fun | 6 => 58 | 15 => 56 | 14 => 72 | 28 => 70 | 29 => 71 | 20 => 79 | 21 => 80 | 22 => 81 | 23 => 82 | 24 => 83 | 25 => 84 | 26 => 85 | 27 => 86 | 46 => 88 | 47 => 75 | 48 => 76 | 49 => 89 | 50 => 90 | 57 => 91 | n => n, fun | 22 => 22 | 24 => 38 | 25 => 68 | 3 => 3 | 39 => 76 | 0 => 0 | 53 => 92 | 55 => 94 | 4 => 4 | 46 => 84 | 45 => 83 | 50 => 89 | 5 => 5 | 9 => 9 | 66 => 96 | 70 => 100 | 76 => 107 | 77 => 108 | n => n, fun | n => n⟩
theorem Try.YtkfjhkkbbcpjjaasortN : Go.Proofs.SlLaysF0.n6 Try.prog Try.YtkfjhkkbbcpjjaasortN_ren := {
 mixed := by kernel_rfl
 f6 := ⟨Try.f58.name, by decide, Try.func58.trans (congrArg some (by kernel_rfl))⟩
 f14 := ⟨Try.f72.name, by decide, Try.func72.trans (congrArg some (by kernel_rfl))⟩
 f15 := Try.func56.trans (congrArg some (by kernel_rfl))
 f20 := ⟨Try.f79.name, by decide, Try.func79.trans (congrArg some (by kernel_rfl))⟩
 f21 := ⟨Try.f80.name, by decide, Try.func80.trans (congrArg some (by kernel_rfl))⟩
 f22 := ⟨Try.f81.name, by decide, Try.func81.trans (congrArg some (by kernel_rfl))⟩
 f23 := ⟨Try.f82.name, by decide, Try.func82.trans (congrArg some (by kernel_rfl))⟩
 f24 := ⟨Try.f83.name, by decide, Try.func83.trans (congrArg some (by kernel_rfl))⟩
 f25 := ⟨Try.f84.name, by decide, Try.func84.trans (congrArg some (by kernel_rfl))⟩
 f26 := ⟨Try.f85.name, by decide, Try.func85.trans (congrArg some (by kernel_rfl))⟩
 f27 := ⟨Try.f86.name, by decide, Try.func86.trans (congrArg some (by kernel_rfl))⟩
 f28 := Try.func70.trans (congrArg some (by kernel_rfl))
 f29 := Try.func71.trans (congrArg some (by kernel_rfl))
 f46 := ⟨Try.f88.name, by decide, Try.func88.trans (congrArg some (by kernel_rfl))⟩
 f47 := Try.func75.trans (congrArg some (by kernel_rfl))
 f48 := Try.func76.trans (congrArg some (by kernel_rfl))
 f49 := ⟨Try.f89.name, by decide, Try.func89.trans (congrArg some (by kernel_rfl))⟩
 f50 := ⟨Try.f90.name, by decide, Try.func90.trans (congrArg some (by kernel_rfl))⟩
 f57 := ⟨Try.f91.name, by decide, Try.func91.trans (congrArg some (by kernel_rfl))⟩
 t0 := Try.underlying0
 a0 := Try.isAgg0
 z0 := Try.sizeOf0
 v0 := Try.zeroValue0
 t3 := Try.underlying3
 a3 := Try.isAgg3
 z3 := Try.sizeOf3
 v3 := Try.zeroValue3
 t4 := Try.underlying4
 a4 := Try.isAgg4
 z4 := Try.sizeOf4
 v4 := Try.zeroValue4
 t5 := Try.underlying5
 a5 := Try.isAgg5
 z5 := Try.sizeOf5
 v5 := Try.zeroValue5
 t9 := Try.underlying9
 a9 := Try.isAgg9
 z9 := Try.sizeOf9
 v9 := Try.zeroValue9
 t22 := Try.underlying22
 a22 := Try.isAgg22
 z22 := Try.sizeOf22
 v22 := Try.zeroValue22
 t25 := Try.underlying68
 a25 := Try.isAgg68
 z25 := Try.sizeOf68
 v25 := Try.zeroValue68
 t39 := Try.underlying76
 a39 := Try.isAgg76
 z39 := Try.sizeOf76
 v39 := Try.zeroValue76
 t45 := Try.underlying83
 a45 := Try.isAgg83
 z45 := Try.sizeOf83
 v45 := Try.zeroValue83
 t46 := Try.underlying84
 a46 := Try.isAgg84
 z46 := Try.sizeOf84
 v46 := Try.zeroValue84
 t50 := Try.underlying89
 a50 := Try.isAgg89
 z50 := Try.sizeOf89
 v50 := Try.zeroValue89
 t53 := Try.underlying92
 a53 := Try.isAgg92
 z53 := Try.sizeOf92
 v53 := Try.zeroValue92
 t55 := Try.underlying94
 a55 := Try.isAgg94
 z55 := Try.sizeOf94
 v55 := Try.zeroValue94
 t66 := Try.underlying96
 a66 := Try.isAgg96
 z66 := Try.sizeOf96
 v66 := Try.zeroValue96
 t70 := Try.underlying100
 a70 := Try.isAgg100
 z70 := Try.sizeOf100
 v70 := Try.zeroValue100
 t76 := Try.underlying107
 a76 := Try.isAgg107
 z76 := Try.sizeOf107
 v76 := Try.zeroValue107
 t77 := Try.underlying108
 a77 := Try.isAgg108
 z77 := Try.sizeOf108
 v77 := Try.zeroValue108 }
end Go.Proofs
end
section
namespace Go.Proofs.ZZ.SortK
open Go Go.RowKit Go.Sort Go.Proofs.ZW.PrintWords
theorem zhm {k i j : Nat} (h : j < k) : (i * k + j) / k = i ∧ (i * k + j) % k = j := by
 constructor
 ·rw [Nat.mul_comm, Nat.mul_add_div (by omega), Nat.div_eq_of_lt h, Nat.add_zero]
 ·rw [Nat.mul_comm, Nat.mul_add_mod, Nat.mod_eq_of_lt h]
section
variable {α : Type} [Inhabited α] {enc : α → List Value} {k : Nat}
theorem flat_of_reps (hk : ∀ x, (enc x).length = k) {l : List α} {inner : List Value} (h : Reps (fun x cs => cs = enc x) k l inner) : inner = (flatK enc k l.toArray).toList := by
 have hs : (flatK enc k l.toArray).toList.length = l.length * k := by simp
 refine List.ext_getElem (by rw [h.1, hs]) fun t h1 h2 => ?_
 have ht : t < l.length * k := by rw [← h.1]; exact h1
 have k0 : 0 < k := by
  rcases Nat.eq_zero_or_pos k with e | e
  ·subst e; omega
  ·exact e
 have hq : t / k < l.length := Nat.div_lt_of_lt_mul (by rw [Nat.mul_comm]; exact ht)
 have hr := h.2 (t / k) l[t / k] (List.getElem?_eq_getElem hq)
 have hm : t % k < k := Nat.mod_lt _ k0
 have hd : t / k * k + t % k = t := by rw [Nat.mul_comm]; exact Nat.div_add_mod t k
 have e1 : ((inner.drop (t / k * k)).take k)[t % k]? = some inner[t] := by
  rw [List.getElem?_take_of_lt hm, List.getElem?_drop, hd, List.getElem?_eq_getElem h1]
 have e2 : (enc l[t / k])[t % k]? = some inner[t] := by rw [← hr]; exact e1
 have e3 : (flatK enc k l.toArray)[t]! = inner[t] := by
  rw [get_flatK _ _ _ _ (by simpa using ht)]
  have : l.toArray[t / k]! = l[t / k] := by simp [hq]
  rw [this, getElem!_def, e2]
 have hft : t < (flatK enc k l.toArray).size := by simpa using ht
 have e4 : (flatK enc k l.toArray).toList[t] = inner[t] := by rw [← e3, getElem!_pos (flatK enc k l.toArray) t hft]; rfl
 exact e4.symm
theorem reps_of_flat (hk : ∀ x, (enc x).length = k) (l : List α) : Reps (fun x cs => cs = enc x) k l (flatK enc k l.toArray).toList := by
 have hs : (flatK enc k l.toArray).toList.length = l.length * k := by simp
 refine ⟨hs, fun j p hj => ?_⟩
 obtain ⟨hj', hp⟩ := List.getElem?_eq_some_iff.1 hj
 have hb : j * k + k ≤ l.length * k := by rw [← Nat.succ_mul]; exact Nat.mul_le_mul_right _ hj'
 refine List.ext_getElem (by rw [List.length_take, List.length_drop, hs, hk]; omega) fun t h1 h2 => ?_
 rw [List.length_take] at h1
 have htk : t < k := by omega
 rw [List.getElem_take, List.getElem_drop, Array.getElem_toList]
 have e := get_flatK enc k l.toArray (j * k + t) (by simp; omega)
 rw [getElem!_pos _ _ (by simp; omega), (zhm htk).1, (zhm htk).2] at e
 rw [e]
 have : l.toArray[j]! = p := by simp [hj', hp]
 rw [this, getElem!_pos]
end
section
variable {P : Program} {α : Type} [Inhabited α]
theorem sortK_of (d : Kd α) (enc : α → List Value) (e : TypeId) (hM : ∀ w base ok x cs, d.M w base ok x cs ↔ cs = enc x) (hk : ∀ x, (enc x).length = d.sz) (f : FuncId) (fv : Value) (T : Array α → Array α)
  (hT : ∀ dd, (T dd).size = dd.size)
  (hN : ∀ (p : Option Addr) (cap : Nat) (w : World), Calls P f #[.slice p 0 cap, fv] w fun e w' => e = .returned (.tuple #[]) ∧ w' = w)
  (hS : ∀ (blk cap : Nat) (dd : Array α) (w : World), HoldsK enc d.sz w blk 0 dd → blk < w.heap.size → dd.size < 4611686018427387904 →
   Calls P f #[.slice (some ⟨blk, 0, none⟩) dd.size cap, fv] w fun e w' => e = .returned (.tuple #[]) ∧ ∃ n os, w' = sortWorldK enc d.sz w blk 0 n (T dd) os)
  (P0 : Nat → Prop) (u : Value) (l : List α) (w0 w : World) (hB : Below w0.heap.size w0 w) (ho : Kd.R d e w w0.heap.size P0 u l) (hlt : l.length < 4611686018427387904) :
  Calls P f #[u, fv] w fun en w' => en = .returned (.tuple #[]) ∧ Kd.R d e w' w0.heap.size (fun k => P0 k ∨ w.heap.size ≤ k) u (T l.toArray).toList ∧ Below w0.heap.size w0 w' ∧ Kept w w' (fun k => P0 k) := by
 obtain ⟨h0, inner, ho, hr⟩ := ho
 have hr' : Reps (fun x cs => cs = enc x) d.sz l inner := hr.imp_ (fun _ _ h => (hM _ _ _ _ _).1 h)
 have hfl := flat_of_reps hk hr'
 have fin : ∀ W, W = w → l = [] → Kd.R d e W w0.heap.size (fun k => P0 k ∨ w.heap.size ≤ k) u (T l.toArray).toList := by
  rintro W rfl rfl
  have : (T ([] : List α).toArray).toList = [] := by
   have := hT ([] : List α).toArray
   exact List.eq_nil_of_length_eq_zero (by rw [Array.length_toList, this]; rfl)
  rw [this]
  exact ⟨fun k hk => .inl (h0 k hk), inner, ho, hr.imp_ (fun _ _ h => (hM _ _ _ _ _).2 ((hM _ _ _ _ _).1 h))⟩
 rcases ho.2 with ⟨rfl, hn⟩ | ⟨g, cap, cur, rfl, hg, hh, hcap, hmax, hsz, htk⟩
 ·have hl : l = [] := List.eq_nil_of_length_eq_zero hn
  refine (hN none 0 w).mono ?_
  rintro en w' ⟨rfl, rfl⟩
  exact ⟨rfl, fin _ rfl hl, hB, Kept.refl _ _⟩
 ·have hglt : g < w.heap.size := zbj hh
  by_cases hl : l = []
  ·have e0 : l.length = 0 := by rw [hl]; rfl
   rw [e0]
   refine (hN (some ⟨g, 0, none⟩) cap w).mono ?_
   rintro en w' ⟨rfl, rfl⟩
   refine ⟨rfl, ?_, hB, Kept.refl _ _⟩
   have := fin _ rfl hl
   rw [e0] at this
   exact this
  ·have hsl : l.toArray.size = l.length := by simp
   have hH : HoldsK enc d.sz w g 0 l.toArray := by
    intro j hj
    rw [size_flatK, hsl] at hj
    refine ⟨?_, by simp [World.frozen?, hh]⟩
    have e1 : (cur.toList.take (l.length * d.sz))[j]? = some ((flatK enc d.sz l.toArray)[j]!) := by
     rw [htk, hfl, Array.getElem?_toList, getElem!_pos _ _ (by simpa using hj), Array.getElem?_eq_getElem]
    rw [List.getElem?_take_of_lt hj, Array.getElem?_toList] at e1
    simp only [World.cell?, hh, Nat.zero_add]
    simp only [Option.isSome_none, Bool.false_eq_true, if_false]
    rw [e1]
    rfl
   have hc := hS g cap l.toArray w hH hglt (by rw [hsl]; exact hlt)
   rw [hsl] at hc
   refine hc.mono ?_
   rintro en w' ⟨rfl, n, os, rfl⟩
   have hTs : (T l.toArray).toList.length = l.length := by rw [Array.length_toList, hT, hsl]
   have hheap : ∀ i, i < w.heap.size → i ≠ g → (sortWorldK enc d.sz w g 0 n (T l.toArray) os).heap[i]? = w.heap[i]? := by
    intro i hi hne
    unfold sortWorldK
    rw [heap_grow_old _ _ (by simpa [putRowK, putRow, mapBlock, Sort.ahead] using hi)]
    simp [putRowK, putRow, mapBlock, Sort.ahead, Array.getElem?_modify, Ne.symm hne]
   have hhg : (sortWorldK enc d.sz w g 0 n (T l.toArray) os).heap[g]? = some (.cells (putCells id 0 (flatK enc d.sz (T l.toArray)) cur) e (0, 0)) := by
    unfold sortWorldK
    rw [heap_grow_old _ _ (by simpa [putRowK, putRow, mapBlock, Sort.ahead] using hglt)]
    simp [putRowK, putRow, mapBlock, Sort.ahead, Array.getElem?_modify, hh, onCells]
   have hsize : w.heap.size ≤ (sortWorldK enc d.sz w g 0 n (T l.toArray) os).heap.size := by
    simp [sortWorldK, putRowK, putRow, mapBlock, Sort.ahead]
   refine ⟨rfl, ⟨fun k hk => .inl (h0 k hk), (flatK enc d.sz (T l.toArray)).toList, ⟨?_, .inr ⟨g, cap, _, ?_, hg, hhg, ?_, hmax, ?_, ?_⟩⟩, ?_⟩, ?_, hsize, ?_⟩
   ·rw [Array.length_toList, size_flatK, hTs, hT, hsl]
   ·rw [hTs]
   ·rw [hTs]; exact hcap
   ·simpa [putCells] using hsz
   ·have hfs : (flatK enc d.sz (T l.toArray)).size = l.length * d.sz := by rw [size_flatK, hT, hsl]
    have hle : l.length * d.sz ≤ cur.size := by rw [hsz]; exact Nat.mul_le_mul_right _ hcap
    rw [hTs]
    refine List.ext_getElem (by rw [Array.length_toList (xs := flatK enc d.sz (T l.toArray)), hfs, List.length_take, Array.length_toList (xs := putCells id 0 (flatK enc d.sz (T l.toArray)) cur)]; simp only [putCells, Array.size_mapIdx]; omega) fun t h1 h2 => ?_
    have ht : t < l.length * d.sz := by simpa [hfs] using h2
    rw [List.getElem_take, Array.getElem_toList, Array.getElem_toList]
    simp only [putCells, Array.getElem_mapIdx]
    rw [if_pos (by omega), Nat.sub_zero, getElem!_pos _ _ (by omega)]
    rfl
   ·have := reps_of_flat (enc := enc) hk (T l.toArray).toList
    simp only [Array.toArray_toList] at this
    exact this.imp_ (fun _ _ h => (hM _ _ _ _ _).2 h)
   ·refine ⟨hB.os, hB.tape, hB.output, Nat.le_trans hB.size hsize, fun i hi => ?_⟩
    rw [hheap i (Nat.lt_of_lt_of_le hi hB.size) (by omega)]
    exact hB.block i hi
   ·intro i hi hn
    exact hheap i hi (fun e => hn (by rw [e]; exact h0 g (by simp [Value.ownBlock])))
end
end Go.Proofs.ZZ.SortK
end
section
namespace Go.Proofs.ZZ.GOrd
open Go Go.RowKit Go.Shelf Go.Maps Go.Sort Go.Proofs.ZW.PrintWords Go.Proofs.ZW.PrintLast Go.Proofs.ZZ.GMap Go.Proofs.ZZ.GK Go.Proofs.ZZ.G16 Go.Proofs.ZZ.GGr Go.Proofs.ZZ.GAdd
def cmpM (x y : Mk) : Int := if Lib.compareInt x.1 y.1 ≠ 0 then Lib.compareInt x.1 y.1 else Lib.compareInt x.2 y.2
theorem nan_calls (a : Int) (W : World) : Calls Try.prog 73 #[.int .i64 a] W fun e w' => e = .returned (.bool false) ∧ w' = W := by
 go_enter Try.func73, Try.ntmps73
 go_wp2;go_ret
 exact ⟨by simp, rfl⟩
theorem zgs (a b : Int) (W : World) : Calls Try.prog 60 #[.int .i64 a, .int .i64 b] W fun e w' => e = .returned (.int .i64 (Lib.compareInt a b)) ∧ w' = W := by
 have n1 := nan_calls a W
 have n2 := nan_calls b W
 by_cases h1 : a < b
 ·have e : Lib.compareInt a b = -1 := by unfold Lib.compareInt; rw [if_pos h1]
  rw [e]
  go_enter Try.func60, Try.ntmps60
  go_wp2_with (go_at_call 73; first | (refine n1.mono ?_; rintro e w1 ⟨rfl, rfl⟩) | (refine n2.mono ?_; rintro e w1 ⟨rfl, rfl⟩))
  go_ret
  exact ⟨rfl, rfl⟩
 ·by_cases h2 : b < a
  ·have e : Lib.compareInt a b = 1 := by unfold Lib.compareInt; rw [if_neg h1, if_pos h2]
   rw [e]
   go_enter Try.func60, Try.ntmps60
   go_wp2_with (go_at_call 73; first | (refine n1.mono ?_; rintro e w1 ⟨rfl, rfl⟩) | (refine n2.mono ?_; rintro e w1 ⟨rfl, rfl⟩))
   go_ret
   exact ⟨rfl, rfl⟩
  ·obtain rfl : a = b := by omega
   have e : Lib.compareInt a a = 0 := by unfold Lib.compareInt; rw [if_neg h1, if_neg h2]
   rw [e]
   go_enter Try.func60, Try.ntmps60
   go_wp2_with (go_at_call 73; first | (refine n1.mono ?_; rintro e w1 ⟨rfl, rfl⟩) | (refine n2.mono ?_; rintro e w1 ⟨rfl, rfl⟩))
   go_ret
   exact ⟨rfl, rfl⟩
theorem or_calls (g : Nat) (a b : Int) (W : World) (hg : W.heap[g]? = some (.cells #[.int .i64 a, .int .i64 b] 3 (0, 0))) : Calls Try.prog 59 #[.slice (some ⟨g, 0, none⟩) 2 2] W fun e w' => e = .returned (.int .i64 (if a ≠ 0 then a else b)) ∧ w' = W := by
 have c0 : W.cell? ⟨g, 0, none⟩ = some (.int .i64 a) := zaf hg 0
 have c1 : W.cell? ⟨g, 1, none⟩ = some (.int .i64 b) := zaf hg 1
 clear hg
 generalize hr : (if a ≠ 0 then a else b) = r
 have HR := Lib.hid hr
 clear hr
 go_enter Try.func59, Try.ntmps59
 go_wp2
 go_loopw [5, 8] (fun v5 v8 wr => wr = W ∧ ∃ j : Nat, j ≤ 2 ∧ v8 = .int .i64 (j : Int) ∧ (0 < j → a = 0) ∧ (1 < j → b = 0)) (fun _ v8 _ => 2 - (Go.RowKit.intOf v8).toNat)
 case atStart => exact ⟨rfl, 0, by omega, rfl, by omega, by omega⟩
 case round =>
  obtain ⟨rfl, j, hj, rfl, h0, h1⟩ := hrel
  have hcs : j = 0 ∨ j = 1 ∨ j = 2 := by omega
  rcases hcs with rfl | rfl | rfl
  ·by_cases hz : a = 0
   ·have hzb : ((a : Int) == 0) = true := by simpa using hz
    have hzb2 : (!((a : Int) == 0)) = false := by simp [hz]
    go_wp2
    go_roundw
    case rel => exact ⟨trivial, 1, by omega, by go_num, (fun _ => hz), by omega⟩
    case measure => simp [Go.RowKit.intOf]
   ·have hzb : ((a : Int) == 0) = false := by simpa using hz
    have hzb2 : (!((a : Int) == 0)) = true := by simp [hz]
    go_wp2
    refine bodyPost_ret (results_tmp rfl _ _ _) rfl ?_
    have hr := HR.out
    rw [if_pos hz] at hr; subst hr
    exact ⟨rfl, rfl⟩
  ·by_cases hz : b = 0
   ·have hzb : ((b : Int) == 0) = true := by simpa using hz
    have hzb2 : (!((b : Int) == 0)) = false := by simp [hz]
    go_wp2
    go_roundw
    case rel => exact ⟨trivial, 2, by omega, by go_num, (fun _ => (h0 (by omega))), (fun _ => hz)⟩
    case measure => simp [Go.RowKit.intOf]
   ·have hzb : ((b : Int) == 0) = false := by simpa using hz
    have hzb2 : (!((b : Int) == 0)) = true := by simp [hz]
    go_wp2
    refine bodyPost_ret (results_tmp rfl _ _ _) rfl ?_
    have hr := HR.out
    rw [if_neg (fun h => h (h0 (by omega)))] at hr; subst hr
    exact ⟨rfl, rfl⟩
  ·go_wp2
   refine bodyPost_ret (results_tmp rfl _ _ _) rfl ?_
   have hr := HR.out
   rw [if_neg (fun h => h (h0 (by omega))), h1 (by omega)] at hr
   subst hr
   exact ⟨rfl, rfl⟩
theorem order_calls (x y : Mk) (w : World) : Calls Try.prog 45 #[.agg #[.int .i64 x.2, .int .i64 x.1, .slice none 0 0], .agg #[.int .i64 y.2, .int .i64 y.1, .slice none 0 0]] w fun e w' => e = .returned (.int .i64 (cmpM x y)) ∧ ∃ q os, w' = grow (w.drewN q) os := by
 go_enter Try.func45, Try.ntmps45
 go_wp2
 obtain ⟨W2, hW2⟩ : ∃ W2, (w.alloc (.cells #[.int .i64 x.2, .int .i64 x.1, .slice none 0 0] TN)).alloc (.cells #[.int .i64 y.2, .int .i64 y.1, .slice none 0 0] TN) = W2 := ⟨_, rfl⟩
 have b0 : W2.heap[w.heap.size]? = some (.cells #[.int .i64 x.2, .int .i64 x.1, .slice none 0 0] TN (0, 0)) := by rw [← hW2]; exact zad (zbp w _) _
 have b1 : W2.heap[w.heap.size + 1]? = some (.cells #[.int .i64 y.2, .int .i64 y.1, .slice none 0 0] TN (0, 0)) := by rw [← hW2]; have := zbp (w.alloc (.cells #[.int .i64 x.2, .int .i64 x.1, .slice none 0 0] TN)) (.cells #[.int .i64 y.2, .int .i64 y.1, .slice none 0 0] TN); simpa using this
 rename_i K6 hK6
 rw [hW2]
 have hHeld : (fun X => X.cell? ⟨w.heap.size, 0, none⟩ = some (.int .i64 x.2) ∧ X.cell? ⟨w.heap.size, 1, none⟩ = some (.int .i64 x.1) ∧ X.cell? ⟨w.heap.size + 1, 0, none⟩ = some (.int .i64 y.2) ∧ X.cell? ⟨w.heap.size + 1, 1, none⟩ = some (.int .i64 y.1)) W2.drew := ⟨zaf (zac b0) 0, zaf (zac b0) 1, zaf (zac b1) 0, zaf (zac b1) 1⟩
 have hBa : Below W2.drew.heap.size W2.drew (W2.drew.alloc (.cells #[.int .i64 (Lib.compareInt x.1 y.1), .int .i64 (Lib.compareInt x.2 y.2)] 3)) := (Below.refl _ _).alloc (Nat.le_refl _) _
 refine wp_qz (zbt (S := (fun X => X.cell? ⟨w.heap.size, 0, none⟩ = some (.int .i64 x.2) ∧ X.cell? ⟨w.heap.size, 1, none⟩ = some (.int .i64 x.1) ∧ X.cell? ⟨w.heap.size + 1, 0, none⟩ = some (.int .i64 y.2) ∧ X.cell? ⟨w.heap.size + 1, 1, none⟩ = some (.int .i64 y.1))) (ds := []) (Ymk 13 0) (by kernel_rfl) rfl rfl hHeld (fun h0_ => ?_))
 clear h0_
 refine Ypk 0 5 13 1 ?_
 refine Ytk 1 6 13 3 hHeld ?_
 refine Ypk 2 7 13 7 ?_
 refine Ytk 3 8 13 15 hHeld ?_
 refine Ypk 5 10 13 47 ?_
 refine Ytk 6 11 13 111 hHeld ?_
 refine Ypk 7 12 13 239 ?_
 refine Ytk 8 13 13 495 hHeld ?_
 refine Yok 4 9 13 511 (fun K hK => ?_)
 refine Ygh Try.func60 #[.int .i64 x.1, .int .i64 y.1] ?_
 refine (zgs _ _ _).mono ?_
 rintro e W' ⟨rfl, rfl⟩
 refine ⟨_, rfl, ?_⟩
 refine hK.out _ _ hHeld (fun h0_ => ?_)
 clear hK K h0_
 refine Yok 9 14 13 1023 (fun K hK => ?_)
 refine Ygh Try.func60 #[.int .i64 x.2, .int .i64 y.2] ?_
 refine (zgs _ _ _).mono ?_
 rintro e W' ⟨rfl, rfl⟩
 refine ⟨_, rfl, ?_⟩
 refine hK.out _ _ hHeld (fun h0_ => ?_)
 clear hK K h0_
 refine Yok 10 15 13 2047 (fun K hK => ?_)
 refine value_ (w1 := (W2.drew.alloc (.cells #[.int .i64 (Lib.compareInt x.1 y.1), .int .i64 (Lib.compareInt x.2 y.2)] 3))) (v := .slice (some ⟨W2.drew.heap.size, 0, none⟩) 2 2) (by rfl) rfl ?_ ?_
 ·go_simp
 have hhA : (fun X => X.cell? ⟨w.heap.size, 0, none⟩ = some (.int .i64 x.2) ∧ X.cell? ⟨w.heap.size, 1, none⟩ = some (.int .i64 x.1) ∧ X.cell? ⟨w.heap.size + 1, 0, none⟩ = some (.int .i64 y.2) ∧ X.cell? ⟨w.heap.size + 1, 1, none⟩ = some (.int .i64 y.1)) (W2.drew.alloc (.cells #[.int .i64 (Lib.compareInt x.1 y.1), .int .i64 (Lib.compareInt x.2 y.2)] 3)) := ⟨zai hBa hHeld.1, zai hBa hHeld.2.1, zai hBa hHeld.2.2.1, zai hBa hHeld.2.2.2⟩
 refine hK.out _ _ hhA (fun h0_ => ?_)
 clear hK K h0_
 refine Ynm 15 ?_
 refine Yok 11 16 13 4095 (fun K hK => ?_)
 refine Ygh Try.func59 #[.slice (some ⟨W2.drew.heap.size, 0, none⟩) 2 2] ?_
 refine (or_calls _ _ _ _ (zbp W2.drew (.cells #[.int .i64 (Lib.compareInt x.1 y.1), .int .i64 (Lib.compareInt x.2 y.2)] 3))).mono ?_
 rintro e W' ⟨he, rfl⟩
 obtain rfl : e = .returned (.int .i64 (cmpM x y)) := he
 refine ⟨_, rfl, ?_⟩
 refine hK.out _ _ hhA (fun h0_ => ?_)
 clear hK K h0_
 refine Ypk 12 4 13 8191 ?_
 refine zby (by kernel_rfl) ?_
 refine hK6 _ _ ?_
 go_wp2
 have e : ∃ os, (W2.drew.alloc (.cells #[.int .i64 (Lib.compareInt x.1 y.1), .int .i64 (Lib.compareInt x.2 y.2)] 3)) = grow (w.drewN 1) os := by
  rw [← hW2, alloc_eq_grow, alloc_eq_grow, alloc_eq_grow, drew_grow, drew_grow, grow_grow, grow_grow]
  exact ⟨_, rfl⟩
 refine bodyPost_ret (results_tmp rfl _ _ _) rfl ?_
 exact ⟨rfl, 1, e⟩
def encN (x : Mk) : List Value := [.int .i64 x.2, .int .i64 x.1, .slice none 0 0]
theorem cmpM_lt (x y : Mk) : cmpM x y < 0 ↔ mlt x y := by
 unfold cmpM Lib.compareInt mlt
 by_cases h1 : x.1 < y.1
 ·simp [h1]
 ·by_cases h2 : y.1 < x.1
  ·have : ¬ x.1 = y.1 := by omega
   simp [h1, h2, this]
  ·have e : x.1 = y.1 := by omega
   by_cases h3 : x.2 < y.2
   ·simp [h1, h2, h3, e]
   ·by_cases h4 : y.2 < x.2
    ·simp [h1, h2, h3, h4, e]
    ·simp [h1, h2, h3, h4, e]
theorem ltM (x y : Mk) : ltOf cmpM x y = decide (mlt x y) := by
 unfold ltOf
 by_cases h : mlt x y
 ·rw [decide_eq_true h, decide_eq_true ((cmpM_lt x y).2 h)]
 ·rw [decide_eq_false h, decide_eq_false (fun g => h ((cmpM_lt x y).1 g))]
theorem swoM : SWO (ltOf cmpM) where
 irrefl x := by rw [ltM]; exact decide_eq_false (zdu x)
 trans x y z h1 h2 := by rw [ltM] at *; exact decide_eq_true (zdp (of_decide_eq_true h1) (of_decide_eq_true h2))
 ntrans x y z h1 h2 := by
  rw [ltM] at *
  have h1 := of_decide_eq_false h1
  have h2 := of_decide_eq_false h2
  refine decide_eq_false fun h => ?_
  unfold mlt at *
  omega
def kM0 : Kd Mk := Kd.iso (Kd.raw 3) encN
def sortM (l : List Mk) : List Mk := (pdq (ltOf cmpM) l.toArray 0 l.toArray.size (Lib.bitLen l.toArray.size) true true).toList
theorem zio (l : List Mk) : (sortM l).Perm l ∧ (sortM l).Pairwise (fun a b => ¬ mlt b a) := by
 have hs := pdq_sorts (ltOf cmpM) swoM l.toArray 0 l.toArray.size (Lib.bitLen l.toArray.size) true true (Nat.zero_le _) (Nat.le_refl _) (.inl rfl)
 obtain ⟨⟨h1, h2, h3⟩, h4⟩ := hs
 clear h2
 unfold sortM
 generalize hd : pdq (ltOf cmpM) l.toArray 0 l.toArray.size (Lib.bitLen l.toArray.size) true true = d at *
 refine ⟨?_, ?_⟩
 ·have e1 : d.extract 0 l.toArray.size = d := by rw [← h1]; simp
  have e2 : l.toArray.extract 0 l.toArray.size = l.toArray := by simp
  rw [e1, e2] at h3
  simpa using h3
 ·rw [List.pairwise_iff_getElem]
  intro i j hi hj hij
  have hi' : i < d.size := by simpa using hi
  have hj' : j < d.size := by simpa using hj
  have := h4 i j (by omega) hij (by omega)
  rw [ltM, getElem!_pos d i hi', getElem!_pos d j hj'] at this
  simpa only [decide_eq_false_iff_not, Array.getElem_toList] using this
theorem sortM_isM {l : List Mk} (h : l.Nodup) : sortM l = isM l := by
 obtain ⟨hp, hs⟩ := zio l
 have hn : (sortM l).Nodup := hp.nodup_iff.2 h
 refine zdw zdu (fun h k => zdp h k) ((hs.and hn).imp ?_) (zeq h) (fun x => hp.mem_iff.trans zbx.symm)
 rintro a b ⟨h1, h2⟩
 rcases mlt_tri a b with h | h | h
 ·exact h
 ·exact absurd h h2
 ·exact absurd h h1
theorem kM0_M (w : World) (base : Nat) (ok : Nat → Prop) (x : Mk) (cs : List Value) : kM0.M w base ok x cs ↔ cs = encN x :=
 ⟨fun h => h.1, fun h => ⟨h, by rw [h]; rfl, by rw [h]; intro u hu; simp [encN] at hu; rcases hu with rfl | rfl | rfl <;> rfl⟩⟩
theorem sortN_calls (P0 : Nat → Prop) (v : Value) (l : List Mk) (w0 w : World) (hB : Below w0.heap.size w0 w) (ho : Kd.R kM0 TN w w0.heap.size P0 v l) (hl : l.length < 4611686018427387904) :
  Calls Try.prog 58 #[v, .func (.func 45) #[] #[]] w fun e w' => e = .returned (.tuple #[]) ∧ Kd.R kM0 TN w' w0.heap.size (fun k => P0 k ∨ w.heap.size ≤ k) v (sortM l) ∧ Below w0.heap.size w0 w' ∧ Kept w w' (fun k => P0 k) := by
 have eg : ∀ args w, (callFunc 45 args).run Try.prog w = .ok (.enter 45 args) w := enters_of Try.func45 (by kernel_rfl) rfl
 exact SortK.sortK_of kM0 encN TN (fun w base ok x cs => kM0_M w base ok x cs) (fun _ => rfl) 58 _
  (fun dd => pdq (ltOf cmpM) dd 0 dd.size (Lib.bitLen dd.size) true true) (fun dd => (pdq_sorts (ltOf cmpM) swoM dd 0 dd.size (Lib.bitLen dd.size) true true (Nat.zero_le _) (Nat.le_refl _) (Or.inl rfl)).1.1)
  (fun p cap w => AnyF.slices_SortFunc_none Try.YtkfjhkkbbcpjjaasortN p cap _ w)
  (fun blk cap dd w hH hb hs => AnyQ.slices_SortFunc_eq Try.YtkfjhkkbbcpjjaasortN 3 Try.isAgg38 Try.sizeOf38 encN (fun _ => rfl) (fun x v hv => by simp [encN] at hv; rcases hv with rfl | rfl | rfl <;> rfl) cmpM swoM _ #[] blk 0 cap dd w eg (fun _ _ _ _ x y => order_calls x y _) hH hb hs)
  P0 v l w0 w hB ho hl
end Go.Proofs.ZZ.GOrd
end
section
namespace Go.Proofs.ZZ.GTop
open Go Go.RowKit Go.Shelf Go.Maps Go.Sort Go.Proofs.ZW.PrintWords Go.Proofs.ZW.PrintLast Go.Proofs.ZZ.GMap Go.Proofs.ZZ.GK Go.Proofs.ZZ.G16 Go.Proofs.ZZ.GGr Go.Proofs.ZZ.GAdd Go.Proofs.ZZ.GOrd
abbrev TG : TypeId := 24
def zcj (tb cap : Nat) (rows : List (Mk × Value)) (W : World) : Prop :=
 ∃ cur : Array Value, W.heap[tb]? = some (.cells cur TN (0, 0)) ∧ cur.size = cap * 3 ∧ rows.length ≤ cap ∧ cap ≤ maxLen ∧ ∀ (i : Nat) (m : Mk) (lv : Value), rows[i]? = some (m, lv) → cur[i * 3]? = some (.int .i64 m.2) ∧ cur[i * 3 + 1]? = some (.int .i64 m.1) ∧ cur[i * 3 + 2]? = some lv
section
variable {tb cap : Nat} {rows : List (Mk × Value)} {W W' : World}
theorem zcj.move (h : zcj tb cap rows W) (hb : W'.heap[tb]? = W.heap[tb]?) : zcj tb cap rows W' := by
 obtain ⟨cur, h1, h2⟩ := h
 exact ⟨cur, hb.trans h1, h2⟩
theorem zcj.kept (h : zcj tb cap rows W) (hk : zaz W W') : zcj tb cap rows W' := by
 obtain ⟨cur, h1, h2⟩ := h
 exact ⟨cur, hk _ _ _ _ h1, h2⟩
theorem zcj.block (h : zcj tb cap rows W) : ∃ cur, W.heap[tb]? = some (.cells cur TN (0, 0)) := by
 obtain ⟨cur, h1, h2⟩ := h
 exact ⟨cur, h1⟩
theorem zcj.at (h : zcj tb cap rows W) {i : Nat} {m : Mk} {lv : Value} (hi : rows[i]? = some (m, lv)) : W.cell? ⟨tb, i * 3, none⟩ = some (.int .i64 m.2) ∧ W.cell? ⟨tb, i * 3 + 1, none⟩ = some (.int .i64 m.1) ∧ W.cell? ⟨tb, i * 3 + 2, none⟩ = some lv ∧ W.frozen? ⟨tb, i * 3 + 2, none⟩ = false := by
 obtain ⟨cur, h1, h2, h3, h3', h4⟩ := h
 obtain ⟨a, b, c⟩ := h4 i m lv hi
 exact ⟨(zaf h1 _).trans a, (zaf h1 _).trans b, (zaf h1 _).trans c, zbr h1 _⟩
theorem zcj.set (h : zcj tb cap rows W) {i : Nat} {m : Mk} {lv : Value} (hi : rows[i]? = some (m, lv)) (lv' : Value) : zcj tb cap (rows.set i (m, lv')) (W.setCell ⟨tb, i * 3 + 2, none⟩ lv') := by
 obtain ⟨cur, h1, h2, h3, h3', h4⟩ := h
 have hil := (List.getElem?_eq_some_iff.1 hi).1
 refine ⟨_, blk_set h1 _ lv', by rw [Array.size_setIfInBounds]; exact h2, by rw [List.length_set]; exact h3, h3', fun j m' lv2 hj => ?_⟩
 rw [List.getElem?_set] at hj
 by_cases e : i = j
 ·subst e
  rw [if_pos rfl, if_pos hil] at hj
  obtain ⟨rfl, rfl⟩ : m = m' ∧ lv' = lv2 := by simpa using hj
  obtain ⟨a, b, c⟩ := h4 i m lv hi
  have hc := (Array.getElem?_eq_some_iff.1 c).1
  refine ⟨?_, ?_, ?_⟩
  ·rw [Array.getElem?_setIfInBounds, if_neg (by omega)]; exact a
  ·rw [Array.getElem?_setIfInBounds, if_neg (by omega)]; exact b
  ·rw [Array.getElem?_setIfInBounds, if_pos rfl, if_pos hc]
 ·rw [if_neg e] at hj
  obtain ⟨a, b, c⟩ := h4 j m' lv2 hj
  refine ⟨?_, ?_, ?_⟩
  ·rw [Array.getElem?_setIfInBounds, if_neg (by omega)]; exact a
  ·rw [Array.getElem?_setIfInBounds, if_neg (by omega)]; exact b
  ·rw [Array.getElem?_setIfInBounds, if_neg (by omega)]; exact c
theorem top_of_R {base : Nat} {ok : Nat → Prop} {A : Option Addr} {n c : Nat} {ks : List Mk} (h : Kd.R kM0 TN W base ok (.slice A n c) ks) (hn : ks.length = n) (h0 : 0 < n) : ∃ tb, A = some ⟨tb, 0, none⟩ ∧ base ≤ tb ∧ zcj tb c (ks.map fun m => (m, .slice none 0 0)) W := by
 obtain ⟨_, inner, ho, hr⟩ := h
 rw [hn] at ho
 rcases ho.2 with ⟨_, hz⟩ | ⟨g, cap, cur, hv, hg, hh, hcap, hmax, hsz, htk⟩
 ·omega
 ·injection hv with e1 _ e3
  subst e1;subst e3
  have hsz' : cur.size = c * 3 := hsz
  refine ⟨g, rfl, hg, cur, hh, hsz', by rw [List.length_map]; omega, hmax, fun i m lv hi => ?_⟩
  rw [List.getElem?_map] at hi
  obtain ⟨m', hm', e⟩ := Option.map_eq_some_iff.1 hi
  simp only [Prod.mk.injEq] at e
  obtain ⟨rfl, rfl⟩ := e
  have hil := (List.getElem?_eq_some_iff.1 hm').1
  have hM := (kM0_M _ _ _ _ _).1 (hr.2 i m' hm')
  have hcells : ∀ j, j < 3 → cur[i * 3 + j]? = (encN m')[j]? := fun j hj => by
   rw [← hM, List.getElem?_take_of_lt (by exact hj), List.getElem?_drop, ← htk, List.getElem?_take_of_lt (by show i * 3 + j < n * 3; omega), Array.getElem?_toList]
   rfl
  exact ⟨hcells 0 (by omega), hcells 1 (by omega), hcells 2 (by omega)⟩
theorem zcj.toR {base : Nat} {xs : List Nd} (h : zcj tb cap rows W) (hb : base ≤ tb) (hl : xs.length = rows.length)
  (hx : ∀ (i : Nat) (x : Nd), xs[i]? = some x → ∃ lv, rows[i]? = some ((x.2.1, x.1), lv) ∧ ∃ ok, Kd.R (Kd.int .i64) TI W base ok lv x.2.2) : Kd.R kN TN W base (fun _ => True) (.slice (some ⟨tb, 0, none⟩) xs.length cap) xs := by
 obtain ⟨cur, h1, h2, h3, h3', h4⟩ := h
 have hle : xs.length * 3 ≤ cur.size := by rw [h2, hl]; omega
 have hlen : (cur.toList.take (xs.length * 3)).length = xs.length * 3 := by rw [List.length_take, Array.length_toList (xs := cur)]; omega
 refine ⟨fun _ _ => trivial, cur.toList.take (xs.length * 3), ⟨hlen, .inr ⟨tb, cap, cur, rfl, hb, h1, by rw [hl]; exact h3, h3', h2, rfl⟩⟩, hlen, fun i x hi => ?_⟩
 obtain ⟨lv, hr, ok, hR⟩ := hx i x hi
 have hil := (List.getElem?_eq_some_iff.1 hi).1
 obtain ⟨a, b, c⟩ := h4 i _ lv hr
 have hR' := Kd.zdn hR h1 (t := TN) (fun q hq => by
  obtain rfl : q = TI := by simpa [Kd.int, Kd.scalar] using hq
  decide)
 have e : ((cur.toList.take (xs.length * 3)).drop (i * 3)).take 3 = [.int .i64 x.1, .int .i64 x.2.1, lv] := by
  refine List.ext_getElem? fun j => ?_
  by_cases hj : j < 3
  ·rw [List.getElem?_take_of_lt hj, List.getElem?_drop, List.getElem?_take_of_lt (by omega), Array.getElem?_toList]
   match j, hj with
   | 0, _ => exact a
   | 1, _ => exact b
   | 2, _ => exact c
  ·rw [List.getElem?_eq_none (by rw [List.length_take]; omega), List.getElem?_eq_none (by simp only [List.length_cons, List.length_nil]; omega)]
 show kN.M W base _ x (((cur.toList.take (xs.length * 3)).drop (i * 3)).take 3)
 rw [e]
 refine ⟨[.int .i64 x.1], [.int .i64 x.2.1, lv], rfl, rfl, ⟨[.int .i64 x.2.1], [lv], rfl, rfl, ⟨lv, rfl, Kd.zbw hR' fun k hk => ⟨trivial, fun e => ?_⟩⟩⟩⟩
 simp only [Value.ownBlock, Option.some.injEq] at e
 exact hk.2 e
end
def numM (l : List Mk) : List (Mk × Value) := l.zipIdx.map fun p => (p.1, .int .i64 (p.2 : Int))
theorem numM_snoc (l : List Mk) (m : Mk) : numM (l ++ [m]) = numM l ++ [(m, .int .i64 (l.length : Int))] := by
 unfold numM
 rw [List.zipIdx_append, List.map_append]
 simp
theorem numM_keys (l : List Mk) : (numM l).map (·.1) = l := by
 unfold numM
 rw [List.map_map]
 have : ∀ (l : List Mk) (n : Nat), (l.zipIdx n).map ((fun x : Mk × Value => x.1) ∘ fun p => (p.1, Value.int .i64 (p.2 : Int))) = l := fun l => by
  induction l with
  | nil => intro n; rfl
  | cons a t ih => intro n; simp only [List.zipIdx_cons, List.map_cons, ih]; rfl
 exact this l 0
theorem put_new {M : List (Mk × Value)} {x : Mk} (h : x ∉ M.map (·.1)) (v : Value) : putM M x v = M ++ [(x, v)] := by
 induction M with
 | nil => rfl
 | cons a L ih =>
  have h1 : ¬ a.1 = x := fun e => h (by rw [← e]; exact List.mem_cons_self)
  have h2 : x ∉ L.map (·.1) := fun k => h (List.mem_cons_of_mem _ k)
  show (if a.1 = x then _ else _ :: putM L x _) = _
  rw [if_neg h1, ih h2]
  rfl
theorem look_numM {ks : List Mk} {m : Mk} (hm : m ∈ ks) : GMap.look (numM ks) m = some (.int .i64 (idx ks m)) := by
 have key : ∀ (l : List Mk) (n : Nat), m ∈ l → GMap.look ((l.zipIdx n).map fun p => (p.1, Value.int .i64 (p.2 : Int))) m = some (.int .i64 ((n + l.findIdx (· == m) : Nat) : Int)) := fun l => by
  induction l with
  | nil => intro n h; cases h
  | cons a t ih =>
   intro n h
   simp only [List.zipIdx_cons, List.map_cons, GMap.look, List.findIdx_cons]
   by_cases e : a = m
   ·subst e
    simp
   ·rw [if_neg e, ih (n + 1) ((List.mem_cons.1 h).resolve_left (fun e2 => e e2.symm))]
    have : (a == m) = false := by simp [e]
    rw [this]
    simp only [cond_false]
    congr 3
    omega
 have := key ks 0 hm
 unfold numM idx
 rw [this, Nat.zero_add]
theorem infoN : (Try.prog.info? TN).map (fun i => (i.zero, i.size, i.bytes)) = some (some (.agg #[.int .i64 0, .int .i64 0, .slice none 0 0]), 3, 40) := by kernel_rfl
theorem infoI : (Try.prog.info? TI).map (fun i => (i.zero, i.size, i.bytes)) = some (some (.int .i64 0), 1, 8) := by kernel_rfl
theorem zbe.own {W W' : World} {base n size : Nat} {e : TypeId} {v : Value} {xs : List Value} (hg : W.grownBy W' v.ownBlock) (ho : W.ownsRow base e size v n xs) : zbe W W' := zbe.grown hg (fun k hk es c hm => by
 obtain ⟨cs, hc⟩ := zdq ho k hk
 rw [hm] at hc
 cases hc)
theorem perm_keys {a b : List Mk} (ha : a.Nodup) (hb : b.Nodup) (h : ∀ x, x ∈ a ↔ x ∈ b) : isM a = isM b ∧ a.length = b.length := by
 refine ⟨zdw zdu (fun h k => zdp h k) (zeq ha) (zeq hb) (fun x => zbx.trans ((h x).trans zbx.symm)), ?_⟩
 have h1 := zdv a b ha (fun x hx => (h x).1 hx)
 have h2 := zdv b a hb (fun x hx => (h x).2 hx)
 omega
theorem zbf.far {gb base B nb : Nat} {L : Gx} {W W' : World} (h : zbf gb base B L W) (hg : W.grownBy W' (some nb)) (hlt : gb < nb ∧ ∀ t ∈ L, t.2.1 < nb) : zbf gb base B L W' :=
 ⟨h.top.keep (hg.block _ h.top.lt (fun e => by injection e with e; have := hlt.1; omega)), fun t ht => ⟨(h.own t ht).1, (h.own t ht).2.keep (hg.block _ (h.own t ht).2.lt (fun e => by injection e with e; have := hlt.2 t ht; omega))⟩, h.nd, h.few, h.gbase⟩
theorem zbf.lts {gb base B : Nat} {L : Gx} {W : World} (h : zbf gb base B L W) : gb < W.heap.size ∧ ∀ t ∈ L, t.2.1 < W.heap.size := ⟨h.top.lt, fun t ht => (h.own t ht).2.lt⟩
theorem put_numM {ks : List Mk} (hn : ks.Nodup) {j : Nat} {m : Mk} (hj : ks[j]? = some m) : putM (numM (ks.take j)) m (.int .i64 (j : Int)) = numM (ks.take (j + 1)) := by
 have hl := (List.getElem?_eq_some_iff.1 hj).1
 rw [put_new, zc6 hj, numM_snoc, List.length_take, Nat.min_eq_left (by omega)]
 rw [numM_keys]
 intro h
 obtain ⟨i, hi⟩ := List.getElem?_of_mem h
 have hil := (List.getElem?_eq_some_iff.1 hi).1
 rw [List.length_take] at hil
 rw [List.getElem?_take_of_lt (by omega)] at hi
 have := zfr hn hi hj
 omega
theorem isI_congr {a b : List Int} (ha : a.Nodup) (hb : b.Nodup) (h : ∀ x, x ∈ a ↔ x ∈ b) : isI a = isI b :=
 zdw (lt := (· < ·)) (fun a => Int.lt_irrefl a) (fun {a b c} => Int.lt_trans) (zgi ha) (zgi hb) (fun x => zbx.trans ((h x).trans zbx.symm))
theorem kept_maps {W W' : World} {base n size : Nat} {e : TypeId} {v : Value} {xs : List Value} (hk : Kept W W' (fun k => some k = v.ownBlock)) (ho : W.ownsRow base e size v n xs) : zbe W W' := fun k es c hm => (hk.2 k (zbj hm) (fun e => by
 obtain ⟨cs, hc⟩ := zdq ho k e.symm
 rw [hm] at hc
 cases hc)).trans hm
theorem kept_box {W W' : World} {base n size b : Nat} {e t : TypeId} {u v : Value} {xs : List Value} (h : Boxed W b t u) (hk : Kept W W' (fun k => some k = v.ownBlock)) (ho : W.ownsRow base e size v n xs) (hne : e ≠ t) : Boxed W' b t u := (hk.2 b h.lt (fun e => own_ne ho h hne e)).trans h
def zc0 (base s : Nat) (ks : List Mk) (G : Gr) (j : Nat) (rows : List (Mk × Value)) (W : World) : Prop :=
 rows.length = ks.length ∧ ∀ (i : Nat) (m : Mk), ks[i]? = some m → ∃ lv, rows[i]? = some (m, lv) ∧ (i < j → Kd.R (Kd.int .i64) TI W base (fun k => k < s) lv (isI ((lks G m).map (idx ks)))) ∧ (j ≤ i → lv = .slice none 0 0)
theorem zc0.step {base s : Nat} {ks : List Mk} {G : Gr} {j : Nat} {rows : List (Mk × Value)} {W W' : World} (h : zc0 base s ks G j rows W)
  (hm : ∀ (k : Nat) (cs : Array Value), k < s → W.heap[k]? = some (.cells cs TI (0, 0)) → W'.heap[k]? = W.heap[k]?) : zc0 base s ks G j rows W' := by
 refine ⟨h.1, fun i m hi => ?_⟩
 obtain ⟨lv, h1, h2, h3⟩ := h.2 i m hi
 refine ⟨lv, h1, fun hij => ?_, h3⟩
 refine Kd.zbw (Kd.zfi (Kd.zc7 (h2 hij)) fun k hk _ => ?_) (fun k hk => hk.1)
 obtain ⟨h4, _, _, q, hq, cs, hc⟩ := hk
 obtain rfl : q = TI := by simpa [Kd.int, Kd.scalar] using hq
 exact hm k cs h4 hc
theorem zc0.kept {base s : Nat} {ks : List Mk} {G : Gr} {j : Nat} {rows : List (Mk × Value)} {W W' : World} (h : zc0 base s ks G j rows W) (hk : zaz W W') : zc0 base s ks G j rows W' :=
 h.step fun k cs _ hc => (hk _ _ _ _ hc).trans hc.symm
theorem zc0.next {base s s' : Nat} {ks : List Mk} {G : Gr} {j : Nat} {rows : List (Mk × Value)} {W : World} (h : zc0 base s ks G j rows W) (hs : s ≤ s') {m : Mk} (hm : ks[j]? = some m) {lv : Value}
  (hR : Kd.R (Kd.int .i64) TI W base (fun k => k < s') lv (isI ((lks G m).map (idx ks)))) : zc0 base s' ks G (j + 1) (rows.set j (m, lv)) W := by
 have hjl := (List.getElem?_eq_some_iff.1 hm).1
 refine ⟨by rw [List.length_set]; exact h.1, fun i m' hi => ?_⟩
 obtain ⟨lv', h1, h2, h3⟩ := h.2 i m' hi
 by_cases e : i = j
 ·subst e
  rw [hm] at hi
  obtain rfl := Option.some.inj hi
  exact ⟨lv, by rw [List.getElem?_set, if_pos rfl, if_pos (by rw [h.1]; exact hjl)], fun _ => hR, fun h => absurd h (by omega)⟩
 ·exact ⟨lv', by rw [List.getElem?_set, if_neg (fun h => e h.symm)]; exact h1, fun hij => Kd.zbw (h2 (by omega)) (fun k hk => Nat.lt_of_lt_of_le hk hs), fun hij => h3 (by omega)⟩
theorem zc0.done {base s : Nat} {ks : List Mk} {G : Gr} {rows : List (Mk × Value)} {W : World} {tb cap : Nat} (h : zc0 base s ks G ks.length rows W) (hT : zcj tb cap rows W) (hb : base ≤ tb) :
  Kd.R kN TN W base (fun _ => True) (.slice (some ⟨tb, 0, none⟩) ks.length cap) (ks.map fun m => (m.2, m.1, isI ((lks G m).map (idx ks)))) := by
 have hl : (ks.map fun m : Mk => (m.2, m.1, isI ((lks G m).map (idx ks)))).length = ks.length := List.length_map _
 have := hT.toR (xs := ks.map fun m => (m.2, m.1, isI ((lks G m).map (idx ks)))) hb (by rw [hl, h.1]) (fun i x hi => by
  rw [List.getElem?_map] at hi
  obtain ⟨m, hm, rfl⟩ := Option.map_eq_some_iff.1 hi
  obtain ⟨lv, h1, h2, _⟩ := h.2 i m hm
  exact ⟨lv, h1, _, h2 (List.getElem?_eq_some_iff.1 hm).1⟩)
 rw [hl] at this
 exact this
theorem R_none {W : World} {base : Nat} {ok : Nat → Prop} {A : Option Addr} {c : Nat} (h : Kd.R kM0 TN W base ok (.slice A 0 c) []) : Kd.R kN TN W base (fun _ => True) (.slice A 0 c) [] := by
 obtain ⟨h0, inner, ho, hr⟩ := h
 exact ⟨fun _ _ => trivial, inner, ho, hr.1, fun j p hj => by simp at hj⟩
theorem links_of {gb base B : Nat} {L : Gx} {W : World} (h : zbf gb base B L W) {m : Mk} {b : Nat} {ls : List Mk} (ht : (m, b, ls) ∈ L) : lks (toG L) m = ls := lks_of h.keysNd (p := (m, ls)) (List.mem_map.2 ⟨_, ht, rfl⟩)
theorem zg8 (ls : List Mk) : (rowB ls).map (·.1) = ls := by unfold rowB; rw [List.map_map]; exact List.map_id _
theorem R_ck {α : Type} {d : Kd α} {e base : Nat} {ok : Nat → Prop} {W W' : World} {v : Value} {xs : List α} (h : d.R e W base ok v xs) (hk : zaz W W') : d.R e W' base ok v xs :=
 Kd.zbw (Kd.zfi (Kd.zc7 h) fun k hk' _ => by
  obtain ⟨_, _, _, q, _, cs, hc⟩ := hk'
  exact (hk _ _ _ _ hc).trans hc.symm) (fun k hk => hk.1)
theorem idx_nodup {ks : List Mk} {l : List Mk} (hl : l.Nodup) (h : ∀ m ∈ l, m ∈ ks) : (l.map (idx ks)).Nodup :=
 List.pairwise_map.2 (hl.imp_of_mem fun {a b} ha hb hne e => hne (idx_inj (h a ha) (h b hb) e))
theorem zie {W W' : World} {r : Nat} (hg : W.grownBy W' (some r)) (hi : ∃ m s e c, W.heap[r]? = some (.mapIter m s e c)) : zaz W W' := zaz.grown hg (fun k e cs t fr hk => by
 obtain ⟨m, s, e2, c, hi⟩ := hi
 injection e with e
 rw [← e, hi] at hk
 cases hk)
theorem iter_maps {W W' : World} {r : Nat} (hg : W.grownBy W' (some r)) (hi : ∃ m s e c, W.heap[r]? = some (.mapIter m s e c)) : zbe W W' := zbe.grown hg (fun k e es c2 hk => by
 obtain ⟨m, s, e2, c, hi⟩ := hi
 injection e with e
 rw [← e, hi] at hk
 cases hk)
theorem iter_kept {W W' : World} {base n size : Nat} {e : TypeId} {v : Value} {xs : List Value} {r : Nat} (hg : W.grownBy W' v.ownBlock) (ho : W.ownsRow base e size v n xs) (hi : ∃ m s e c, W.heap[r]? = some (.mapIter m s e c)) : W'.heap[r]? = W.heap[r]? := by
 obtain ⟨m, s, e2, c, hi⟩ := hi
 exact hg.block r (zbj hi) (fun e => by
  obtain ⟨cs, hc⟩ := zdq ho r e.symm
  rw [hi] at hc
  cases hc)
end Go.Proofs.ZZ.GTop
end
